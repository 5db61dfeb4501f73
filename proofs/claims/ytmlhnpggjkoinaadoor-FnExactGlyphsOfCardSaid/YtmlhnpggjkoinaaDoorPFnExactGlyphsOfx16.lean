-- Written by a program of this session (wip/tools/myprint.py) that runs the kit's print with hooks of its own. Lean checks it.
import Derived.Test.YtmlhnpggjkoinaaDoorPFnExactGlyphsOfx0
import Derived.Test.YtmlhnpggjkoinaaDoorSlimMore
import Derived.Test.YtmlhnpggjkoinaaDoorPFnExactGlyphsOfx9
import Derived.Test.YtmlhnpggjkoinaaDoorPFnExactGlyphsOfx15
namespace Go.Proofs.YtmlhnpggjkoinaaDoor.PFnExactGlyphsOf
open Go.RowKit Go.Proofs.YtmlhnpggjkoinaaDoorW.PrintWords Go.Proofs.YtmlhnpggjkoinaaDoorW.PrintLast Go.Proofs.YtmlhnpggjkoinaaDoorW.PrintMore
attribute [local go_sem] max2_int min2_int max_two min_two max_three min_three max_four min_four   -- for this text's walks alone
set_option linter.unusedVariables false
set_option linter.unusedSimpArgs false

/-! ### laws_heldGlyphS: function 39 -/
def laws_heldGlyphS.l0 : Nat → List (S68) → Int → Int → Option (Int)
 | 0, _, _, _ => none
 | k + 1, x0, x1, x5 => if x5 < (x0.length : Int) then (if 0 ≤ x5 then (if ((rd_T68 x0 x5).f0) = x1 then (if ((rd_T68 x0 x5).f1) = (wrap64 (x1 + 1)) then (if ((rd_T68 x0 x5).f2) = (wrap64 ((wrap64 (x1 + 1)) + 1)) then (if ((rd_T68 x0 x5).f3) = (wrap64 ((wrap64 ((wrap64 (x1 + 1)) + 1)) + 1)) then (if ((rd_T68 x0 x5).f4) = (wrap64 ((wrap64 ((wrap64 ((wrap64 (x1 + 1)) + 1)) + 1)) + 1)) then (laws_heldGlyphS.l0 k x0 (wrap64 ((wrap64 ((wrap64 ((wrap64 ((wrap64 (x1 + 1)) + 1)) + 1)) + 1)) + 1)) (wrap64 (x5 + 1))) else (some (-1))) else (some (-1))) else (some (-1))) else (some (-1))) else (some (-1))) else (none)) else (some x1)
def laws_heldGlyphS.f (k : Nat) (l0 : List (S68)) (a1 : Int) : Option (Int) := laws_heldGlyphS.l0 k l0 a1 0
theorem laws_heldGlyphS.mono_l : ∀ k, (∀ y0 y1 y2, LeO (laws_heldGlyphS.l0 k y0 y1 y2) (laws_heldGlyphS.l0 (k + 1) y0 y1 y2))
 | 0 => fun _ _ _ r h => by simp [laws_heldGlyphS.l0] at h
 | k + 1 => by
  have ih0 := laws_heldGlyphS.mono_l k
  ·intro y0 y1 y2
   unfold laws_heldGlyphS.l0
   repeat' (first | (with_reducible first | exact ih0 .. | exact LeO.refl _ | exact LeO.none _ | refine LeO.ite ?_ ?_ | refine LeO.bind ?_ (fun _ => ?_)) | exact ih0 .. | exact LeO.none _ | refine LeO.ite ?_ ?_ | refine LeO.bind ?_ (fun _ => ?_))
theorem laws_heldGlyphS.mono : ∀ a0 a1 k, LeO (laws_heldGlyphS.f k a0 a1) (laws_heldGlyphS.f (k + 1) a0 a1) := by
 intro a0 a1 k
 have ih0 := laws_heldGlyphS.mono_l k
 unfold laws_heldGlyphS.f
 repeat' (first | (with_reducible first | exact ih0 .. | exact LeO.refl _ | exact LeO.none _ | refine LeO.ite ?_ ?_ | refine LeO.bind ?_ (fun _ => ?_)) | exact ih0 .. | exact LeO.none _ | refine LeO.ite ?_ ?_ | refine LeO.bind ?_ (fun _ => ?_))
set_option maxHeartbeats 8000000 in
set_option maxRecDepth 100000 in
theorem laws_heldGlyphS.calls (k : Nat) (A0 : Option Addr) (c0 : Nat) (l0 : List (S68)) (a1 : Int) (r : Int) (w : World) (hr0 : Kd.C k68 w A0 l0.length l0) (hc0 : l0.length ≤ c0) (h : laws_heldGlyphS.f k l0 a1 = some r) :
  Calls Tryd.prog 39 #[.slice A0 l0.length c0, .int .i64 a1] w fun e w' => e = .returned (.int .i64 r) ∧ Drawn0 w w' := by
 have HR0 := am hr0
 have HC0 := am hc0
 clear hr0 hc0
 have H : (laws_heldGlyphS.l0 k l0 a1 0) = some r := h
 clear h
 have H' := am H
 clear H
 go_enter Tryd.func39, Tryd.ntmps39
 go_wp2
 go_loopg [1, 5] k (fun kq v1 v5 w' => ∃ (x1_1 : Int) (x5_1 : Int), v1 = .int .i64 x1_1 ∧ v5 = .int .i64 x5_1 ∧ Aside0 (laws_heldGlyphS.l0 kq l0 x1_1 x5_1 = some r) ∧ Aside0 (kq ≤ k) ∧ Drawn0 w w')
 case atStart => exact ⟨(a1), (0), sr, sr, H', ⟨Nat.le_refl _⟩, dz⟩
 case round =>
  clear H'
  obtain ⟨x1_1, x5_1, rfl, rfl, HA, HK1, ⟨m1, rfl⟩⟩ := hrel
  cases gk with
  | zero => exact absurd HA.out (by simp [laws_heldGlyphS.l0])
  | succ k1 =>
   have H := HA.out
   clear HA
   simp only [laws_heldGlyphS.l0] at H
   by_cases c3 : x5_1 < (l0.length : Int)
   rotate_left
   ·rw [if_neg c3] at H
    have c3b0 : decide (x5_1 < (l0.length : Int)) = false := decide_eq_false c3
    clear c3
    obtain rfl := Option.some.inj H
    go_wp2
    go_ret
    exact rdd
   rw [if_pos c3] at H
   have c3b0 : decide (x5_1 < (l0.length : Int)) = true := decide_eq_true c3
   clear c3
   replace H := iteN H
   obtain ⟨c4, H⟩ := H
   have c4b0 : decide (0 ≤ x5_1) = true := decide_eq_true c4
   clear c4
   by_cases c5 : ((rd_T68 l0 x5_1).f0) = x1_1
   rotate_left
   ·rw [if_neg c5] at H
    have c5b0 : (((rd_T68 l0 x5_1).f0) == x1_1) = false := beq_eq_false_iff_ne.mpr c5
    have c5b1 : (((rd_T68 l0 x5_1).f0) != x1_1) = true := bne_iff_ne.mpr c5
    obtain rfl := Option.some.inj H
    have p438 : 0 ≤ (x5_1 : Int) := od
    have q438 : x5_1 < (l0.length : Int) := od
    obtain ⟨ad438, e438, hx438_0, hx438_1, hx438_2, hx438_3, hx438_4⟩ := at_T68 HR0.out x5_1 p438 q438
    cases e438
    replace p438 := eq_true p438
    replace q438 := eq_true q438
    go_wp2
    go_ret
    exact rdd
   rw [if_pos c5] at H
   have c5b0 : (((rd_T68 l0 x5_1).f0) == x1_1) = true := beq_iff_eq.mpr c5
   have c5b1 : (((rd_T68 l0 x5_1).f0) != x1_1) = false := bne_eq_false_iff_eq.mpr c5
   clear c5
   by_cases c6 : ((rd_T68 l0 x5_1).f1) = (wrap64 (x1_1 + 1))
   rotate_left
   ·rw [if_neg c6] at H
    have c6b0 : (((rd_T68 l0 x5_1).f1) == (wrap64 (x1_1 + 1))) = false := beq_eq_false_iff_ne.mpr c6
    have c6b1 : (((rd_T68 l0 x5_1).f1) != (wrap64 (x1_1 + 1))) = true := bne_iff_ne.mpr c6
    obtain rfl := Option.some.inj H
    have p438 : 0 ≤ (x5_1 : Int) := od
    have q438 : x5_1 < (l0.length : Int) := od
    obtain ⟨ad438, e438, hx438_0, hx438_1, hx438_2, hx438_3, hx438_4⟩ := at_T68 HR0.out x5_1 p438 q438
    cases e438
    replace p438 := eq_true p438
    replace q438 := eq_true q438
    have p439 : 0 ≤ (x5_1 : Int) := od
    have q439 : x5_1 < (l0.length : Int) := od
    obtain ⟨ad439, e439, hx439_0, hx439_1, hx439_2, hx439_3, hx439_4⟩ := at_T68 HR0.out x5_1 p439 q439
    obtain rfl : ad438 = ad439 := (by injection e439)
    replace p439 := eq_true p439
    replace q439 := eq_true q439
    go_wp2
    go_ret
    exact rdd
   rw [if_pos c6] at H
   have c6b0 : (((rd_T68 l0 x5_1).f1) == (wrap64 (x1_1 + 1))) = true := beq_iff_eq.mpr c6
   have c6b1 : (((rd_T68 l0 x5_1).f1) != (wrap64 (x1_1 + 1))) = false := bne_eq_false_iff_eq.mpr c6
   clear c6
   by_cases c7 : ((rd_T68 l0 x5_1).f2) = (wrap64 ((wrap64 (x1_1 + 1)) + 1))
   rotate_left
   ·rw [if_neg c7] at H
    have c7b0 : (((rd_T68 l0 x5_1).f2) == (wrap64 ((wrap64 (x1_1 + 1)) + 1))) = false := beq_eq_false_iff_ne.mpr c7
    have c7b1 : (((rd_T68 l0 x5_1).f2) != (wrap64 ((wrap64 (x1_1 + 1)) + 1))) = true := bne_iff_ne.mpr c7
    obtain rfl := Option.some.inj H
    have p438 : 0 ≤ (x5_1 : Int) := od
    have q438 : x5_1 < (l0.length : Int) := od
    obtain ⟨ad438, e438, hx438_0, hx438_1, hx438_2, hx438_3, hx438_4⟩ := at_T68 HR0.out x5_1 p438 q438
    cases e438
    replace p438 := eq_true p438
    replace q438 := eq_true q438
    have p439 : 0 ≤ (x5_1 : Int) := od
    have q439 : x5_1 < (l0.length : Int) := od
    obtain ⟨ad439, e439, hx439_0, hx439_1, hx439_2, hx439_3, hx439_4⟩ := at_T68 HR0.out x5_1 p439 q439
    obtain rfl : ad438 = ad439 := (by injection e439)
    replace p439 := eq_true p439
    replace q439 := eq_true q439
    have p440 : 0 ≤ (x5_1 : Int) := od
    have q440 : x5_1 < (l0.length : Int) := od
    obtain ⟨ad440, e440, hx440_0, hx440_1, hx440_2, hx440_3, hx440_4⟩ := at_T68 HR0.out x5_1 p440 q440
    obtain rfl : ad438 = ad440 := (by injection e440)
    replace p440 := eq_true p440
    replace q440 := eq_true q440
    go_wp2
    go_ret
    exact rdd
   rw [if_pos c7] at H
   have c7b0 : (((rd_T68 l0 x5_1).f2) == (wrap64 ((wrap64 (x1_1 + 1)) + 1))) = true := beq_iff_eq.mpr c7
   have c7b1 : (((rd_T68 l0 x5_1).f2) != (wrap64 ((wrap64 (x1_1 + 1)) + 1))) = false := bne_eq_false_iff_eq.mpr c7
   clear c7
   by_cases c8 : ((rd_T68 l0 x5_1).f3) = (wrap64 ((wrap64 ((wrap64 (x1_1 + 1)) + 1)) + 1))
   rotate_left
   ·rw [if_neg c8] at H
    have c8b0 : (((rd_T68 l0 x5_1).f3) == (wrap64 ((wrap64 ((wrap64 (x1_1 + 1)) + 1)) + 1))) = false := beq_eq_false_iff_ne.mpr c8
    have c8b1 : (((rd_T68 l0 x5_1).f3) != (wrap64 ((wrap64 ((wrap64 (x1_1 + 1)) + 1)) + 1))) = true := bne_iff_ne.mpr c8
    obtain rfl := Option.some.inj H
    have p438 : 0 ≤ (x5_1 : Int) := od
    have q438 : x5_1 < (l0.length : Int) := od
    obtain ⟨ad438, e438, hx438_0, hx438_1, hx438_2, hx438_3, hx438_4⟩ := at_T68 HR0.out x5_1 p438 q438
    cases e438
    replace p438 := eq_true p438
    replace q438 := eq_true q438
    have p439 : 0 ≤ (x5_1 : Int) := od
    have q439 : x5_1 < (l0.length : Int) := od
    obtain ⟨ad439, e439, hx439_0, hx439_1, hx439_2, hx439_3, hx439_4⟩ := at_T68 HR0.out x5_1 p439 q439
    obtain rfl : ad438 = ad439 := (by injection e439)
    replace p439 := eq_true p439
    replace q439 := eq_true q439
    have p440 : 0 ≤ (x5_1 : Int) := od
    have q440 : x5_1 < (l0.length : Int) := od
    obtain ⟨ad440, e440, hx440_0, hx440_1, hx440_2, hx440_3, hx440_4⟩ := at_T68 HR0.out x5_1 p440 q440
    obtain rfl : ad438 = ad440 := (by injection e440)
    replace p440 := eq_true p440
    replace q440 := eq_true q440
    have p441 : 0 ≤ (x5_1 : Int) := od
    have q441 : x5_1 < (l0.length : Int) := od
    obtain ⟨ad441, e441, hx441_0, hx441_1, hx441_2, hx441_3, hx441_4⟩ := at_T68 HR0.out x5_1 p441 q441
    obtain rfl : ad438 = ad441 := (by injection e441)
    replace p441 := eq_true p441
    replace q441 := eq_true q441
    go_wp2
    go_ret
    exact rdd
   rw [if_pos c8] at H
   have c8b0 : (((rd_T68 l0 x5_1).f3) == (wrap64 ((wrap64 ((wrap64 (x1_1 + 1)) + 1)) + 1))) = true := beq_iff_eq.mpr c8
   have c8b1 : (((rd_T68 l0 x5_1).f3) != (wrap64 ((wrap64 ((wrap64 (x1_1 + 1)) + 1)) + 1))) = false := bne_eq_false_iff_eq.mpr c8
   clear c8
   by_cases c9 : ((rd_T68 l0 x5_1).f4) = (wrap64 ((wrap64 ((wrap64 ((wrap64 (x1_1 + 1)) + 1)) + 1)) + 1))
   rotate_left
   ·rw [if_neg c9] at H
    have c9b0 : (((rd_T68 l0 x5_1).f4) == (wrap64 ((wrap64 ((wrap64 ((wrap64 (x1_1 + 1)) + 1)) + 1)) + 1))) = false := beq_eq_false_iff_ne.mpr c9
    have c9b1 : (((rd_T68 l0 x5_1).f4) != (wrap64 ((wrap64 ((wrap64 ((wrap64 (x1_1 + 1)) + 1)) + 1)) + 1))) = true := bne_iff_ne.mpr c9
    obtain rfl := Option.some.inj H
    have p438 : 0 ≤ (x5_1 : Int) := od
    have q438 : x5_1 < (l0.length : Int) := od
    obtain ⟨ad438, e438, hx438_0, hx438_1, hx438_2, hx438_3, hx438_4⟩ := at_T68 HR0.out x5_1 p438 q438
    cases e438
    replace p438 := eq_true p438
    replace q438 := eq_true q438
    have p439 : 0 ≤ (x5_1 : Int) := od
    have q439 : x5_1 < (l0.length : Int) := od
    obtain ⟨ad439, e439, hx439_0, hx439_1, hx439_2, hx439_3, hx439_4⟩ := at_T68 HR0.out x5_1 p439 q439
    obtain rfl : ad438 = ad439 := (by injection e439)
    replace p439 := eq_true p439
    replace q439 := eq_true q439
    have p440 : 0 ≤ (x5_1 : Int) := od
    have q440 : x5_1 < (l0.length : Int) := od
    obtain ⟨ad440, e440, hx440_0, hx440_1, hx440_2, hx440_3, hx440_4⟩ := at_T68 HR0.out x5_1 p440 q440
    obtain rfl : ad438 = ad440 := (by injection e440)
    replace p440 := eq_true p440
    replace q440 := eq_true q440
    have p441 : 0 ≤ (x5_1 : Int) := od
    have q441 : x5_1 < (l0.length : Int) := od
    obtain ⟨ad441, e441, hx441_0, hx441_1, hx441_2, hx441_3, hx441_4⟩ := at_T68 HR0.out x5_1 p441 q441
    obtain rfl : ad438 = ad441 := (by injection e441)
    replace p441 := eq_true p441
    replace q441 := eq_true q441
    have p442 : 0 ≤ (x5_1 : Int) := od
    have q442 : x5_1 < (l0.length : Int) := od
    obtain ⟨ad442, e442, hx442_0, hx442_1, hx442_2, hx442_3, hx442_4⟩ := at_T68 HR0.out x5_1 p442 q442
    obtain rfl : ad438 = ad442 := (by injection e442)
    replace p442 := eq_true p442
    replace q442 := eq_true q442
    go_wp2
    go_ret
    exact rdd
   rw [if_pos c9] at H
   have c9b0 : (((rd_T68 l0 x5_1).f4) == (wrap64 ((wrap64 ((wrap64 ((wrap64 (x1_1 + 1)) + 1)) + 1)) + 1))) = true := beq_iff_eq.mpr c9
   have c9b1 : (((rd_T68 l0 x5_1).f4) != (wrap64 ((wrap64 ((wrap64 ((wrap64 (x1_1 + 1)) + 1)) + 1)) + 1))) = false := bne_eq_false_iff_eq.mpr c9
   clear c9
   have H' := am H
   clear H
   have p438 : 0 ≤ (x5_1 : Int) := od
   have q438 : x5_1 < (l0.length : Int) := od
   obtain ⟨ad438, e438, hx438_0, hx438_1, hx438_2, hx438_3, hx438_4⟩ := at_T68 HR0.out x5_1 p438 q438
   cases e438
   replace p438 := eq_true p438
   replace q438 := eq_true q438
   have p439 : 0 ≤ (x5_1 : Int) := od
   have q439 : x5_1 < (l0.length : Int) := od
   obtain ⟨ad439, e439, hx439_0, hx439_1, hx439_2, hx439_3, hx439_4⟩ := at_T68 HR0.out x5_1 p439 q439
   obtain rfl : ad438 = ad439 := (by injection e439)
   replace p439 := eq_true p439
   replace q439 := eq_true q439
   have p440 : 0 ≤ (x5_1 : Int) := od
   have q440 : x5_1 < (l0.length : Int) := od
   obtain ⟨ad440, e440, hx440_0, hx440_1, hx440_2, hx440_3, hx440_4⟩ := at_T68 HR0.out x5_1 p440 q440
   obtain rfl : ad438 = ad440 := (by injection e440)
   replace p440 := eq_true p440
   replace q440 := eq_true q440
   have p441 : 0 ≤ (x5_1 : Int) := od
   have q441 : x5_1 < (l0.length : Int) := od
   obtain ⟨ad441, e441, hx441_0, hx441_1, hx441_2, hx441_3, hx441_4⟩ := at_T68 HR0.out x5_1 p441 q441
   obtain rfl : ad438 = ad441 := (by injection e441)
   replace p441 := eq_true p441
   replace q441 := eq_true q441
   have p442 : 0 ≤ (x5_1 : Int) := od
   have q442 : x5_1 < (l0.length : Int) := od
   obtain ⟨ad442, e442, hx442_0, hx442_1, hx442_2, hx442_3, hx442_4⟩ := at_T68 HR0.out x5_1 p442 q442
   obtain rfl : ad438 = ad442 := (by injection e442)
   replace p442 := eq_true p442
   replace q442 := eq_true q442
   go_wp2
   go_roundg k1
   case measure => have := HK1.out; omega
   case rel => exact ⟨(wrap64 ((wrap64 ((wrap64 ((wrap64 ((wrap64 (x1_1 + 1)) + 1)) + 1)) + 1)) + 1)), (wrap64 (x5_1 + 1)), sr, sr, H', ⟨kl⟩, dz⟩
/-! ### laws_FnExactGlyphsOf: function 9 -/
def laws_FnExactGlyphsOf.f (k : Nat) (a0 : ByteArray) : Option (Bool) := if (a0.size : Int) > 1048576 then (some true) else ((spec_GlyphsOf.f k a0).bind fun t443 => ((impl_GlyphsOf.f k a0).bind fun t446 => ((laws_eqGlyphS.f k t446 t443).bind fun t449 => (if t449 = true then ((laws_markGlyphS.f k t446 1).bind fun bt450 => ((laws_heldGlyphS.f k bt450.2 1).bind fun t452 => (if t452 < 0 then (some false) else (if t452 = bt450.1 then ((impl_GlyphsOf.f k a0).bind fun t453 => ((laws_eqGlyphS.f k t453 t443).bind fun t456 => (if t456 = true then ((laws_heldGlyphS.f k bt450.2 1).bind fun t457 => (if t457 < 0 then (some false) else (if t457 = bt450.1 then (some true) else (some false)))) else (some false)))) else (some false))))) else (some false)))))
theorem laws_FnExactGlyphsOf.mono : ∀ a0 k, LeO (laws_FnExactGlyphsOf.f k a0) (laws_FnExactGlyphsOf.f (k + 1) a0) := by
 intro a0 k
 unfold laws_FnExactGlyphsOf.f
 repeat' (first | (with_reducible first | exact impl_GlyphsOf.mono .. | exact laws_eqGlyphS.mono .. | exact laws_heldGlyphS.mono .. | exact laws_markGlyphS.mono .. | exact spec_GlyphsOf.mono .. | exact LeO.refl _ | exact LeO.none _ | refine LeO.ite ?_ ?_ | refine LeO.bind ?_ (fun _ => ?_)) | exact impl_GlyphsOf.mono .. | exact laws_eqGlyphS.mono .. | exact laws_heldGlyphS.mono .. | exact laws_markGlyphS.mono .. | exact spec_GlyphsOf.mono .. | exact LeO.none _ | refine LeO.ite ?_ ?_ | refine LeO.bind ?_ (fun _ => ?_))
set_option maxHeartbeats 8000000 in
set_option maxRecDepth 100000 in
theorem laws_FnExactGlyphsOf.calls (k : Nat) (a0 : ByteArray) (r : Bool) (w : World) (hG : GL w) (h : laws_FnExactGlyphsOf.f k a0 = some r) :
  Calls Tryd.prog 9 #[.string a0] w fun e w' => e = .returned (.bool r) ∧ Below w.heap.size w w' := by
 have HGL := am hG
 clear hG
 have HB := am (Below.refl w.heap.size w)
 have H : (if (a0.size : Int) > 1048576 then (some true) else ((spec_GlyphsOf.f k a0).bind fun t443 => ((impl_GlyphsOf.f k a0).bind fun t446 => ((laws_eqGlyphS.f k t446 t443).bind fun t449 => (if t449 = true then ((laws_markGlyphS.f k t446 1).bind fun bt450 => ((laws_heldGlyphS.f k bt450.2 1).bind fun t452 => (if t452 < 0 then (some false) else (if t452 = bt450.1 then ((impl_GlyphsOf.f k a0).bind fun t453 => ((laws_eqGlyphS.f k t453 t443).bind fun t456 => (if t456 = true then ((laws_heldGlyphS.f k bt450.2 1).bind fun t457 => (if t457 < 0 then (some false) else (if t457 = bt450.1 then (some true) else (some false)))) else (some false)))) else (some false))))) else (some false)))))) = some r := h
 clear h
 by_cases c2 : (a0.size : Int) > 1048576
 ·rw [if_pos c2] at H
  have c2b0 : decide (1048576 < (a0.size : Int)) = true := decide_eq_true c2
  have c2b1 : decide (1048576 < a0.size) = true := decide_eq_true (by omega)
  clear c2
  obtain rfl := Option.some.inj H
  go_enter Tryd.func9, Tryd.ntmps9
  go_wp2
  go_ret
  exact ⟨rv, bB⟩
 rw [if_neg c2] at H
 have c2b0 : decide (1048576 < (a0.size : Int)) = false := decide_eq_false c2
 have c2b1 : decide (1048576 < a0.size) = false := decide_eq_false (by omega)
 clear c2
 obtain ⟨t443, A3, H⟩ := bb H
 obtain ⟨t446, A4, H⟩ := bb H
 obtain ⟨t449, A5, H⟩ := bb H
 by_cases c6 : t449 = true
 rotate_left
 ·replace c6 := Bool.eq_false_iff.mpr c6
  subst c6
  replace H := iF H
  obtain rfl := Option.some.inj H
  go_enter Tryd.func9, Tryd.ntmps9
  go_wp2_with (first | ((with_reducible refine gate_callee (f := 35) rfl ?_); refine gl 12 Tryd.func35 #[.string a0] ?_; (with_reducible refine (spec_GlyphsOf.calls k a0 t443 _ A3.out).mono ?_); rintro e w65 ⟨v444, rfl, ho0, hb⟩; refine ⟨_, rfl, ?_⟩; have HO445 := am (Kd.R_lower ho0 (below_size bB)); replace HB := am (below_step bB hb); (try clear hb); (try clear ho0)) | ((with_reducible refine gate_callee (f := 36) rfl ?_); refine gl 14 Tryd.func36 #[.string a0] ?_; (with_reducible refine (impl_GlyphsOf.calls k a0 t446 _ ?side1 A4.out).mono ?_); (case side1 => first | exact HGL.out | exact GL_below HGL.out bB); rintro e w66 ⟨v447, rfl, ho0, hb⟩; refine ⟨_, rfl, ?_⟩; have HO448 := am (Kd.R_lower (Kd.R_new' ho0 (Kd.R_lt (kR HO445.out))) (below_size bB)); replace HO445 := am (Kd.R_elder' (kR HO445.out) (Kd.R_base ho0) hb); replace HB := am (below_step bB hb); (try clear hb); (try clear ho0); obtain ⟨Ao67, co67, eo67⟩ := Kd.R_slice HO448.out; subst eo67; obtain ⟨Ao68, co68, eo68⟩ := Kd.R_slice HO445.out; subst eo68) | ((with_reducible refine gate_callee (f := 37) rfl ?_); refine gl 17 Tryd.func37 #[.slice Ao67 t446.length co67, .slice Ao68 t443.length co68] ?_; (with_reducible refine (laws_eqGlyphS.calls k _ _ t446 _ _ t443 false _ ?side1 ?side2 ?side3 ?side4 A5.out).mono ?_); (case side1 => repeat (first | exact (Kd.R_reads' HO448.out).2.2 | (with_reducible refine Kd.C_alloc ?_ _) | (with_reducible refine Kd.C_drewN ?_ _) | (with_reducible refine Kd.C_drew ?_))); (case side2 => exact (Kd.R_reads' HO448.out).2.1); (case side3 => repeat (first | exact (Kd.R_reads' HO445.out).2.2 | (with_reducible refine Kd.C_alloc ?_ _) | (with_reducible refine Kd.C_drewN ?_ _) | (with_reducible refine Kd.C_drew ?_))); (case side4 => exact (Kd.R_reads' HO445.out).2.1); rintro e w69 ⟨rfl, hb⟩; refine ⟨_, rfl, ?_⟩; replace HO445 := am (Kd.R_below (kR HO445.out) hb); replace HO448 := am (Kd.R_below (kR HO448.out) hb); replace HB := am (below_step bB hb); (try clear hb)))
  go_ret
  exact ⟨rv, bB⟩
 subst c6
 replace H := iT H
 replace H := Option.bind_eq_some_iff.mp H
 obtain ⟨⟨t450, t451⟩, A70, H⟩ := H
 replace H : ((laws_heldGlyphS.f k t451 1).bind fun t452 => (if t452 < 0 then (some false) else (if t452 = t450 then ((impl_GlyphsOf.f k a0).bind fun t453 => ((laws_eqGlyphS.f k t453 t443).bind fun t456 => (if t456 = true then ((laws_heldGlyphS.f k t451 1).bind fun t457 => (if t457 < 0 then (some false) else (if t457 = t450 then (some true) else (some false)))) else (some false)))) else (some false)))) = some r := H
 have A7 := am A70
 clear A70
 obtain ⟨t452, A8, H⟩ := bb H
 by_cases c9 : t452 < 0
 ·rw [if_pos c9] at H
  have c9b0 : decide (t452 < 0) = true := decide_eq_true c9
  clear c9
  obtain rfl := Option.some.inj H
  go_enter Tryd.func9, Tryd.ntmps9
  go_wp2_with (first | ((with_reducible refine gate_callee (f := 35) rfl ?_); refine gl 12 Tryd.func35 #[.string a0] ?_; (with_reducible refine (spec_GlyphsOf.calls k a0 t443 _ A3.out).mono ?_); rintro e w10 ⟨v444, rfl, ho0, hb⟩; refine ⟨_, rfl, ?_⟩; have HO445 := am (Kd.R_lower ho0 (below_size bB)); replace HB := am (below_step bB hb); (try clear hb); (try clear ho0)) | ((with_reducible refine gate_callee (f := 36) rfl ?_); refine gl 14 Tryd.func36 #[.string a0] ?_; (with_reducible refine (impl_GlyphsOf.calls k a0 t446 _ ?side1 A4.out).mono ?_); (case side1 => first | exact HGL.out | exact GL_below HGL.out bB); rintro e w11 ⟨v447, rfl, ho0, hb⟩; refine ⟨_, rfl, ?_⟩; have HO448 := am (Kd.R_lower (Kd.R_new' ho0 (Kd.R_lt (kR HO445.out))) (below_size bB)); replace HO445 := am (Kd.R_elder' (kR HO445.out) (Kd.R_base ho0) hb); replace HB := am (below_step bB hb); (try clear hb); (try clear ho0); obtain ⟨Ao12, co12, eo12⟩ := Kd.R_slice HO448.out; subst eo12; obtain ⟨Ao13, co13, eo13⟩ := Kd.R_slice HO445.out; subst eo13) | ((with_reducible refine gate_callee (f := 37) rfl ?_); refine gl 17 Tryd.func37 #[.slice Ao12 t446.length co12, .slice Ao13 t443.length co13] ?_; (with_reducible refine (laws_eqGlyphS.calls k _ _ t446 _ _ t443 true _ ?side1 ?side2 ?side3 ?side4 A5.out).mono ?_); (case side1 => repeat (first | exact (Kd.R_reads' HO448.out).2.2 | (with_reducible refine Kd.C_alloc ?_ _) | (with_reducible refine Kd.C_drewN ?_ _) | (with_reducible refine Kd.C_drew ?_))); (case side2 => exact (Kd.R_reads' HO448.out).2.1); (case side3 => repeat (first | exact (Kd.R_reads' HO445.out).2.2 | (with_reducible refine Kd.C_alloc ?_ _) | (with_reducible refine Kd.C_drewN ?_ _) | (with_reducible refine Kd.C_drew ?_))); (case side4 => exact (Kd.R_reads' HO445.out).2.1); rintro e w14 ⟨rfl, hb⟩; refine ⟨_, rfl, ?_⟩; replace HO445 := am (Kd.R_below (kR HO445.out) hb); replace HO448 := am (Kd.R_below (kR HO448.out) hb); replace HB := am (below_step bB hb); (try clear hb)) | ((with_reducible refine gate_callee (f := 38) rfl ?_); refine gl 21 Tryd.func38 #[.slice Ao12 t446.length co12, .int .i64 1] ?_; (with_reducible refine (laws_markGlyphS.calls k (fun k_ => some k_ = (.slice Ao12 t446.length co12 : Value).ownBlock) (.slice Ao12 t446.length co12) t446 1 t450 t451 w _ ?side1 ?side2 A7.out).mono ?_); (case side1 => repeat (first | (with_reducible first | exact HB.out | apply below_alloc | apply pw_below_drewN | apply below_drew1) | exact HB.out)); (case side2 => exact Kd.R_tight rfl HO448.out); rintro e w15 ⟨rfl, hy0, hb, hkp⟩; refine ⟨_, rfl, ?_⟩; replace HO445 := am (Kd.R_mono (ok' := fun k_ => some k_ ≠ (.slice Ao12 t446.length co12 : Value).ownBlock) (Kd.R_keptB (HO445.out) hkp (fun k_ hk_ hs_ => (hk_.2) hs_)) (fun k_ hk_ => hk_.1.2)); replace HO448 := am (Kd.R_reok rfl hy0 (fun k_ e_ => HO448.out.1 k_ e_)); replace HB := am (hb); (try clear hb); (try clear hkp); (try clear hy0)) | ((with_reducible refine gate_callee (f := 39) rfl ?_); refine goesL_ (some 24) rfl rfl Tryd.func39 (by kernel_rfl) rfl #[.slice Ao12 t451.length co12, .int .i64 1] rfl (by (try simp only [List.map_toArray, List.map_cons, List.map_nil]); first | done | (rw [show t451.length = t446.length from (Kd.R_reads' HO448.out).1.symm] <;> rfl) | rfl | (simp only [List.length_drop, List.length_take]; rfl)) ?_; (with_reducible refine (laws_heldGlyphS.calls k _ _ t451 1 t452 _ ?side1 ?side2 A8.out).mono ?_); (case side1 => repeat (first | exact (Kd.R_reads' HO448.out).2.2 | (with_reducible refine Kd.C_alloc ?_ _) | (with_reducible refine Kd.C_drewN ?_ _) | (with_reducible refine Kd.C_drew ?_))); (case side2 => rw [show t451.length = t446.length from (Kd.R_reads' HO448.out).1.symm]; exact (Kd.R_reads' HO448.out).2.1); rintro e w' ⟨rfl, ⟨nd, rfl⟩⟩; refine ⟨_, rfl, ?_⟩))
  go_ret
  exact ⟨rv, bB⟩
 rw [if_neg c9] at H
 have c9b0 : decide (t452 < 0) = false := decide_eq_false c9
 clear c9
 by_cases c16 : t452 = t450
 rotate_left
 ·rw [if_neg c16] at H
  have c16b0 : (t452 == t450) = false := beq_eq_false_iff_ne.mpr c16
  have c16b1 : (t452 != t450) = true := bne_iff_ne.mpr c16
  obtain rfl := Option.some.inj H
  go_enter Tryd.func9, Tryd.ntmps9
  go_wp2_with (first | ((with_reducible refine gate_callee (f := 35) rfl ?_); refine gl 12 Tryd.func35 #[.string a0] ?_; (with_reducible refine (spec_GlyphsOf.calls k a0 t443 _ A3.out).mono ?_); rintro e w59 ⟨v444, rfl, ho0, hb⟩; refine ⟨_, rfl, ?_⟩; have HO445 := am (Kd.R_lower ho0 (below_size bB)); replace HB := am (below_step bB hb); (try clear hb); (try clear ho0)) | ((with_reducible refine gate_callee (f := 36) rfl ?_); refine gl 14 Tryd.func36 #[.string a0] ?_; (with_reducible refine (impl_GlyphsOf.calls k a0 t446 _ ?side1 A4.out).mono ?_); (case side1 => first | exact HGL.out | exact GL_below HGL.out bB); rintro e w60 ⟨v447, rfl, ho0, hb⟩; refine ⟨_, rfl, ?_⟩; have HO448 := am (Kd.R_lower (Kd.R_new' ho0 (Kd.R_lt (kR HO445.out))) (below_size bB)); replace HO445 := am (Kd.R_elder' (kR HO445.out) (Kd.R_base ho0) hb); replace HB := am (below_step bB hb); (try clear hb); (try clear ho0); obtain ⟨Ao61, co61, eo61⟩ := Kd.R_slice HO448.out; subst eo61; obtain ⟨Ao62, co62, eo62⟩ := Kd.R_slice HO445.out; subst eo62) | ((with_reducible refine gate_callee (f := 37) rfl ?_); refine gl 17 Tryd.func37 #[.slice Ao61 t446.length co61, .slice Ao62 t443.length co62] ?_; (with_reducible refine (laws_eqGlyphS.calls k _ _ t446 _ _ t443 true _ ?side1 ?side2 ?side3 ?side4 A5.out).mono ?_); (case side1 => repeat (first | exact (Kd.R_reads' HO448.out).2.2 | (with_reducible refine Kd.C_alloc ?_ _) | (with_reducible refine Kd.C_drewN ?_ _) | (with_reducible refine Kd.C_drew ?_))); (case side2 => exact (Kd.R_reads' HO448.out).2.1); (case side3 => repeat (first | exact (Kd.R_reads' HO445.out).2.2 | (with_reducible refine Kd.C_alloc ?_ _) | (with_reducible refine Kd.C_drewN ?_ _) | (with_reducible refine Kd.C_drew ?_))); (case side4 => exact (Kd.R_reads' HO445.out).2.1); rintro e w63 ⟨rfl, hb⟩; refine ⟨_, rfl, ?_⟩; replace HO445 := am (Kd.R_below (kR HO445.out) hb); replace HO448 := am (Kd.R_below (kR HO448.out) hb); replace HB := am (below_step bB hb); (try clear hb)) | ((with_reducible refine gate_callee (f := 38) rfl ?_); refine gl 21 Tryd.func38 #[.slice Ao61 t446.length co61, .int .i64 1] ?_; (with_reducible refine (laws_markGlyphS.calls k (fun k_ => some k_ = (.slice Ao61 t446.length co61 : Value).ownBlock) (.slice Ao61 t446.length co61) t446 1 t450 t451 w _ ?side1 ?side2 A7.out).mono ?_); (case side1 => repeat (first | (with_reducible first | exact HB.out | apply below_alloc | apply pw_below_drewN | apply below_drew1) | exact HB.out)); (case side2 => exact Kd.R_tight rfl HO448.out); rintro e w64 ⟨rfl, hy0, hb, hkp⟩; refine ⟨_, rfl, ?_⟩; replace HO445 := am (Kd.R_mono (ok' := fun k_ => some k_ ≠ (.slice Ao61 t446.length co61 : Value).ownBlock) (Kd.R_keptB (HO445.out) hkp (fun k_ hk_ hs_ => (hk_.2) hs_)) (fun k_ hk_ => hk_.1.2)); replace HO448 := am (Kd.R_reok rfl hy0 (fun k_ e_ => HO448.out.1 k_ e_)); replace HB := am (hb); (try clear hb); (try clear hkp); (try clear hy0)) | ((with_reducible refine gate_callee (f := 39) rfl ?_); refine goesL_ (some 24) rfl rfl Tryd.func39 (by kernel_rfl) rfl #[.slice Ao61 t451.length co61, .int .i64 1] rfl (by (try simp only [List.map_toArray, List.map_cons, List.map_nil]); first | done | (rw [show t451.length = t446.length from (Kd.R_reads' HO448.out).1.symm] <;> rfl) | rfl | (simp only [List.length_drop, List.length_take]; rfl)) ?_; (with_reducible refine (laws_heldGlyphS.calls k _ _ t451 1 t452 _ ?side1 ?side2 A8.out).mono ?_); (case side1 => repeat (first | exact (Kd.R_reads' HO448.out).2.2 | (with_reducible refine Kd.C_alloc ?_ _) | (with_reducible refine Kd.C_drewN ?_ _) | (with_reducible refine Kd.C_drew ?_))); (case side2 => rw [show t451.length = t446.length from (Kd.R_reads' HO448.out).1.symm]; exact (Kd.R_reads' HO448.out).2.1); rintro e w' ⟨rfl, ⟨nd, rfl⟩⟩; refine ⟨_, rfl, ?_⟩))
  go_ret
  exact ⟨rv, bB⟩
 rw [if_pos c16] at H
 have c16b0 : (t452 == t450) = true := beq_iff_eq.mpr c16
 have c16b1 : (t452 != t450) = false := bne_eq_false_iff_eq.mpr c16
 clear c16
 obtain ⟨t453, A17, H⟩ := bb H
 obtain ⟨t456, A18, H⟩ := bb H
 by_cases c19 : t456 = true
 rotate_left
 ·replace c19 := Bool.eq_false_iff.mpr c19
  subst c19
  replace H := iF H
  obtain rfl := Option.some.inj H
  go_enter Tryd.func9, Tryd.ntmps9
  go_wp2_with (first | ((with_reducible refine gate_callee (f := 35) rfl ?_); refine gl 12 Tryd.func35 #[.string a0] ?_; (with_reducible refine (spec_GlyphsOf.calls k a0 t443 _ A3.out).mono ?_); rintro e w50 ⟨v444, rfl, ho0, hb⟩; refine ⟨_, rfl, ?_⟩; have HO445 := am (Kd.R_lower ho0 (below_size bB)); replace HB := am (below_step bB hb); (try clear hb); (try clear ho0)) | ((with_reducible refine gate_callee (f := 36) rfl ?_); refine gl 14 Tryd.func36 #[.string a0] ?_; (with_reducible refine (impl_GlyphsOf.calls k a0 t446 _ ?side1 A4.out).mono ?_); (case side1 => first | exact HGL.out | exact GL_below HGL.out bB); rintro e w51 ⟨v447, rfl, ho0, hb⟩; refine ⟨_, rfl, ?_⟩; have HO448 := am (Kd.R_lower (Kd.R_new' ho0 (Kd.R_lt (kR HO445.out))) (below_size bB)); replace HO445 := am (Kd.R_elder' (kR HO445.out) (Kd.R_base ho0) hb); replace HB := am (below_step bB hb); (try clear hb); (try clear ho0); obtain ⟨Ao52, co52, eo52⟩ := Kd.R_slice HO448.out; subst eo52; obtain ⟨Ao53, co53, eo53⟩ := Kd.R_slice HO445.out; subst eo53) | ((with_reducible refine gate_callee (f := 37) rfl ?_); refine gl 17 Tryd.func37 #[.slice Ao52 t446.length co52, .slice Ao53 t443.length co53] ?_; (with_reducible refine (laws_eqGlyphS.calls k _ _ t446 _ _ t443 true _ ?side1 ?side2 ?side3 ?side4 A5.out).mono ?_); (case side1 => repeat (first | exact (Kd.R_reads' HO448.out).2.2 | (with_reducible refine Kd.C_alloc ?_ _) | (with_reducible refine Kd.C_drewN ?_ _) | (with_reducible refine Kd.C_drew ?_))); (case side2 => exact (Kd.R_reads' HO448.out).2.1); (case side3 => repeat (first | exact (Kd.R_reads' HO445.out).2.2 | (with_reducible refine Kd.C_alloc ?_ _) | (with_reducible refine Kd.C_drewN ?_ _) | (with_reducible refine Kd.C_drew ?_))); (case side4 => exact (Kd.R_reads' HO445.out).2.1); rintro e w54 ⟨rfl, hb⟩; refine ⟨_, rfl, ?_⟩; replace HO445 := am (Kd.R_below (kR HO445.out) hb); replace HO448 := am (Kd.R_below (kR HO448.out) hb); replace HB := am (below_step bB hb); (try clear hb)) | ((with_reducible refine gate_callee (f := 38) rfl ?_); refine gl 21 Tryd.func38 #[.slice Ao52 t446.length co52, .int .i64 1] ?_; (with_reducible refine (laws_markGlyphS.calls k (fun k_ => some k_ = (.slice Ao52 t446.length co52 : Value).ownBlock) (.slice Ao52 t446.length co52) t446 1 t450 t451 w _ ?side1 ?side2 A7.out).mono ?_); (case side1 => repeat (first | (with_reducible first | exact HB.out | apply below_alloc | apply pw_below_drewN | apply below_drew1) | exact HB.out)); (case side2 => exact Kd.R_tight rfl HO448.out); rintro e w55 ⟨rfl, hy0, hb, hkp⟩; refine ⟨_, rfl, ?_⟩; replace HO445 := am (Kd.R_mono (ok' := fun k_ => some k_ ≠ (.slice Ao52 t446.length co52 : Value).ownBlock) (Kd.R_keptB (HO445.out) hkp (fun k_ hk_ hs_ => (hk_.2) hs_)) (fun k_ hk_ => hk_.1.2)); replace HO448 := am (Kd.R_reok rfl hy0 (fun k_ e_ => HO448.out.1 k_ e_)); replace HB := am (hb); (try clear hb); (try clear hkp); (try clear hy0)) | ((with_reducible refine gate_callee (f := 39) rfl ?_); refine goesL_ (some 24) rfl rfl Tryd.func39 (by kernel_rfl) rfl #[.slice Ao52 t451.length co52, .int .i64 1] rfl (by (try simp only [List.map_toArray, List.map_cons, List.map_nil]); first | done | (rw [show t451.length = t446.length from (Kd.R_reads' HO448.out).1.symm] <;> rfl) | rfl | (simp only [List.length_drop, List.length_take]; rfl)) ?_; (with_reducible refine (laws_heldGlyphS.calls k _ _ t451 1 t452 _ ?side1 ?side2 A8.out).mono ?_); (case side1 => repeat (first | exact (Kd.R_reads' HO448.out).2.2 | (with_reducible refine Kd.C_alloc ?_ _) | (with_reducible refine Kd.C_drewN ?_ _) | (with_reducible refine Kd.C_drew ?_))); (case side2 => rw [show t451.length = t446.length from (Kd.R_reads' HO448.out).1.symm]; exact (Kd.R_reads' HO448.out).2.1); rintro e w' ⟨rfl, ⟨nd, rfl⟩⟩; refine ⟨_, rfl, ?_⟩) | ((with_reducible refine gate_callee (f := 36) rfl ?_); refine gl 31 Tryd.func36 #[.string a0] ?_; (with_reducible refine (impl_GlyphsOf.calls k a0 t453 _ ?side1 A17.out).mono ?_); (case side1 => first | exact HGL.out | exact GL_below HGL.out bB); rintro e w56 ⟨v454, rfl, ho0, hb⟩; refine ⟨_, rfl, ?_⟩; have HO455 := am (Kd.R_lower (Kd.R_new' (Kd.R_new' ho0 (Kd.R_lt (kR HO445.out))) (Kd.R_lt (kR HO448.out))) (below_size bB)); replace HO445 := am (Kd.R_elder' (kR HO445.out) (Kd.R_base ho0) hb); replace HO448 := am (Kd.R_elder' (kR HO448.out) (Kd.R_base ho0) hb); replace HB := am (below_step bB hb); (try clear hb); (try clear ho0); obtain ⟨Ao57, co57, eo57⟩ := Kd.R_slice HO455.out; subst eo57) | ((with_reducible refine gate_callee (f := 37) rfl ?_); refine gl 34 Tryd.func37 #[.slice Ao57 t453.length co57, .slice Ao53 t443.length co53] ?_; (with_reducible refine (laws_eqGlyphS.calls k _ _ t453 _ _ t443 false _ ?side1 ?side2 ?side3 ?side4 A18.out).mono ?_); (case side1 => repeat (first | exact (Kd.R_reads' HO455.out).2.2 | (with_reducible refine Kd.C_alloc ?_ _) | (with_reducible refine Kd.C_drewN ?_ _) | (with_reducible refine Kd.C_drew ?_))); (case side2 => exact (Kd.R_reads' HO455.out).2.1); (case side3 => repeat (first | exact (Kd.R_reads' HO445.out).2.2 | (with_reducible refine Kd.C_alloc ?_ _) | (with_reducible refine Kd.C_drewN ?_ _) | (with_reducible refine Kd.C_drew ?_))); (case side4 => exact (Kd.R_reads' HO445.out).2.1); rintro e w58 ⟨rfl, hb⟩; refine ⟨_, rfl, ?_⟩; replace HO445 := am (Kd.R_below (kR HO445.out) hb); replace HO448 := am (Kd.R_below (kR HO448.out) hb); replace HO455 := am (Kd.R_below (kR HO455.out) hb); replace HB := am (below_step bB hb); (try clear hb)))
  go_ret
  exact ⟨rv, bB⟩
 subst c19
 replace H := iT H
 obtain ⟨t457, A20, H⟩ := bb H
 by_cases c21 : t457 < 0
 ·rw [if_pos c21] at H
  have c21b0 : decide (t457 < 0) = true := decide_eq_true c21
  clear c21
  obtain rfl := Option.some.inj H
  go_enter Tryd.func9, Tryd.ntmps9
  go_wp2_with (first | ((with_reducible refine gate_callee (f := 35) rfl ?_); refine gl 12 Tryd.func35 #[.string a0] ?_; (with_reducible refine (spec_GlyphsOf.calls k a0 t443 _ A3.out).mono ?_); rintro e w22 ⟨v444, rfl, ho0, hb⟩; refine ⟨_, rfl, ?_⟩; have HO445 := am (Kd.R_lower ho0 (below_size bB)); replace HB := am (below_step bB hb); (try clear hb); (try clear ho0)) | ((with_reducible refine gate_callee (f := 36) rfl ?_); refine gl 14 Tryd.func36 #[.string a0] ?_; (with_reducible refine (impl_GlyphsOf.calls k a0 t446 _ ?side1 A4.out).mono ?_); (case side1 => first | exact HGL.out | exact GL_below HGL.out bB); rintro e w23 ⟨v447, rfl, ho0, hb⟩; refine ⟨_, rfl, ?_⟩; have HO448 := am (Kd.R_lower (Kd.R_new' ho0 (Kd.R_lt (kR HO445.out))) (below_size bB)); replace HO445 := am (Kd.R_elder' (kR HO445.out) (Kd.R_base ho0) hb); replace HB := am (below_step bB hb); (try clear hb); (try clear ho0); obtain ⟨Ao24, co24, eo24⟩ := Kd.R_slice HO448.out; subst eo24; obtain ⟨Ao25, co25, eo25⟩ := Kd.R_slice HO445.out; subst eo25) | ((with_reducible refine gate_callee (f := 37) rfl ?_); refine gl 17 Tryd.func37 #[.slice Ao24 t446.length co24, .slice Ao25 t443.length co25] ?_; (with_reducible refine (laws_eqGlyphS.calls k _ _ t446 _ _ t443 true _ ?side1 ?side2 ?side3 ?side4 A5.out).mono ?_); (case side1 => repeat (first | exact (Kd.R_reads' HO448.out).2.2 | (with_reducible refine Kd.C_alloc ?_ _) | (with_reducible refine Kd.C_drewN ?_ _) | (with_reducible refine Kd.C_drew ?_))); (case side2 => exact (Kd.R_reads' HO448.out).2.1); (case side3 => repeat (first | exact (Kd.R_reads' HO445.out).2.2 | (with_reducible refine Kd.C_alloc ?_ _) | (with_reducible refine Kd.C_drewN ?_ _) | (with_reducible refine Kd.C_drew ?_))); (case side4 => exact (Kd.R_reads' HO445.out).2.1); rintro e w26 ⟨rfl, hb⟩; refine ⟨_, rfl, ?_⟩; replace HO445 := am (Kd.R_below (kR HO445.out) hb); replace HO448 := am (Kd.R_below (kR HO448.out) hb); replace HB := am (below_step bB hb); (try clear hb)) | ((with_reducible refine gate_callee (f := 38) rfl ?_); refine gl 21 Tryd.func38 #[.slice Ao24 t446.length co24, .int .i64 1] ?_; (with_reducible refine (laws_markGlyphS.calls k (fun k_ => some k_ = (.slice Ao24 t446.length co24 : Value).ownBlock) (.slice Ao24 t446.length co24) t446 1 t450 t451 w _ ?side1 ?side2 A7.out).mono ?_); (case side1 => repeat (first | (with_reducible first | exact HB.out | apply below_alloc | apply pw_below_drewN | apply below_drew1) | exact HB.out)); (case side2 => exact Kd.R_tight rfl HO448.out); rintro e w27 ⟨rfl, hy0, hb, hkp⟩; refine ⟨_, rfl, ?_⟩; replace HO445 := am (Kd.R_mono (ok' := fun k_ => some k_ ≠ (.slice Ao24 t446.length co24 : Value).ownBlock) (Kd.R_keptB (HO445.out) hkp (fun k_ hk_ hs_ => (hk_.2) hs_)) (fun k_ hk_ => hk_.1.2)); replace HO448 := am (Kd.R_reok rfl hy0 (fun k_ e_ => HO448.out.1 k_ e_)); replace HB := am (hb); (try clear hb); (try clear hkp); (try clear hy0)) | ((with_reducible refine gate_callee (f := 39) rfl ?_); refine goesL_ (some 24) rfl rfl Tryd.func39 (by kernel_rfl) rfl #[.slice Ao24 t451.length co24, .int .i64 1] rfl (by (try simp only [List.map_toArray, List.map_cons, List.map_nil]); first | done | (rw [show t451.length = t446.length from (Kd.R_reads' HO448.out).1.symm] <;> rfl) | rfl | (simp only [List.length_drop, List.length_take]; rfl)) ?_; (with_reducible refine (laws_heldGlyphS.calls k _ _ t451 1 t452 _ ?side1 ?side2 A8.out).mono ?_); (case side1 => repeat (first | exact (Kd.R_reads' HO448.out).2.2 | (with_reducible refine Kd.C_alloc ?_ _) | (with_reducible refine Kd.C_drewN ?_ _) | (with_reducible refine Kd.C_drew ?_))); (case side2 => rw [show t451.length = t446.length from (Kd.R_reads' HO448.out).1.symm]; exact (Kd.R_reads' HO448.out).2.1); rintro e w' ⟨rfl, ⟨nd, rfl⟩⟩; refine ⟨_, rfl, ?_⟩) | ((with_reducible refine gate_callee (f := 36) rfl ?_); refine gl 31 Tryd.func36 #[.string a0] ?_; (with_reducible refine (impl_GlyphsOf.calls k a0 t453 _ ?side1 A17.out).mono ?_); (case side1 => first | exact HGL.out | exact GL_below HGL.out bB); rintro e w28 ⟨v454, rfl, ho0, hb⟩; refine ⟨_, rfl, ?_⟩; have HO455 := am (Kd.R_lower (Kd.R_new' (Kd.R_new' ho0 (Kd.R_lt (kR HO445.out))) (Kd.R_lt (kR HO448.out))) (below_size bB)); replace HO445 := am (Kd.R_elder' (kR HO445.out) (Kd.R_base ho0) hb); replace HO448 := am (Kd.R_elder' (kR HO448.out) (Kd.R_base ho0) hb); replace HB := am (below_step bB hb); (try clear hb); (try clear ho0); obtain ⟨Ao29, co29, eo29⟩ := Kd.R_slice HO455.out; subst eo29) | ((with_reducible refine gate_callee (f := 37) rfl ?_); refine gl 34 Tryd.func37 #[.slice Ao29 t453.length co29, .slice Ao25 t443.length co25] ?_; (with_reducible refine (laws_eqGlyphS.calls k _ _ t453 _ _ t443 true _ ?side1 ?side2 ?side3 ?side4 A18.out).mono ?_); (case side1 => repeat (first | exact (Kd.R_reads' HO455.out).2.2 | (with_reducible refine Kd.C_alloc ?_ _) | (with_reducible refine Kd.C_drewN ?_ _) | (with_reducible refine Kd.C_drew ?_))); (case side2 => exact (Kd.R_reads' HO455.out).2.1); (case side3 => repeat (first | exact (Kd.R_reads' HO445.out).2.2 | (with_reducible refine Kd.C_alloc ?_ _) | (with_reducible refine Kd.C_drewN ?_ _) | (with_reducible refine Kd.C_drew ?_))); (case side4 => exact (Kd.R_reads' HO445.out).2.1); rintro e w30 ⟨rfl, hb⟩; refine ⟨_, rfl, ?_⟩; replace HO445 := am (Kd.R_below (kR HO445.out) hb); replace HO448 := am (Kd.R_below (kR HO448.out) hb); replace HO455 := am (Kd.R_below (kR HO455.out) hb); replace HB := am (below_step bB hb); (try clear hb)) | ((with_reducible refine gate_callee (f := 39) rfl ?_); refine goesL_ (some 38) rfl rfl Tryd.func39 (by kernel_rfl) rfl #[.slice Ao24 t451.length co24, .int .i64 1] rfl (by (try simp only [List.map_toArray, List.map_cons, List.map_nil]); first | done | (rw [show t451.length = t446.length from (Kd.R_reads' HO448.out).1.symm] <;> rfl) | rfl | (simp only [List.length_drop, List.length_take]; rfl)) ?_; (with_reducible refine (laws_heldGlyphS.calls k _ _ t451 1 t457 _ ?side1 ?side2 A20.out).mono ?_); (case side1 => repeat (first | exact (Kd.R_reads' HO448.out).2.2 | (with_reducible refine Kd.C_alloc ?_ _) | (with_reducible refine Kd.C_drewN ?_ _) | (with_reducible refine Kd.C_drew ?_))); (case side2 => rw [show t451.length = t446.length from (Kd.R_reads' HO448.out).1.symm]; exact (Kd.R_reads' HO448.out).2.1); rintro e w' ⟨rfl, ⟨nd, rfl⟩⟩; refine ⟨_, rfl, ?_⟩))
  go_ret
  exact ⟨rv, bB⟩
 rw [if_neg c21] at H
 have c21b0 : decide (t457 < 0) = false := decide_eq_false c21
 clear c21
 by_cases c31 : t457 = t450
 rotate_left
 ·rw [if_neg c31] at H
  have c31b0 : (t457 == t450) = false := beq_eq_false_iff_ne.mpr c31
  have c31b1 : (t457 != t450) = true := bne_iff_ne.mpr c31
  obtain rfl := Option.some.inj H
  go_enter Tryd.func9, Tryd.ntmps9
  go_wp2_with (first | ((with_reducible refine gate_callee (f := 35) rfl ?_); refine gl 12 Tryd.func35 #[.string a0] ?_; (with_reducible refine (spec_GlyphsOf.calls k a0 t443 _ A3.out).mono ?_); rintro e w41 ⟨v444, rfl, ho0, hb⟩; refine ⟨_, rfl, ?_⟩; have HO445 := am (Kd.R_lower ho0 (below_size bB)); replace HB := am (below_step bB hb); (try clear hb); (try clear ho0)) | ((with_reducible refine gate_callee (f := 36) rfl ?_); refine gl 14 Tryd.func36 #[.string a0] ?_; (with_reducible refine (impl_GlyphsOf.calls k a0 t446 _ ?side1 A4.out).mono ?_); (case side1 => first | exact HGL.out | exact GL_below HGL.out bB); rintro e w42 ⟨v447, rfl, ho0, hb⟩; refine ⟨_, rfl, ?_⟩; have HO448 := am (Kd.R_lower (Kd.R_new' ho0 (Kd.R_lt (kR HO445.out))) (below_size bB)); replace HO445 := am (Kd.R_elder' (kR HO445.out) (Kd.R_base ho0) hb); replace HB := am (below_step bB hb); (try clear hb); (try clear ho0); obtain ⟨Ao43, co43, eo43⟩ := Kd.R_slice HO448.out; subst eo43; obtain ⟨Ao44, co44, eo44⟩ := Kd.R_slice HO445.out; subst eo44) | ((with_reducible refine gate_callee (f := 37) rfl ?_); refine gl 17 Tryd.func37 #[.slice Ao43 t446.length co43, .slice Ao44 t443.length co44] ?_; (with_reducible refine (laws_eqGlyphS.calls k _ _ t446 _ _ t443 true _ ?side1 ?side2 ?side3 ?side4 A5.out).mono ?_); (case side1 => repeat (first | exact (Kd.R_reads' HO448.out).2.2 | (with_reducible refine Kd.C_alloc ?_ _) | (with_reducible refine Kd.C_drewN ?_ _) | (with_reducible refine Kd.C_drew ?_))); (case side2 => exact (Kd.R_reads' HO448.out).2.1); (case side3 => repeat (first | exact (Kd.R_reads' HO445.out).2.2 | (with_reducible refine Kd.C_alloc ?_ _) | (with_reducible refine Kd.C_drewN ?_ _) | (with_reducible refine Kd.C_drew ?_))); (case side4 => exact (Kd.R_reads' HO445.out).2.1); rintro e w45 ⟨rfl, hb⟩; refine ⟨_, rfl, ?_⟩; replace HO445 := am (Kd.R_below (kR HO445.out) hb); replace HO448 := am (Kd.R_below (kR HO448.out) hb); replace HB := am (below_step bB hb); (try clear hb)) | ((with_reducible refine gate_callee (f := 38) rfl ?_); refine gl 21 Tryd.func38 #[.slice Ao43 t446.length co43, .int .i64 1] ?_; (with_reducible refine (laws_markGlyphS.calls k (fun k_ => some k_ = (.slice Ao43 t446.length co43 : Value).ownBlock) (.slice Ao43 t446.length co43) t446 1 t450 t451 w _ ?side1 ?side2 A7.out).mono ?_); (case side1 => repeat (first | (with_reducible first | exact HB.out | apply below_alloc | apply pw_below_drewN | apply below_drew1) | exact HB.out)); (case side2 => exact Kd.R_tight rfl HO448.out); rintro e w46 ⟨rfl, hy0, hb, hkp⟩; refine ⟨_, rfl, ?_⟩; replace HO445 := am (Kd.R_mono (ok' := fun k_ => some k_ ≠ (.slice Ao43 t446.length co43 : Value).ownBlock) (Kd.R_keptB (HO445.out) hkp (fun k_ hk_ hs_ => (hk_.2) hs_)) (fun k_ hk_ => hk_.1.2)); replace HO448 := am (Kd.R_reok rfl hy0 (fun k_ e_ => HO448.out.1 k_ e_)); replace HB := am (hb); (try clear hb); (try clear hkp); (try clear hy0)) | ((with_reducible refine gate_callee (f := 39) rfl ?_); refine goesL_ (some 24) rfl rfl Tryd.func39 (by kernel_rfl) rfl #[.slice Ao43 t451.length co43, .int .i64 1] rfl (by (try simp only [List.map_toArray, List.map_cons, List.map_nil]); first | done | (rw [show t451.length = t446.length from (Kd.R_reads' HO448.out).1.symm] <;> rfl) | rfl | (simp only [List.length_drop, List.length_take]; rfl)) ?_; (with_reducible refine (laws_heldGlyphS.calls k _ _ t451 1 t452 _ ?side1 ?side2 A8.out).mono ?_); (case side1 => repeat (first | exact (Kd.R_reads' HO448.out).2.2 | (with_reducible refine Kd.C_alloc ?_ _) | (with_reducible refine Kd.C_drewN ?_ _) | (with_reducible refine Kd.C_drew ?_))); (case side2 => rw [show t451.length = t446.length from (Kd.R_reads' HO448.out).1.symm]; exact (Kd.R_reads' HO448.out).2.1); rintro e w' ⟨rfl, ⟨nd, rfl⟩⟩; refine ⟨_, rfl, ?_⟩) | ((with_reducible refine gate_callee (f := 36) rfl ?_); refine gl 31 Tryd.func36 #[.string a0] ?_; (with_reducible refine (impl_GlyphsOf.calls k a0 t453 _ ?side1 A17.out).mono ?_); (case side1 => first | exact HGL.out | exact GL_below HGL.out bB); rintro e w47 ⟨v454, rfl, ho0, hb⟩; refine ⟨_, rfl, ?_⟩; have HO455 := am (Kd.R_lower (Kd.R_new' (Kd.R_new' ho0 (Kd.R_lt (kR HO445.out))) (Kd.R_lt (kR HO448.out))) (below_size bB)); replace HO445 := am (Kd.R_elder' (kR HO445.out) (Kd.R_base ho0) hb); replace HO448 := am (Kd.R_elder' (kR HO448.out) (Kd.R_base ho0) hb); replace HB := am (below_step bB hb); (try clear hb); (try clear ho0); obtain ⟨Ao48, co48, eo48⟩ := Kd.R_slice HO455.out; subst eo48) | ((with_reducible refine gate_callee (f := 37) rfl ?_); refine gl 34 Tryd.func37 #[.slice Ao48 t453.length co48, .slice Ao44 t443.length co44] ?_; (with_reducible refine (laws_eqGlyphS.calls k _ _ t453 _ _ t443 true _ ?side1 ?side2 ?side3 ?side4 A18.out).mono ?_); (case side1 => repeat (first | exact (Kd.R_reads' HO455.out).2.2 | (with_reducible refine Kd.C_alloc ?_ _) | (with_reducible refine Kd.C_drewN ?_ _) | (with_reducible refine Kd.C_drew ?_))); (case side2 => exact (Kd.R_reads' HO455.out).2.1); (case side3 => repeat (first | exact (Kd.R_reads' HO445.out).2.2 | (with_reducible refine Kd.C_alloc ?_ _) | (with_reducible refine Kd.C_drewN ?_ _) | (with_reducible refine Kd.C_drew ?_))); (case side4 => exact (Kd.R_reads' HO445.out).2.1); rintro e w49 ⟨rfl, hb⟩; refine ⟨_, rfl, ?_⟩; replace HO445 := am (Kd.R_below (kR HO445.out) hb); replace HO448 := am (Kd.R_below (kR HO448.out) hb); replace HO455 := am (Kd.R_below (kR HO455.out) hb); replace HB := am (below_step bB hb); (try clear hb)) | ((with_reducible refine gate_callee (f := 39) rfl ?_); refine goesL_ (some 38) rfl rfl Tryd.func39 (by kernel_rfl) rfl #[.slice Ao43 t451.length co43, .int .i64 1] rfl (by (try simp only [List.map_toArray, List.map_cons, List.map_nil]); first | done | (rw [show t451.length = t446.length from (Kd.R_reads' HO448.out).1.symm] <;> rfl) | rfl | (simp only [List.length_drop, List.length_take]; rfl)) ?_; (with_reducible refine (laws_heldGlyphS.calls k _ _ t451 1 t457 _ ?side1 ?side2 A20.out).mono ?_); (case side1 => repeat (first | exact (Kd.R_reads' HO448.out).2.2 | (with_reducible refine Kd.C_alloc ?_ _) | (with_reducible refine Kd.C_drewN ?_ _) | (with_reducible refine Kd.C_drew ?_))); (case side2 => rw [show t451.length = t446.length from (Kd.R_reads' HO448.out).1.symm]; exact (Kd.R_reads' HO448.out).2.1); rintro e w' ⟨rfl, ⟨nd, rfl⟩⟩; refine ⟨_, rfl, ?_⟩))
  go_ret
  exact ⟨rv, bB⟩
 rw [if_pos c31] at H
 have c31b0 : (t457 == t450) = true := beq_iff_eq.mpr c31
 have c31b1 : (t457 != t450) = false := bne_eq_false_iff_eq.mpr c31
 clear c31
 obtain rfl := Option.some.inj H
 go_enter Tryd.func9, Tryd.ntmps9
 go_wp2_with (first | ((with_reducible refine gate_callee (f := 35) rfl ?_); refine gl 12 Tryd.func35 #[.string a0] ?_; (with_reducible refine (spec_GlyphsOf.calls k a0 t443 _ A3.out).mono ?_); rintro e w32 ⟨v444, rfl, ho0, hb⟩; refine ⟨_, rfl, ?_⟩; have HO445 := am (Kd.R_lower ho0 (below_size bB)); replace HB := am (below_step bB hb); (try clear hb); (try clear ho0)) | ((with_reducible refine gate_callee (f := 36) rfl ?_); refine gl 14 Tryd.func36 #[.string a0] ?_; (with_reducible refine (impl_GlyphsOf.calls k a0 t446 _ ?side1 A4.out).mono ?_); (case side1 => first | exact HGL.out | exact GL_below HGL.out bB); rintro e w33 ⟨v447, rfl, ho0, hb⟩; refine ⟨_, rfl, ?_⟩; have HO448 := am (Kd.R_lower (Kd.R_new' ho0 (Kd.R_lt (kR HO445.out))) (below_size bB)); replace HO445 := am (Kd.R_elder' (kR HO445.out) (Kd.R_base ho0) hb); replace HB := am (below_step bB hb); (try clear hb); (try clear ho0); obtain ⟨Ao34, co34, eo34⟩ := Kd.R_slice HO448.out; subst eo34; obtain ⟨Ao35, co35, eo35⟩ := Kd.R_slice HO445.out; subst eo35) | ((with_reducible refine gate_callee (f := 37) rfl ?_); refine gl 17 Tryd.func37 #[.slice Ao34 t446.length co34, .slice Ao35 t443.length co35] ?_; (with_reducible refine (laws_eqGlyphS.calls k _ _ t446 _ _ t443 true _ ?side1 ?side2 ?side3 ?side4 A5.out).mono ?_); (case side1 => repeat (first | exact (Kd.R_reads' HO448.out).2.2 | (with_reducible refine Kd.C_alloc ?_ _) | (with_reducible refine Kd.C_drewN ?_ _) | (with_reducible refine Kd.C_drew ?_))); (case side2 => exact (Kd.R_reads' HO448.out).2.1); (case side3 => repeat (first | exact (Kd.R_reads' HO445.out).2.2 | (with_reducible refine Kd.C_alloc ?_ _) | (with_reducible refine Kd.C_drewN ?_ _) | (with_reducible refine Kd.C_drew ?_))); (case side4 => exact (Kd.R_reads' HO445.out).2.1); rintro e w36 ⟨rfl, hb⟩; refine ⟨_, rfl, ?_⟩; replace HO445 := am (Kd.R_below (kR HO445.out) hb); replace HO448 := am (Kd.R_below (kR HO448.out) hb); replace HB := am (below_step bB hb); (try clear hb)) | ((with_reducible refine gate_callee (f := 38) rfl ?_); refine gl 21 Tryd.func38 #[.slice Ao34 t446.length co34, .int .i64 1] ?_; (with_reducible refine (laws_markGlyphS.calls k (fun k_ => some k_ = (.slice Ao34 t446.length co34 : Value).ownBlock) (.slice Ao34 t446.length co34) t446 1 t450 t451 w _ ?side1 ?side2 A7.out).mono ?_); (case side1 => repeat (first | (with_reducible first | exact HB.out | apply below_alloc | apply pw_below_drewN | apply below_drew1) | exact HB.out)); (case side2 => exact Kd.R_tight rfl HO448.out); rintro e w37 ⟨rfl, hy0, hb, hkp⟩; refine ⟨_, rfl, ?_⟩; replace HO445 := am (Kd.R_mono (ok' := fun k_ => some k_ ≠ (.slice Ao34 t446.length co34 : Value).ownBlock) (Kd.R_keptB (HO445.out) hkp (fun k_ hk_ hs_ => (hk_.2) hs_)) (fun k_ hk_ => hk_.1.2)); replace HO448 := am (Kd.R_reok rfl hy0 (fun k_ e_ => HO448.out.1 k_ e_)); replace HB := am (hb); (try clear hb); (try clear hkp); (try clear hy0)) | ((with_reducible refine gate_callee (f := 39) rfl ?_); refine goesL_ (some 24) rfl rfl Tryd.func39 (by kernel_rfl) rfl #[.slice Ao34 t451.length co34, .int .i64 1] rfl (by (try simp only [List.map_toArray, List.map_cons, List.map_nil]); first | done | (rw [show t451.length = t446.length from (Kd.R_reads' HO448.out).1.symm] <;> rfl) | rfl | (simp only [List.length_drop, List.length_take]; rfl)) ?_; (with_reducible refine (laws_heldGlyphS.calls k _ _ t451 1 t452 _ ?side1 ?side2 A8.out).mono ?_); (case side1 => repeat (first | exact (Kd.R_reads' HO448.out).2.2 | (with_reducible refine Kd.C_alloc ?_ _) | (with_reducible refine Kd.C_drewN ?_ _) | (with_reducible refine Kd.C_drew ?_))); (case side2 => rw [show t451.length = t446.length from (Kd.R_reads' HO448.out).1.symm]; exact (Kd.R_reads' HO448.out).2.1); rintro e w' ⟨rfl, ⟨nd, rfl⟩⟩; refine ⟨_, rfl, ?_⟩) | ((with_reducible refine gate_callee (f := 36) rfl ?_); refine gl 31 Tryd.func36 #[.string a0] ?_; (with_reducible refine (impl_GlyphsOf.calls k a0 t453 _ ?side1 A17.out).mono ?_); (case side1 => first | exact HGL.out | exact GL_below HGL.out bB); rintro e w38 ⟨v454, rfl, ho0, hb⟩; refine ⟨_, rfl, ?_⟩; have HO455 := am (Kd.R_lower (Kd.R_new' (Kd.R_new' ho0 (Kd.R_lt (kR HO445.out))) (Kd.R_lt (kR HO448.out))) (below_size bB)); replace HO445 := am (Kd.R_elder' (kR HO445.out) (Kd.R_base ho0) hb); replace HO448 := am (Kd.R_elder' (kR HO448.out) (Kd.R_base ho0) hb); replace HB := am (below_step bB hb); (try clear hb); (try clear ho0); obtain ⟨Ao39, co39, eo39⟩ := Kd.R_slice HO455.out; subst eo39) | ((with_reducible refine gate_callee (f := 37) rfl ?_); refine gl 34 Tryd.func37 #[.slice Ao39 t453.length co39, .slice Ao35 t443.length co35] ?_; (with_reducible refine (laws_eqGlyphS.calls k _ _ t453 _ _ t443 true _ ?side1 ?side2 ?side3 ?side4 A18.out).mono ?_); (case side1 => repeat (first | exact (Kd.R_reads' HO455.out).2.2 | (with_reducible refine Kd.C_alloc ?_ _) | (with_reducible refine Kd.C_drewN ?_ _) | (with_reducible refine Kd.C_drew ?_))); (case side2 => exact (Kd.R_reads' HO455.out).2.1); (case side3 => repeat (first | exact (Kd.R_reads' HO445.out).2.2 | (with_reducible refine Kd.C_alloc ?_ _) | (with_reducible refine Kd.C_drewN ?_ _) | (with_reducible refine Kd.C_drew ?_))); (case side4 => exact (Kd.R_reads' HO445.out).2.1); rintro e w40 ⟨rfl, hb⟩; refine ⟨_, rfl, ?_⟩; replace HO445 := am (Kd.R_below (kR HO445.out) hb); replace HO448 := am (Kd.R_below (kR HO448.out) hb); replace HO455 := am (Kd.R_below (kR HO455.out) hb); replace HB := am (below_step bB hb); (try clear hb)) | ((with_reducible refine gate_callee (f := 39) rfl ?_); refine goesL_ (some 38) rfl rfl Tryd.func39 (by kernel_rfl) rfl #[.slice Ao34 t451.length co34, .int .i64 1] rfl (by (try simp only [List.map_toArray, List.map_cons, List.map_nil]); first | done | (rw [show t451.length = t446.length from (Kd.R_reads' HO448.out).1.symm] <;> rfl) | rfl | (simp only [List.length_drop, List.length_take]; rfl)) ?_; (with_reducible refine (laws_heldGlyphS.calls k _ _ t451 1 t457 _ ?side1 ?side2 A20.out).mono ?_); (case side1 => repeat (first | exact (Kd.R_reads' HO448.out).2.2 | (with_reducible refine Kd.C_alloc ?_ _) | (with_reducible refine Kd.C_drewN ?_ _) | (with_reducible refine Kd.C_drew ?_))); (case side2 => rw [show t451.length = t446.length from (Kd.R_reads' HO448.out).1.symm]; exact (Kd.R_reads' HO448.out).2.1); rintro e w' ⟨rfl, ⟨nd, rfl⟩⟩; refine ⟨_, rfl, ?_⟩))
 go_ret
 exact ⟨rv, bB⟩
/-- THE ONE PURE STATEMENT of laws_FnExactGlyphsOf. -/
def laws_FnExactGlyphsOf.Pure : Prop := ∀ (a0 : ByteArray), (a0.size ≤ 140737488351232) → ∃ k, laws_FnExactGlyphsOf.f k a0 = some true
end Go.Proofs.YtmlhnpggjkoinaaDoor.PFnExactGlyphsOf

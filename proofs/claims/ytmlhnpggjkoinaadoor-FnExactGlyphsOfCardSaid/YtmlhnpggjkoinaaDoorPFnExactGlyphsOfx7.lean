-- Written by a program of this session (wip/tools/myprint.py) that runs the kit's print with hooks of its own. Lean checks it.
import Derived.Test.YtmlhnpggjkoinaaDoorPFnExactGlyphsOfx0
import Derived.Test.YtmlhnpggjkoinaaDoorSlimMore
namespace Go.Proofs.YtmlhnpggjkoinaaDoor.PFnExactGlyphsOf
open Go.RowKit Go.Proofs.YtmlhnpggjkoinaaDoorW.PrintWords Go.Proofs.YtmlhnpggjkoinaaDoorW.PrintLast Go.Proofs.YtmlhnpggjkoinaaDoorW.PrintMore
attribute [local go_sem] max2_int min2_int max_two min_two max_three min_three max_four min_four   -- for this text's walks alone
set_option linter.unusedVariables false
set_option linter.unusedSimpArgs false

/-! ### spec_l10Start: function 98 -/
mutual
def spec_l10Start.l0 : Nat → List (S68) → Int → Int → Option (Int)
 | 0, _, _, _ => none
 | k + 1, x0, x5, x6 => if x6 ≥ 0 then (spec_l10Start.l1 k x0 x5 x6) else (some x5)
def spec_l10Start.l1 : Nat → List (S68) → Int → Int → Option (Int)
 | 0, _, _, _ => none
 | k + 1, x0, x5, x6 => if x6 ≥ 0 then (if 0 ≤ x6 then (if x6 < (x0.length : Int) then (if ((rd_T68 x0 x6).f0) = 1585 then (spec_l10Start.j2 k x0 x5 x6 true) else (spec_l10Start.j2 k x0 x5 x6 (((rd_T68 x0 x6).f0) == 1584))) else (none)) else (none)) else (spec_l10Start.j2 k x0 x5 x6 false)
def spec_l10Start.j2 : Nat → List (S68) → Int → Int → Bool → Option (Int)
 | 0, _, _, _, _ => none
 | k + 1, x0, x5, x6, x30 => if x30 = true then (spec_l10Start.l1 k x0 x5 (wrap64 (x6 - 1))) else (if x6 < 0 then (spec_l10Start.j3 k x0 x5 x6 true) else (if 0 ≤ x6 then (if x6 < (x0.length : Int) then (if ((rd_T68 x0 x6).f0) < 1536 then (spec_l10Start.j3 k x0 x5 x6 true) else (spec_l10Start.j3 k x0 x5 x6 (decide (((rd_T68 x0 x6).f0) > 1567)))) else (none)) else (none)))
def spec_l10Start.j3 : Nat → List (S68) → Int → Int → Bool → Option (Int)
 | 0, _, _, _, _ => none
 | k + 1, x0, x5, x6, x50 => if x50 = true then (some x5) else (spec_l10Start.l2 k x0 x6 (wrap64 (x6 - 1)))
def spec_l10Start.j5 : Nat → List (S68) → Int → Int → Option (Int)
 | 0, _, _, _ => none
 | k + 1, x0, x5, x7 => if x7 < 0 then (some x5) else (if 0 ≤ x7 then (if x7 < (x0.length : Int) then (if ((rd_T68 x0 x7).f0) = 1584 then (spec_l10Start.l0 k x0 x5 x7) else (some x5)) else (none)) else (none))
def spec_l10Start.l2 : Nat → List (S68) → Int → Int → Option (Int)
 | 0, _, _, _ => none
 | k + 1, x0, x5, x7 => if x7 ≥ 0 then (if 0 ≤ x7 then (if x7 < (x0.length : Int) then (if ((rd_T68 x0 x7).f0) = 1585 then (spec_l10Start.l2 k x0 x5 (wrap64 (x7 - 1))) else (spec_l10Start.j5 k x0 x5 x7)) else (none)) else (none)) else (spec_l10Start.j5 k x0 x5 x7)
end
def spec_l10Start.f (k : Nat) (l0 : List (S68)) (a1 : Int) : Option (Int) := spec_l10Start.l0 k l0 a1 (wrap64 (a1 - 1))
theorem spec_l10Start.mono_l : ∀ k, (∀ y0 y1 y2, LeO (spec_l10Start.l0 k y0 y1 y2) (spec_l10Start.l0 (k + 1) y0 y1 y2)) ∧ (∀ y0 y1 y2, LeO (spec_l10Start.l1 k y0 y1 y2) (spec_l10Start.l1 (k + 1) y0 y1 y2)) ∧ (∀ y0 y1 y2 y3, LeO (spec_l10Start.j2 k y0 y1 y2 y3) (spec_l10Start.j2 (k + 1) y0 y1 y2 y3)) ∧ (∀ y0 y1 y2 y3, LeO (spec_l10Start.j3 k y0 y1 y2 y3) (spec_l10Start.j3 (k + 1) y0 y1 y2 y3)) ∧ (∀ y0 y1 y2, LeO (spec_l10Start.j5 k y0 y1 y2) (spec_l10Start.j5 (k + 1) y0 y1 y2)) ∧ (∀ y0 y1 y2, LeO (spec_l10Start.l2 k y0 y1 y2) (spec_l10Start.l2 (k + 1) y0 y1 y2))
 | 0 => ⟨fun _ _ _ r h => by simp [spec_l10Start.l0] at h, fun _ _ _ r h => by simp [spec_l10Start.l1] at h, fun _ _ _ _ r h => by simp [spec_l10Start.j2] at h, fun _ _ _ _ r h => by simp [spec_l10Start.j3] at h, fun _ _ _ r h => by simp [spec_l10Start.j5] at h, fun _ _ _ r h => by simp [spec_l10Start.l2] at h⟩
 | k + 1 => by
  obtain ⟨ih0, ih1, ih2, ih3, ih4, ih5⟩ := spec_l10Start.mono_l k
  refine ⟨fun y0 y1 y2 => ?_, fun y0 y1 y2 => ?_, fun y0 y1 y2 y3 => ?_, fun y0 y1 y2 y3 => ?_, fun y0 y1 y2 => ?_, fun y0 y1 y2 => ?_⟩
  all_goals (first | unfold spec_l10Start.l0 | unfold spec_l10Start.l1 | unfold spec_l10Start.j2 | unfold spec_l10Start.j3 | unfold spec_l10Start.j5 | unfold spec_l10Start.l2)
  all_goals (repeat' (first | (with_reducible first | exact ih0 .. | exact ih1 .. | exact ih2 .. | exact ih3 .. | exact ih4 .. | exact ih5 .. | exact LeO.refl _ | exact LeO.none _ | refine LeO.ite ?_ ?_ | refine LeO.bind ?_ (fun _ => ?_)) | exact ih0 .. | exact ih1 .. | exact ih2 .. | exact ih3 .. | exact ih4 .. | exact ih5 .. | exact LeO.none _ | refine LeO.ite ?_ ?_ | refine LeO.bind ?_ (fun _ => ?_)))
theorem spec_l10Start.mono : ∀ a0 a1 k, LeO (spec_l10Start.f k a0 a1) (spec_l10Start.f (k + 1) a0 a1) := by
 intro a0 a1 k
 obtain ⟨ih0, ih1, ih2, ih3, ih4, ih5⟩ := spec_l10Start.mono_l k
 unfold spec_l10Start.f
 repeat' (first | (with_reducible first | exact ih0 .. | exact ih1 .. | exact ih2 .. | exact ih3 .. | exact ih4 .. | exact ih5 .. | exact LeO.refl _ | exact LeO.none _ | refine LeO.ite ?_ ?_ | refine LeO.bind ?_ (fun _ => ?_)) | exact ih0 .. | exact ih1 .. | exact ih2 .. | exact ih3 .. | exact ih4 .. | exact ih5 .. | exact LeO.none _ | refine LeO.ite ?_ ?_ | refine LeO.bind ?_ (fun _ => ?_))
set_option maxHeartbeats 8000000 in
set_option maxRecDepth 100000 in
theorem spec_l10Start.calls (k : Nat) (A0 : Option Addr) (c0 : Nat) (l0 : List (S68)) (a1 : Int) (r : Int) (w : World) (hr0 : Kd.C k68 w A0 l0.length l0) (hc0 : l0.length ≤ c0) (h : spec_l10Start.f k l0 a1 = some r) :
  Calls Tryd.prog 98 #[.slice A0 l0.length c0, .int .i64 a1] w fun e w' => e = .returned (.int .i64 r) ∧ Drawn0 w w' := by
 have HR0 := am hr0
 have HC0 := am hc0
 clear hr0 hc0
 have H : (spec_l10Start.l0 k l0 a1 (wrap64 (a1 - 1))) = some r := h
 clear h
 have H' := am H
 clear H
 go_enter Tryd.func98, Tryd.ntmps98
 go_wp2
 go_loopg [5, 6] k (fun kq v5 v6 w' => ∃ (x5_1 : Int) (x6_1 : Int), v5 = .int .i64 x5_1 ∧ v6 = .int .i64 x6_1 ∧ Aside0 (spec_l10Start.l0 kq l0 x5_1 x6_1 = some r) ∧ Aside0 (kq ≤ k) ∧ Drawn0 w w')
 case atStart => exact ⟨(a1), (wrap64 (a1 - 1)), sr, sr, H', ⟨Nat.le_refl _⟩, dz⟩
 case round =>
  clear H'
  obtain ⟨x5_1, x6_1, rfl, rfl, HA, HK1, ⟨m1, rfl⟩⟩ := hrel
  cases gk with
  | zero => exact absurd HA.out (by simp [spec_l10Start.l0])
  | succ k1 =>
   have H := HA.out
   clear HA
   simp only [spec_l10Start.l0] at H
   by_cases c3 : x6_1 ≥ 0
   rotate_left
   ·rw [if_neg c3] at H
    have c3b0 : decide (0 ≤ x6_1) = false := decide_eq_false c3
    clear c3
    obtain rfl := Option.some.inj H
    go_wp2
    go_ret
    exact rdd
   rw [if_pos c3] at H
   have c3b0 : decide (0 ≤ x6_1) = true := decide_eq_true c3
   clear c3
   have H' := am H
   clear H
   go_wp2
   go_loopg [6] k1 (fun kq v6 w' => ∃ (x6_2 : Int), v6 = .int .i64 x6_2 ∧ Aside0 (spec_l10Start.l1 kq l0 x5_1 x6_2 = some r) ∧ Aside0 (kq ≤ k1) ∧ Drawn0 w w')
   case atStart => exact ⟨(x6_1), sr, H', ⟨Nat.le_refl _⟩, dz⟩
   case round =>
    clear H'
    try clear c3b0
    obtain ⟨x6_2, rfl, HA, HK2, ⟨m2, rfl⟩⟩ := hrel
    cases gk with
    | zero => exact absurd HA.out (by simp [spec_l10Start.l1])
    | succ k2 =>
     have H := HA.out
     clear HA
     simp only [spec_l10Start.l1] at H
     have HC4 := am H
     clear H
     go_upto_region 4 with (fail)
     go_cut [30] (fun v30 wc => ∃ (kq : Nat) (x30_3 : Bool), v30 = .bool x30_3 ∧ Aside0 (spec_l10Start.j2 kq l0 x5_1 x6_2 x30_3 = some r) ∧ Aside0 (kq ≤ k2) ∧ Drawn0 w wc)
     case first =>
      have H := HC4.out
      clear HC4
      by_cases c5 : x6_2 ≥ 0
      rotate_left
      ·rw [if_neg c5] at H
       have c5b0 : decide (0 ≤ x6_2) = false := decide_eq_false c5
       clear c5
       (first | rw [c5b0] | (simp only [i64_w, i32_w]; rw [c5b0]) | skip)
       have H' := am H
       clear H
       go_wp2
       go_meet
       case rel => exact ⟨_, (false), sr, H', ⟨kl⟩, dz⟩
      rw [if_pos c5] at H
      have c5b0 : decide (0 ≤ x6_2) = true := decide_eq_true c5
      clear c5
      (first | rw [c5b0] | (simp only [i64_w, i32_w]; rw [c5b0]) | skip)
      replace H := iteN H
      obtain ⟨c6, H⟩ := H
      have c6b0 : decide (0 ≤ x6_2) = true := decide_eq_true c6
      clear c6
      replace H := iteN H
      obtain ⟨c7, H⟩ := H
      have c7b0 : decide (x6_2 < (l0.length : Int)) = true := decide_eq_true c7
      clear c7
      by_cases c8 : ((rd_T68 l0 x6_2).f0) = 1585
      ·rw [if_pos c8] at H
       have c8b0 : (((rd_T68 l0 x6_2).f0) == 1585) = true := beq_iff_eq.mpr c8
       have c8b1 : (((rd_T68 l0 x6_2).f0) != 1585) = false := bne_eq_false_iff_eq.mpr c8
       clear c8
       have H' := am H
       clear H
       have p226 : 0 ≤ (x6_2 : Int) := od
       have q226 : x6_2 < (l0.length : Int) := od
       obtain ⟨ad226, e226, hx226_0, hx226_1, hx226_2, hx226_3, hx226_4⟩ := at_T68 HR0.out x6_2 p226 q226
       cases e226
       replace p226 := eq_true p226
       replace q226 := eq_true q226
       go_wp2
       go_meet
       case rel => exact ⟨_, (true), sr, H', ⟨kl⟩, dz⟩
      rw [if_neg c8] at H
      have c8b0 : (((rd_T68 l0 x6_2).f0) == 1585) = false := beq_eq_false_iff_ne.mpr c8
      have c8b1 : (((rd_T68 l0 x6_2).f0) != 1585) = true := bne_iff_ne.mpr c8
      have H' := am H
      clear H
      have p226 : 0 ≤ (x6_2 : Int) := od
      have q226 : x6_2 < (l0.length : Int) := od
      obtain ⟨ad226, e226, hx226_0, hx226_1, hx226_2, hx226_3, hx226_4⟩ := at_T68 HR0.out x6_2 p226 q226
      cases e226
      replace p226 := eq_true p226
      replace q226 := eq_true q226
      have p227 : 0 ≤ (x6_2 : Int) := od
      have q227 : x6_2 < (l0.length : Int) := od
      obtain ⟨ad227, e227, hx227_0, hx227_1, hx227_2, hx227_3, hx227_4⟩ := at_T68 HR0.out x6_2 p227 q227
      obtain rfl : ad226 = ad227 := (by injection e227)
      replace p227 := eq_true p227
      replace q227 := eq_true q227
      go_wp2
      go_meet
      case rel => exact ⟨_, ((((rd_T68 l0 x6_2).f0) == 1584)), sr, H', ⟨kl⟩, dz⟩
     case rest =>
      clear HC4
      obtain ⟨kq, x30_3, rfl, HA, HJ3, ⟨mc3, rfl⟩⟩ := hcut
      cases kq with
      | zero => exact absurd HA.out (by simp [spec_l10Start.j2])
      | succ kj3 =>
       have H := HA.out
       clear HA
       simp only [spec_l10Start.j2] at H
       by_cases c9 : x30_3 = true
       ·subst c9
        replace H := iT H
        have H' := am H
        clear H
        go_wp2
        go_roundg kj3
        case measure => have := HK1.out; have := HK2.out; have := HJ3.out; omega
        case rel => exact ⟨(wrap64 (x6_2 - 1)), sr, H', ⟨kl⟩, dz⟩
       replace c9 := Bool.eq_false_iff.mpr c9
       subst c9
       replace H := iF H
       have HC10 := am H
       clear H
       go_upto_region 6 with (fail)
       go_cut [50] (fun v50 wc => ∃ (kq : Nat) (x50_9 : Bool), v50 = .bool x50_9 ∧ Aside0 (spec_l10Start.j3 kq l0 x5_1 x6_2 x50_9 = some r) ∧ Aside0 (kq ≤ kj3) ∧ Drawn0 w wc)
       case first =>
        have H := HC10.out
        clear HC10
        by_cases c11 : x6_2 < 0
        ·rw [if_pos c11] at H
         have c11b0 : decide (x6_2 < 0) = true := decide_eq_true c11
         clear c11
         (first | rw [c11b0] | (simp only [i64_w, i32_w]; rw [c11b0]) | skip)
         have H' := am H
         clear H
         go_wp2
         go_meet
         case rel => exact ⟨_, (true), sr, H', ⟨kl⟩, dz⟩
        rw [if_neg c11] at H
        have c11b0 : decide (x6_2 < 0) = false := decide_eq_false c11
        clear c11
        (first | rw [c11b0] | (simp only [i64_w, i32_w]; rw [c11b0]) | skip)
        replace H := iteN H
        obtain ⟨c12, H⟩ := H
        have c12b0 : decide (0 ≤ x6_2) = true := decide_eq_true c12
        clear c12
        replace H := iteN H
        obtain ⟨c13, H⟩ := H
        have c13b0 : decide (x6_2 < (l0.length : Int)) = true := decide_eq_true c13
        clear c13
        by_cases c14 : ((rd_T68 l0 x6_2).f0) < 1536
        ·rw [if_pos c14] at H
         have c14b0 : decide (((rd_T68 l0 x6_2).f0) < 1536) = true := decide_eq_true c14
         clear c14
         have H' := am H
         clear H
         have p228 : 0 ≤ (x6_2 : Int) := od
         have q228 : x6_2 < (l0.length : Int) := od
         obtain ⟨ad228, e228, hx228_0, hx228_1, hx228_2, hx228_3, hx228_4⟩ := at_T68 HR0.out x6_2 p228 q228
         cases e228
         replace p228 := eq_true p228
         replace q228 := eq_true q228
         go_wp2
         go_meet
         case rel => exact ⟨_, (true), sr, H', ⟨kl⟩, dz⟩
        rw [if_neg c14] at H
        have c14b0 : decide (((rd_T68 l0 x6_2).f0) < 1536) = false := decide_eq_false c14
        clear c14
        have H' := am H
        clear H
        have p228 : 0 ≤ (x6_2 : Int) := od
        have q228 : x6_2 < (l0.length : Int) := od
        obtain ⟨ad228, e228, hx228_0, hx228_1, hx228_2, hx228_3, hx228_4⟩ := at_T68 HR0.out x6_2 p228 q228
        cases e228
        replace p228 := eq_true p228
        replace q228 := eq_true q228
        have p229 : 0 ≤ (x6_2 : Int) := od
        have q229 : x6_2 < (l0.length : Int) := od
        obtain ⟨ad229, e229, hx229_0, hx229_1, hx229_2, hx229_3, hx229_4⟩ := at_T68 HR0.out x6_2 p229 q229
        obtain rfl : ad228 = ad229 := (by injection e229)
        replace p229 := eq_true p229
        replace q229 := eq_true q229
        go_wp2
        go_meet
        case rel => exact ⟨_, (decide (((rd_T68 l0 x6_2).f0) > 1567)), sr, H', ⟨kl⟩, dz⟩
       case rest =>
        clear HC10
        try clear c9
        obtain ⟨kq, x50_9, rfl, HA, HJ9, ⟨mc9, rfl⟩⟩ := hcut
        cases kq with
        | zero => exact absurd HA.out (by simp [spec_l10Start.j3])
        | succ kj9 =>
         have H := HA.out
         clear HA
         simp only [spec_l10Start.j3] at H
         by_cases c15 : x50_9 = true
         ·subst c15
          replace H := iT H
          obtain rfl := Option.some.inj H
          go_wp2
          go_ret
          exact rdd
         replace c15 := Bool.eq_false_iff.mpr c15
         subst c15
         replace H := iF H
         have HC16 := am H
         clear H
         go_upto_block 4 with (fail)
         go_cut [7] (fun v7 wc => ∃ (kq : Nat) (x7_15 : Int), v7 = .int .i64 x7_15 ∧ Aside0 (spec_l10Start.j5 kq l0 x6_2 x7_15 = some r) ∧ Aside0 (kq ≤ kj9) ∧ Drawn0 w wc)
         case first =>
          have H := HC16.out
          clear HC16
          have H' := am H
          clear H
          go_wp2
          go_loopg [7] kj9 (fun kq v7 w' => ∃ (x7_5 : Int), v7 = .int .i64 x7_5 ∧ Aside0 (spec_l10Start.l2 kq l0 x6_2 x7_5 = some r) ∧ Aside0 (kq ≤ kj9) ∧ Drawn0 w w')
          case atStart => exact ⟨(wrap64 (x6_2 - 1)), sr, H', ⟨Nat.le_refl _⟩, dz⟩
          case round =>
           clear H'
           try clear c15
           obtain ⟨x7_5, rfl, HA, HK5, ⟨m5, rfl⟩⟩ := hrel
           cases gk with
           | zero => exact absurd HA.out (by simp [spec_l10Start.l2])
           | succ k5 =>
            have H := HA.out
            clear HA
            simp only [spec_l10Start.l2] at H
            by_cases c17 : x7_5 ≥ 0
            rotate_left
            ·rw [if_neg c17] at H
             have c17b0 : decide (0 ≤ x7_5) = false := decide_eq_false c17
             clear c17
             (first | rw [c17b0] | (simp only [i64_w, i32_w]; rw [c17b0]) | skip)
             have H' := am H
             clear H
             go_wp2
             go_meet
             case rel => exact ⟨_, (x7_5), sr, H', ⟨kl⟩, dz⟩
            rw [if_pos c17] at H
            have c17b0 : decide (0 ≤ x7_5) = true := decide_eq_true c17
            clear c17
            (first | rw [c17b0] | (simp only [i64_w, i32_w]; rw [c17b0]) | skip)
            replace H := iteN H
            obtain ⟨c18, H⟩ := H
            have c18b0 : decide (0 ≤ x7_5) = true := decide_eq_true c18
            clear c18
            replace H := iteN H
            obtain ⟨c19, H⟩ := H
            have c19b0 : decide (x7_5 < (l0.length : Int)) = true := decide_eq_true c19
            clear c19
            by_cases c20 : ((rd_T68 l0 x7_5).f0) = 1585
            rotate_left
            ·rw [if_neg c20] at H
             have c20b0 : (((rd_T68 l0 x7_5).f0) == 1585) = false := beq_eq_false_iff_ne.mpr c20
             have c20b1 : (((rd_T68 l0 x7_5).f0) != 1585) = true := bne_iff_ne.mpr c20
             have H' := am H
             clear H
             have p230 : 0 ≤ (x7_5 : Int) := od
             have q230 : x7_5 < (l0.length : Int) := od
             obtain ⟨ad230, e230, hx230_0, hx230_1, hx230_2, hx230_3, hx230_4⟩ := at_T68 HR0.out x7_5 p230 q230
             cases e230
             replace p230 := eq_true p230
             replace q230 := eq_true q230
             go_wp2
             go_meet
             case rel => exact ⟨_, (x7_5), sr, H', ⟨kl⟩, dz⟩
            rw [if_pos c20] at H
            have c20b0 : (((rd_T68 l0 x7_5).f0) == 1585) = true := beq_iff_eq.mpr c20
            have c20b1 : (((rd_T68 l0 x7_5).f0) != 1585) = false := bne_eq_false_iff_eq.mpr c20
            clear c20
            have H' := am H
            clear H
            have p230 : 0 ≤ (x7_5 : Int) := od
            have q230 : x7_5 < (l0.length : Int) := od
            obtain ⟨ad230, e230, hx230_0, hx230_1, hx230_2, hx230_3, hx230_4⟩ := at_T68 HR0.out x7_5 p230 q230
            cases e230
            replace p230 := eq_true p230
            replace q230 := eq_true q230
            go_wp2
            go_roundg k5
            case measure => have := HK1.out; have := HK2.out; have := HJ3.out; have := HJ9.out; have := HK5.out; omega
            case rel => exact ⟨(wrap64 (x7_5 - 1)), sr, H', ⟨kl⟩, dz⟩
         case rest =>
          clear HC16
          try clear c15
          obtain ⟨kq, x7_15, rfl, HA, HJ15, ⟨mc15, rfl⟩⟩ := hcut
          cases kq with
          | zero => exact absurd HA.out (by simp [spec_l10Start.j5])
          | succ kj15 =>
           have H := HA.out
           clear HA
           simp only [spec_l10Start.j5] at H
           by_cases c21 : x7_15 < 0
           ·rw [if_pos c21] at H
            have c21b0 : decide (x7_15 < 0) = true := decide_eq_true c21
            clear c21
            obtain rfl := Option.some.inj H
            go_wp2
            go_ret
            exact rdd
           rw [if_neg c21] at H
           have c21b0 : decide (x7_15 < 0) = false := decide_eq_false c21
           clear c21
           replace H := iteN H
           obtain ⟨c22, H⟩ := H
           have c22b0 : decide (0 ≤ x7_15) = true := decide_eq_true c22
           clear c22
           replace H := iteN H
           obtain ⟨c23, H⟩ := H
           have c23b0 : decide (x7_15 < (l0.length : Int)) = true := decide_eq_true c23
           clear c23
           by_cases c24 : ((rd_T68 l0 x7_15).f0) = 1584
           rotate_left
           ·rw [if_neg c24] at H
            have c24b0 : (((rd_T68 l0 x7_15).f0) == 1584) = false := beq_eq_false_iff_ne.mpr c24
            have c24b1 : (((rd_T68 l0 x7_15).f0) != 1584) = true := bne_iff_ne.mpr c24
            obtain rfl := Option.some.inj H
            have p231 : 0 ≤ (x7_15 : Int) := od
            have q231 : x7_15 < (l0.length : Int) := od
            obtain ⟨ad231, e231, hx231_0, hx231_1, hx231_2, hx231_3, hx231_4⟩ := at_T68 HR0.out x7_15 p231 q231
            cases e231
            replace p231 := eq_true p231
            replace q231 := eq_true q231
            go_wp2
            go_ret
            exact rdd
           rw [if_pos c24] at H
           have c24b0 : (((rd_T68 l0 x7_15).f0) == 1584) = true := beq_iff_eq.mpr c24
           have c24b1 : (((rd_T68 l0 x7_15).f0) != 1584) = false := bne_eq_false_iff_eq.mpr c24
           clear c24
           have H' := am H
           clear H
           have p231 : 0 ≤ (x7_15 : Int) := od
           have q231 : x7_15 < (l0.length : Int) := od
           obtain ⟨ad231, e231, hx231_0, hx231_1, hx231_2, hx231_3, hx231_4⟩ := at_T68 HR0.out x7_15 p231 q231
           cases e231
           replace p231 := eq_true p231
           replace q231 := eq_true q231
           go_wp2
           go_roundg kj15
           case measure => have := HK1.out; have := HK2.out; have := HJ3.out; have := HJ9.out; have := HJ15.out; omega
           case rel => exact ⟨(x6_2), (x7_15), sr, sr, H', ⟨kl⟩, dz⟩
end Go.Proofs.YtmlhnpggjkoinaaDoor.PFnExactGlyphsOf

-- Written by a program of this session (wip/tools/myprint.py) that runs the kit's print with hooks of its own. Lean checks it.
import Derived.Test.YtmlhnpggjkoinaaDoorPFnExactFewestWordsx0
import Derived.Test.YtmlhnpggjkoinaaDoorSlimMore
import Derived.Test.YtmlhnpggjkoinaaDoorPFnExactFewestWordsx2
namespace Go.Proofs.YtmlhnpggjkoinaaDoor.PFnExactFewestWords
open Go.RowKit Go.Proofs.YtmlhnpggjkoinaaDoorW.PrintWords Go.Proofs.YtmlhnpggjkoinaaDoorW.PrintLast Go.Proofs.YtmlhnpggjkoinaaDoorW.PrintMore
attribute [local go_sem] max2_int min2_int max_two min_two max_three min_three max_four min_four   -- for this text's walks alone
set_option linter.unusedVariables false
set_option linter.unusedSimpArgs false

/-! ### spec_l01Known: function 95 -/
mutual
def spec_l01Known.j0 : Nat → Int → Bool → Option (Int × Int)
  | 0, _, _ => none
  | k + 1, x0, x14 => if x14 = true then ((spec_l01Cased.f).bind fun t146 => (spec_l01Known.l0 k x0 t146 0)) else (if x0 ≥ 8192 then (spec_l01Known.j2 k x0 (decide (x0 < 9728))) else (spec_l01Known.j2 k x0 false))
def spec_l01Known.l0 : Nat → Int → List (S100) → Int → Option (Int × Int)
  | 0, _, _, _ => none
  | k + 1, x0, x4, x5 => if x5 < (x4.length : Int) then (if 0 ≤ x5 then (if (Int.tmod x0 256) ≥ ((rd_T100 x4 x5).f0) then (if (Int.tmod x0 256) ≤ ((rd_T100 x4 x5).f1) then (some ((rd_T100 x4 x5).f2, wrap64 (Int.tdiv x0 256))) else (spec_l01Known.l0 k x0 x4 (wrap64 (x5 + 1)))) else (spec_l01Known.l0 k x0 x4 (wrap64 (x5 + 1)))) else (none)) else (some (0, 0))
def spec_l01Known.j2 : Nat → Int → Bool → Option (Int × Int)
  | 0, _, _ => none
  | k + 1, x0, x52 => if x52 = true then (if (Int.tmod x0 512) ≥ 416 then (some (0, 0)) else (if (Int.tmod x0 512) < 208 then (some (4, 1)) else (some (5, 1)))) else ((spec_l01Rows.f).bind fun t152 => (spec_l01Known.l1 k x0 t152 0))
def spec_l01Known.l1 : Nat → Int → List (S100) → Int → Option (Int × Int)
  | 0, _, _, _ => none
  | k + 1, x0, x7, x8 => if x8 < (x7.length : Int) then (if 0 ≤ x8 then (if x0 ≥ ((rd_T100 x7 x8).f0) then (if x0 ≤ ((rd_T100 x7 x8).f1) then (some ((rd_T100 x7 x8).f2, (rd_T100 x7 x8).f3)) else (spec_l01Known.l1 k x0 x7 (wrap64 (x8 + 1)))) else (spec_l01Known.l1 k x0 x7 (wrap64 (x8 + 1)))) else (none)) else (some (0, 0))
end
def spec_l01Known.f (k : Nat) (a0 : Int) : Option (Int × Int) := if a0 ≥ 512 then (spec_l01Known.j0 k a0 (decide (a0 < 1280))) else (spec_l01Known.j0 k a0 false)
theorem spec_l01Known.mono_l : ∀ k, (∀ y0 y1, LeO (spec_l01Known.j0 k y0 y1) (spec_l01Known.j0 (k + 1) y0 y1)) ∧ (∀ y0 y1 y2, LeO (spec_l01Known.l0 k y0 y1 y2) (spec_l01Known.l0 (k + 1) y0 y1 y2)) ∧ (∀ y0 y1, LeO (spec_l01Known.j2 k y0 y1) (spec_l01Known.j2 (k + 1) y0 y1)) ∧ (∀ y0 y1 y2, LeO (spec_l01Known.l1 k y0 y1 y2) (spec_l01Known.l1 (k + 1) y0 y1 y2))
  | 0 => ⟨fun _ _ r h => by simp [spec_l01Known.j0] at h, fun _ _ _ r h => by simp [spec_l01Known.l0] at h, fun _ _ r h => by simp [spec_l01Known.j2] at h, fun _ _ _ r h => by simp [spec_l01Known.l1] at h⟩
  | k + 1 => by
    obtain ⟨ih0, ih1, ih2, ih3⟩ := spec_l01Known.mono_l k
    refine ⟨?_, ?_, ?_, ?_⟩
    · intro y0 y1
      unfold spec_l01Known.j0
      repeat' first
      | (with_reducible exact ih0 _ _)
      | (with_reducible exact ih1 _ _ _)
      | (with_reducible exact ih2 _ _)
      | (with_reducible exact ih3 _ _ _)
      | (with_reducible exact LeO.refl _)
      | (with_reducible exact LeO.none _)
      | (with_reducible refine LeO.ite ?_ ?_)
      | (with_reducible refine LeO.bind ?_ (fun _ => ?_))
      | exact ih0 _ _
      | exact ih1 _ _ _
      | exact ih2 _ _
      | exact ih3 _ _ _
      | exact LeO.none _
      | refine LeO.ite ?_ ?_
      | refine LeO.bind ?_ (fun _ => ?_)
    · intro y0 y1 y2
      unfold spec_l01Known.l0
      repeat' first
      | (with_reducible exact ih0 _ _)
      | (with_reducible exact ih1 _ _ _)
      | (with_reducible exact ih2 _ _)
      | (with_reducible exact ih3 _ _ _)
      | (with_reducible exact LeO.refl _)
      | (with_reducible exact LeO.none _)
      | (with_reducible refine LeO.ite ?_ ?_)
      | (with_reducible refine LeO.bind ?_ (fun _ => ?_))
      | exact ih0 _ _
      | exact ih1 _ _ _
      | exact ih2 _ _
      | exact ih3 _ _ _
      | exact LeO.none _
      | refine LeO.ite ?_ ?_
      | refine LeO.bind ?_ (fun _ => ?_)
    · intro y0 y1
      unfold spec_l01Known.j2
      repeat' first
      | (with_reducible exact ih0 _ _)
      | (with_reducible exact ih1 _ _ _)
      | (with_reducible exact ih2 _ _)
      | (with_reducible exact ih3 _ _ _)
      | (with_reducible exact LeO.refl _)
      | (with_reducible exact LeO.none _)
      | (with_reducible refine LeO.ite ?_ ?_)
      | (with_reducible refine LeO.bind ?_ (fun _ => ?_))
      | exact ih0 _ _
      | exact ih1 _ _ _
      | exact ih2 _ _
      | exact ih3 _ _ _
      | exact LeO.none _
      | refine LeO.ite ?_ ?_
      | refine LeO.bind ?_ (fun _ => ?_)
    · intro y0 y1 y2
      unfold spec_l01Known.l1
      repeat' first
      | (with_reducible exact ih0 _ _)
      | (with_reducible exact ih1 _ _ _)
      | (with_reducible exact ih2 _ _)
      | (with_reducible exact ih3 _ _ _)
      | (with_reducible exact LeO.refl _)
      | (with_reducible exact LeO.none _)
      | (with_reducible refine LeO.ite ?_ ?_)
      | (with_reducible refine LeO.bind ?_ (fun _ => ?_))
      | exact ih0 _ _
      | exact ih1 _ _ _
      | exact ih2 _ _
      | exact ih3 _ _ _
      | exact LeO.none _
      | refine LeO.ite ?_ ?_
      | refine LeO.bind ?_ (fun _ => ?_)
theorem spec_l01Known.mono : ∀ a0 k, LeO (spec_l01Known.f k a0) (spec_l01Known.f (k + 1) a0) := by
  intro a0 k
  obtain ⟨ih0, ih1, ih2, ih3⟩ := spec_l01Known.mono_l k
  unfold spec_l01Known.f
  repeat' first
      | (with_reducible exact ih0 _ _)
      | (with_reducible exact ih1 _ _ _)
      | (with_reducible exact ih2 _ _)
      | (with_reducible exact ih3 _ _ _)
      | (with_reducible exact LeO.refl _)
      | (with_reducible exact LeO.none _)
      | (with_reducible refine LeO.ite ?_ ?_)
      | (with_reducible refine LeO.bind ?_ (fun _ => ?_))
      | exact ih0 _ _
      | exact ih1 _ _ _
      | exact ih2 _ _
      | exact ih3 _ _ _
      | exact LeO.none _
      | refine LeO.ite ?_ ?_
      | refine LeO.bind ?_ (fun _ => ?_)
set_option maxHeartbeats 8000000 in
set_option maxRecDepth 100000 in
theorem spec_l01Known.calls (k : Nat) (a0 : Int) (r1 : Int) (r2 : Int) (w : World) (h : spec_l01Known.f k a0 = some (r1, r2)) :
    Calls Tryd.prog 95 #[.int .i64 a0] w fun e w' => e = .returned (.tuple #[.int .i64 r1, .int .i64 r2]) ∧ Below w.heap.size w w' := by
  have HB := am (Below.refl w.heap.size w)
  have H : (if a0 ≥ 512 then (spec_l01Known.j0 k a0 (decide (a0 < 1280))) else (spec_l01Known.j0 k a0 false)) = some (r1, r2) := h
  clear h
  have HC2 := am H
  clear H
  go_enter Tryd.func95, Tryd.ntmps95
  go_upto_region 1 with (fail)
  repeat (go_quiet (fail); go_upto_region 1 with (fail))
  go_cut [14] (fun v14 wc => ∃ (kq : Nat) (x14_1 : Bool), v14 = .bool x14_1 ∧ Aside0 (spec_l01Known.j0 kq a0 x14_1 = some (r1, r2)) ∧ Aside0 (kq ≤ k) ∧ Aside0 (Below w.heap.size w wc))
  case first =>
    have H := HC2.out
    clear HC2
    by_cases c3 : a0 ≥ 512
    · rw [if_pos c3] at H
      have c3b0 : decide (512 ≤ a0) = true := decide_eq_true c3
      clear c3
      (first | rw [c3b0] | (simp only [i64_w, i32_w]; rw [c3b0]) | skip)
      have H' := am H
      clear H
      go_wp2
      repeat (go_quiet (fail); try go_wp2)
      go_meet
      case rel => exact ⟨_, (decide (a0 < 1280)), (by first | rfl | (simp; done) | (simp [*]; done)), H', ⟨by first | omega | exact Nat.le_refl _⟩, ⟨bB⟩⟩
    · rw [if_neg c3] at H
      have c3b0 : decide (512 ≤ a0) = false := decide_eq_false c3
      clear c3
      (first | rw [c3b0] | (simp only [i64_w, i32_w]; rw [c3b0]) | skip)
      have H' := am H
      clear H
      go_wp2
      repeat (go_quiet (fail); try go_wp2)
      go_meet
      case rel => exact ⟨_, (false), (by first | rfl | (simp; done) | (simp [*]; done)), H', ⟨by first | omega | exact Nat.le_refl _⟩, ⟨bB⟩⟩
  case rest =>
    clear HC2
    try clear p2
    try clear c3
    try clear c3b0
    obtain ⟨kq, x14_1, rfl, HA, HJ1, HB⟩ := hcut
    cases kq with
    | zero => exact absurd HA.out (by simp [spec_l01Known.j0])
    | succ kj1 =>
      have H := HA.out
      clear HA
      simp only [spec_l01Known.j0] at H
      by_cases c4 : x14_1 = true
      · subst c4
        have H1 : ((spec_l01Cased.f).bind fun t146 => (spec_l01Known.l0 kj1 a0 t146 0)) = some (r1, r2) := by rw [if_pos rfl] at H; exact H
        clear H
        have H := H1
        clear H1
        replace H := Option.bind_eq_some_iff.mp H
        obtain ⟨t146, A50, H⟩ := H
        replace H : (spec_l01Known.l0 kj1 a0 t146 0) = some (r1, r2) := H
        have A5 := am A50
        clear A50
        have H' := am H
        clear H
        go_wp2_with (first | (go_at_call 123; (with_reducible refine (spec_l01Cased.calls  t146 _ A5.out).mono ?_); rintro e w6 ⟨v147, rfl, ho0, hb⟩; have HO148 := am (Kd.R_lower ho0 (below_size bB)); replace HB := am (below_step bB hb); (try clear hb); (try clear hb2); (try clear hk); (try clear hi); (try clear ho0)))
        repeat (go_quiet (first | (go_at_call 123; (with_reducible refine (spec_l01Cased.calls  t146 _ A5.out).mono ?_); rintro e w6 ⟨v147, rfl, ho0, hb⟩; have HO148 := am (Kd.R_lower ho0 (below_size bB)); replace HB := am (below_step bB hb); (try clear hb); (try clear hb2); (try clear hk); (try clear hi); (try clear ho0))); try go_wp2_with (first | (go_at_call 123; (with_reducible refine (spec_l01Cased.calls  t146 _ A5.out).mono ?_); rintro e w6 ⟨v147, rfl, ho0, hb⟩; have HO148 := am (Kd.R_lower ho0 (below_size bB)); replace HB := am (below_step bB hb); (try clear hb); (try clear hb2); (try clear hk); (try clear hi); (try clear ho0))))
        go_loopg [5] kj1 (fun kq v5 w' => ∃ (x5_2 : Int), v5 = .int .i64 x5_2 ∧ Aside0 (spec_l01Known.l0 kq a0 t146 x5_2 = some (r1, r2)) ∧ Aside0 (kq ≤ kj1) ∧ Aside0 (Kd.R k100 100 w' w.heap.size (fun _ => True) v147 t146) ∧ Aside0 (Below w.heap.size w w'))
        case atStart => exact ⟨(0), (by first | rfl | (simp; done) | (simp [*]; done)), H', ⟨Nat.le_refl _⟩, ⟨kR HO148.out⟩, ⟨bB⟩⟩
        case round =>
          clear H'
          try clear p2
          try clear c3
          try clear c3b0
          try clear c4
          try clear p2
          obtain ⟨x5_2, rfl, HA, HK2, HO_4, HB⟩ := hrel
          cases gk with
          | zero => exact absurd HA.out (by simp [spec_l01Known.l0])
          | succ k2 =>
            have H := HA.out
            clear HA
            simp only [spec_l01Known.l0] at H
            by_cases c7 : x5_2 < (t146.length : Int)
            · rw [if_pos c7] at H
              have c7b0 : decide (x5_2 < (t146.length : Int)) = true := decide_eq_true c7
              clear c7
              by_cases c8 : 0 ≤ x5_2
              · rw [if_pos c8] at H
                have c8b0 : decide (0 ≤ x5_2) = true := decide_eq_true c8
                clear c8
                by_cases c9 : (Int.tmod a0 256) ≥ ((rd_T100 t146 x5_2).f0)
                · rw [if_pos c9] at H
                  have c9b0 : decide (((rd_T100 t146 x5_2).f0) ≤ (Int.tmod a0 256)) = true := decide_eq_true c9
                  clear c9
                  by_cases c10 : (Int.tmod a0 256) ≤ ((rd_T100 t146 x5_2).f1)
                  · rw [if_pos c10] at H
                    have c10b0 : decide ((Int.tmod a0 256) ≤ ((rd_T100 t146 x5_2).f1)) = true := decide_eq_true c10
                    clear c10
                    simp only [Option.some.injEq, Prod.mk.injEq] at H
                    obtain ⟨rfl, rfl⟩ := H
                    obtain ⟨Ao11, co11, eo11⟩ := Kd.R_slice HO_4.out
                    subst eo11
                    have p149 : 0 ≤ (x5_2 : Int) := od
                    have q149 : x5_2 < (t146.length : Int) := od
                    obtain ⟨ad149, e149, hx149_0, hx149_1, hx149_2, hx149_3⟩ := at_T100 (Kd.R_reads' HO_4.out).2.2 x5_2 p149 q149
                    cases e149
                    replace p149 := eq_true p149
                    replace q149 := eq_true q149
                    have p150 : 0 ≤ (x5_2 : Int) := od
                    have q150 : x5_2 < (t146.length : Int) := od
                    obtain ⟨ad150, e150, hx150_0, hx150_1, hx150_2, hx150_3⟩ := at_T100 (Kd.R_reads' HO_4.out).2.2 x5_2 p150 q150
                    obtain rfl : ad149 = ad150 := (by injection e150)
                    replace p150 := eq_true p150
                    replace q150 := eq_true q150
                    have p151 : 0 ≤ (x5_2 : Int) := od
                    have q151 : x5_2 < (t146.length : Int) := od
                    obtain ⟨ad151, e151, hx151_0, hx151_1, hx151_2, hx151_3⟩ := at_T100 (Kd.R_reads' HO_4.out).2.2 x5_2 p151 q151
                    obtain rfl : ad149 = ad151 := (by injection e151)
                    replace p151 := eq_true p151
                    replace q151 := eq_true q151
                    go_wp2
                    repeat (go_quiet (fail); try go_wp2)
                    go_ret2
                    exact ⟨rv, bB⟩
                  · rw [if_neg c10] at H
                    have c10b0 : decide ((Int.tmod a0 256) ≤ ((rd_T100 t146 x5_2).f1)) = false := decide_eq_false c10
                    clear c10
                    have H' := am H
                    clear H
                    obtain ⟨Ao12, co12, eo12⟩ := Kd.R_slice HO_4.out
                    subst eo12
                    have p149 : 0 ≤ (x5_2 : Int) := od
                    have q149 : x5_2 < (t146.length : Int) := od
                    obtain ⟨ad149, e149, hx149_0, hx149_1, hx149_2, hx149_3⟩ := at_T100 (Kd.R_reads' HO_4.out).2.2 x5_2 p149 q149
                    cases e149
                    replace p149 := eq_true p149
                    replace q149 := eq_true q149
                    have p150 : 0 ≤ (x5_2 : Int) := od
                    have q150 : x5_2 < (t146.length : Int) := od
                    obtain ⟨ad150, e150, hx150_0, hx150_1, hx150_2, hx150_3⟩ := at_T100 (Kd.R_reads' HO_4.out).2.2 x5_2 p150 q150
                    obtain rfl : ad149 = ad150 := (by injection e150)
                    replace p150 := eq_true p150
                    replace q150 := eq_true q150
                    go_wp2
                    repeat (go_quiet (fail); try go_wp2)
                    go_roundg k2
                    case measure => have := HJ1.out; have := HK2.out; omega
                    case rel => exact ⟨(wrap64 (x5_2 + 1)), (by first | rfl | (simp; done) | (simp [*]; done)), H', ⟨by have := HJ1.out; have := HK2.out; omega⟩, ⟨kR HO_4.out⟩, ⟨bB⟩⟩
                · rw [if_neg c9] at H
                  have c9b0 : decide (((rd_T100 t146 x5_2).f0) ≤ (Int.tmod a0 256)) = false := decide_eq_false c9
                  clear c9
                  have H' := am H
                  clear H
                  obtain ⟨Ao13, co13, eo13⟩ := Kd.R_slice HO_4.out
                  subst eo13
                  have p149 : 0 ≤ (x5_2 : Int) := od
                  have q149 : x5_2 < (t146.length : Int) := od
                  obtain ⟨ad149, e149, hx149_0, hx149_1, hx149_2, hx149_3⟩ := at_T100 (Kd.R_reads' HO_4.out).2.2 x5_2 p149 q149
                  cases e149
                  replace p149 := eq_true p149
                  replace q149 := eq_true q149
                  go_wp2
                  repeat (go_quiet (fail); try go_wp2)
                  go_roundg k2
                  case measure => have := HJ1.out; have := HK2.out; omega
                  case rel => exact ⟨(wrap64 (x5_2 + 1)), (by first | rfl | (simp; done) | (simp [*]; done)), H', ⟨by have := HJ1.out; have := HK2.out; omega⟩, ⟨kR HO_4.out⟩, ⟨bB⟩⟩
              · rw [if_neg c8] at H
                exact absurd H (by simp)
            · rw [if_neg c7] at H
              have c7b0 : decide (x5_2 < (t146.length : Int)) = false := decide_eq_false c7
              clear c7
              simp only [Option.some.injEq, Prod.mk.injEq] at H
              obtain ⟨rfl, rfl⟩ := H
              obtain ⟨Ao14, co14, eo14⟩ := Kd.R_slice HO_4.out
              subst eo14
              go_wp2
              repeat (go_quiet (fail); try go_wp2)
              go_ret2
              exact ⟨rv, bB⟩
      · replace c4 := Bool.eq_false_iff.mpr c4
        subst c4
        have H1 : (if a0 ≥ 8192 then (spec_l01Known.j2 kj1 a0 (decide (a0 < 9728))) else (spec_l01Known.j2 kj1 a0 false)) = some (r1, r2) := by rw [if_neg (show ¬ (false = true) by decide)] at H; exact H
        clear H
        have H := H1
        clear H1
        have HC15 := am H
        clear H
        go_upto_region 9 with (fail)
        repeat (go_quiet (fail); go_upto_region 9 with (fail))
        go_cut [52] (fun v52 wc => ∃ (kq : Nat) (x52_14 : Bool), v52 = .bool x52_14 ∧ Aside0 (spec_l01Known.j2 kq a0 x52_14 = some (r1, r2)) ∧ Aside0 (kq ≤ kj1) ∧ Aside0 (Below w.heap.size w wc))
        case first =>
          have H := HC15.out
          clear HC15
          by_cases c16 : a0 ≥ 8192
          · rw [if_pos c16] at H
            have c16b0 : decide (8192 ≤ a0) = true := decide_eq_true c16
            clear c16
            (first | rw [c16b0] | (simp only [i64_w, i32_w]; rw [c16b0]) | skip)
            have H' := am H
            clear H
            go_wp2
            repeat (go_quiet (fail); try go_wp2)
            go_meet
            case rel => exact ⟨_, (decide (a0 < 9728)), (by first | rfl | (simp; done) | (simp [*]; done)), H', ⟨by have := HJ1.out; first | omega | exact Nat.le_refl _⟩, ⟨bB⟩⟩
          · rw [if_neg c16] at H
            have c16b0 : decide (8192 ≤ a0) = false := decide_eq_false c16
            clear c16
            (first | rw [c16b0] | (simp only [i64_w, i32_w]; rw [c16b0]) | skip)
            have H' := am H
            clear H
            go_wp2
            repeat (go_quiet (fail); try go_wp2)
            go_meet
            case rel => exact ⟨_, (false), (by first | rfl | (simp; done) | (simp [*]; done)), H', ⟨by have := HJ1.out; first | omega | exact Nat.le_refl _⟩, ⟨bB⟩⟩
        case rest =>
          clear HC15
          try clear c1
          try clear p1
          try clear q1
          try clear hx1
          try clear p2
          try clear c3
          try clear c3b0
          try clear c4
          try clear p6
          try clear c7
          try clear c7b0
          try clear c8
          try clear c8b0
          try clear c9
          try clear c9b0
          try clear c10
          try clear c10b0
          try clear p14
          try clear q14
          try clear hx14
          try clear p15
          try clear q15
          try clear hx15
          try clear c16
          try clear c16b0
          try clear hx149_0
          try clear hx149_1
          try clear hx149_2
          try clear hx149_3
          try clear hx150_0
          try clear hx150_1
          try clear hx150_2
          try clear hx150_3
          try clear hx151_0
          try clear hx151_1
          try clear hx151_2
          try clear hx151_3
          try clear p149
          try clear p150
          try clear p151
          try clear p2
          try clear q149
          try clear q150
          try clear q151
          obtain ⟨kq, x52_14, rfl, HA, HJ14, HB⟩ := hcut
          cases kq with
          | zero => exact absurd HA.out (by simp [spec_l01Known.j2])
          | succ kj14 =>
            have H := HA.out
            clear HA
            simp only [spec_l01Known.j2] at H
            by_cases c17 : x52_14 = true
            · subst c17
              have H1 : (if (Int.tmod a0 512) ≥ 416 then (some (0, 0)) else (if (Int.tmod a0 512) < 208 then (some (4, 1)) else (some (5, 1)))) = some (r1, r2) := by rw [if_pos rfl] at H; exact H
              clear H
              have H := H1
              clear H1
              by_cases c18 : (Int.tmod a0 512) ≥ 416
              · rw [if_pos c18] at H
                have c18b0 : decide (416 ≤ (Int.tmod a0 512)) = true := decide_eq_true c18
                clear c18
                simp only [Option.some.injEq, Prod.mk.injEq] at H
                obtain ⟨rfl, rfl⟩ := H
                go_wp2
                repeat (go_quiet (fail); try go_wp2)
                go_ret2
                exact ⟨rv, bB⟩
              · rw [if_neg c18] at H
                have c18b0 : decide (416 ≤ (Int.tmod a0 512)) = false := decide_eq_false c18
                clear c18
                by_cases c19 : (Int.tmod a0 512) < 208
                · rw [if_pos c19] at H
                  have c19b0 : decide ((Int.tmod a0 512) < 208) = true := decide_eq_true c19
                  clear c19
                  simp only [Option.some.injEq, Prod.mk.injEq] at H
                  obtain ⟨rfl, rfl⟩ := H
                  go_wp2
                  repeat (go_quiet (fail); try go_wp2)
                  go_ret2
                  exact ⟨rv, bB⟩
                · rw [if_neg c19] at H
                  have c19b0 : decide ((Int.tmod a0 512) < 208) = false := decide_eq_false c19
                  clear c19
                  simp only [Option.some.injEq, Prod.mk.injEq] at H
                  obtain ⟨rfl, rfl⟩ := H
                  go_wp2
                  repeat (go_quiet (fail); try go_wp2)
                  go_ret2
                  exact ⟨rv, bB⟩
            · replace c17 := Bool.eq_false_iff.mpr c17
              subst c17
              have H1 : ((spec_l01Rows.f).bind fun t152 => (spec_l01Known.l1 kj14 a0 t152 0)) = some (r1, r2) := by rw [if_neg (show ¬ (false = true) by decide)] at H; exact H
              clear H
              have H := H1
              clear H1
              replace H := Option.bind_eq_some_iff.mp H
              obtain ⟨t152, A200, H⟩ := H
              replace H : (spec_l01Known.l1 kj14 a0 t152 0) = some (r1, r2) := H
              have A20 := am A200
              clear A200
              have H' := am H
              clear H
              go_wp2_with (first | (go_at_call 124; (with_reducible refine (spec_l01Rows.calls  t152 _ A20.out).mono ?_); rintro e w21 ⟨v153, rfl, ho0, hb⟩; have HO154 := am (Kd.R_lower ho0 (below_size bB)); replace HB := am (below_step bB hb); (try clear hb); (try clear hb2); (try clear hk); (try clear hi); (try clear ho0)))
              repeat (go_quiet (first | (go_at_call 124; (with_reducible refine (spec_l01Rows.calls  t152 _ A20.out).mono ?_); rintro e w21 ⟨v153, rfl, ho0, hb⟩; have HO154 := am (Kd.R_lower ho0 (below_size bB)); replace HB := am (below_step bB hb); (try clear hb); (try clear hb2); (try clear hk); (try clear hi); (try clear ho0))); try go_wp2_with (first | (go_at_call 124; (with_reducible refine (spec_l01Rows.calls  t152 _ A20.out).mono ?_); rintro e w21 ⟨v153, rfl, ho0, hb⟩; have HO154 := am (Kd.R_lower ho0 (below_size bB)); replace HB := am (below_step bB hb); (try clear hb); (try clear hb2); (try clear hk); (try clear hi); (try clear ho0))))
              go_loopg [8] kj14 (fun kq v8 w' => ∃ (x8_3 : Int), v8 = .int .i64 x8_3 ∧ Aside0 (spec_l01Known.l1 kq a0 t152 x8_3 = some (r1, r2)) ∧ Aside0 (kq ≤ kj14) ∧ Aside0 (Kd.R k100 100 w' w.heap.size (fun _ => True) v153 t152) ∧ Aside0 (Below w.heap.size w w'))
              case atStart => exact ⟨(0), (by first | rfl | (simp; done) | (simp [*]; done)), H', ⟨Nat.le_refl _⟩, ⟨kR HO154.out⟩, ⟨bB⟩⟩
              case round =>
                clear H'
                try clear c1
                try clear p1
                try clear q1
                try clear hx1
                try clear p2
                try clear c3
                try clear c3b0
                try clear c4
                try clear p6
                try clear c7
                try clear c7b0
                try clear c8
                try clear c8b0
                try clear c9
                try clear c9b0
                try clear c10
                try clear c10b0
                try clear p14
                try clear q14
                try clear hx14
                try clear p15
                try clear q15
                try clear hx15
                try clear c16
                try clear c16b0
                try clear c17
                try clear c18
                try clear c18b0
                try clear c19
                try clear c19b0
                try clear hx149_0
                try clear hx149_1
                try clear hx149_2
                try clear hx149_3
                try clear hx150_0
                try clear hx150_1
                try clear hx150_2
                try clear hx150_3
                try clear hx151_0
                try clear hx151_1
                try clear hx151_2
                try clear hx151_3
                try clear p1
                try clear p14
                try clear p149
                try clear p15
                try clear p150
                try clear p151
                try clear p2
                try clear p6
                try clear q1
                try clear q14
                try clear q149
                try clear q15
                try clear q150
                try clear q151
                obtain ⟨x8_3, rfl, HA, HK3, HO_7, HB⟩ := hrel
                cases gk with
                | zero => exact absurd HA.out (by simp [spec_l01Known.l1])
                | succ k3 =>
                  have H := HA.out
                  clear HA
                  simp only [spec_l01Known.l1] at H
                  by_cases c22 : x8_3 < (t152.length : Int)
                  · rw [if_pos c22] at H
                    have c22b0 : decide (x8_3 < (t152.length : Int)) = true := decide_eq_true c22
                    clear c22
                    by_cases c23 : 0 ≤ x8_3
                    · rw [if_pos c23] at H
                      have c23b0 : decide (0 ≤ x8_3) = true := decide_eq_true c23
                      clear c23
                      by_cases c24 : a0 ≥ ((rd_T100 t152 x8_3).f0)
                      · rw [if_pos c24] at H
                        have c24b0 : decide (((rd_T100 t152 x8_3).f0) ≤ a0) = true := decide_eq_true c24
                        clear c24
                        by_cases c25 : a0 ≤ ((rd_T100 t152 x8_3).f1)
                        · rw [if_pos c25] at H
                          have c25b0 : decide (a0 ≤ ((rd_T100 t152 x8_3).f1)) = true := decide_eq_true c25
                          clear c25
                          simp only [Option.some.injEq, Prod.mk.injEq] at H
                          obtain ⟨rfl, rfl⟩ := H
                          obtain ⟨Ao26, co26, eo26⟩ := Kd.R_slice HO_7.out
                          subst eo26
                          have p155 : 0 ≤ (x8_3 : Int) := od
                          have q155 : x8_3 < (t152.length : Int) := od
                          obtain ⟨ad155, e155, hx155_0, hx155_1, hx155_2, hx155_3⟩ := at_T100 (Kd.R_reads' HO_7.out).2.2 x8_3 p155 q155
                          cases e155
                          replace p155 := eq_true p155
                          replace q155 := eq_true q155
                          have p156 : 0 ≤ (x8_3 : Int) := od
                          have q156 : x8_3 < (t152.length : Int) := od
                          obtain ⟨ad156, e156, hx156_0, hx156_1, hx156_2, hx156_3⟩ := at_T100 (Kd.R_reads' HO_7.out).2.2 x8_3 p156 q156
                          obtain rfl : ad155 = ad156 := (by injection e156)
                          replace p156 := eq_true p156
                          replace q156 := eq_true q156
                          have p157 : 0 ≤ (x8_3 : Int) := od
                          have q157 : x8_3 < (t152.length : Int) := od
                          obtain ⟨ad157, e157, hx157_0, hx157_1, hx157_2, hx157_3⟩ := at_T100 (Kd.R_reads' HO_7.out).2.2 x8_3 p157 q157
                          obtain rfl : ad155 = ad157 := (by injection e157)
                          replace p157 := eq_true p157
                          replace q157 := eq_true q157
                          have p158 : 0 ≤ (x8_3 : Int) := od
                          have q158 : x8_3 < (t152.length : Int) := od
                          obtain ⟨ad158, e158, hx158_0, hx158_1, hx158_2, hx158_3⟩ := at_T100 (Kd.R_reads' HO_7.out).2.2 x8_3 p158 q158
                          obtain rfl : ad155 = ad158 := (by injection e158)
                          replace p158 := eq_true p158
                          replace q158 := eq_true q158
                          go_wp2
                          repeat (go_quiet (fail); try go_wp2)
                          go_ret2
                          exact ⟨rv, bB⟩
                        · rw [if_neg c25] at H
                          have c25b0 : decide (a0 ≤ ((rd_T100 t152 x8_3).f1)) = false := decide_eq_false c25
                          clear c25
                          have H' := am H
                          clear H
                          obtain ⟨Ao27, co27, eo27⟩ := Kd.R_slice HO_7.out
                          subst eo27
                          have p155 : 0 ≤ (x8_3 : Int) := od
                          have q155 : x8_3 < (t152.length : Int) := od
                          obtain ⟨ad155, e155, hx155_0, hx155_1, hx155_2, hx155_3⟩ := at_T100 (Kd.R_reads' HO_7.out).2.2 x8_3 p155 q155
                          cases e155
                          replace p155 := eq_true p155
                          replace q155 := eq_true q155
                          have p156 : 0 ≤ (x8_3 : Int) := od
                          have q156 : x8_3 < (t152.length : Int) := od
                          obtain ⟨ad156, e156, hx156_0, hx156_1, hx156_2, hx156_3⟩ := at_T100 (Kd.R_reads' HO_7.out).2.2 x8_3 p156 q156
                          obtain rfl : ad155 = ad156 := (by injection e156)
                          replace p156 := eq_true p156
                          replace q156 := eq_true q156
                          go_wp2
                          repeat (go_quiet (fail); try go_wp2)
                          go_roundg k3
                          case measure => have := HJ1.out; have := HJ14.out; have := HK3.out; omega
                          case rel => exact ⟨(wrap64 (x8_3 + 1)), (by first | rfl | (simp; done) | (simp [*]; done)), H', ⟨by have := HJ1.out; have := HJ14.out; have := HK3.out; omega⟩, ⟨kR HO_7.out⟩, ⟨bB⟩⟩
                      · rw [if_neg c24] at H
                        have c24b0 : decide (((rd_T100 t152 x8_3).f0) ≤ a0) = false := decide_eq_false c24
                        clear c24
                        have H' := am H
                        clear H
                        obtain ⟨Ao28, co28, eo28⟩ := Kd.R_slice HO_7.out
                        subst eo28
                        have p155 : 0 ≤ (x8_3 : Int) := od
                        have q155 : x8_3 < (t152.length : Int) := od
                        obtain ⟨ad155, e155, hx155_0, hx155_1, hx155_2, hx155_3⟩ := at_T100 (Kd.R_reads' HO_7.out).2.2 x8_3 p155 q155
                        cases e155
                        replace p155 := eq_true p155
                        replace q155 := eq_true q155
                        go_wp2
                        repeat (go_quiet (fail); try go_wp2)
                        go_roundg k3
                        case measure => have := HJ1.out; have := HJ14.out; have := HK3.out; omega
                        case rel => exact ⟨(wrap64 (x8_3 + 1)), (by first | rfl | (simp; done) | (simp [*]; done)), H', ⟨by have := HJ1.out; have := HJ14.out; have := HK3.out; omega⟩, ⟨kR HO_7.out⟩, ⟨bB⟩⟩
                    · rw [if_neg c23] at H
                      exact absurd H (by simp)
                  · rw [if_neg c22] at H
                    have c22b0 : decide (x8_3 < (t152.length : Int)) = false := decide_eq_false c22
                    clear c22
                    simp only [Option.some.injEq, Prod.mk.injEq] at H
                    obtain ⟨rfl, rfl⟩ := H
                    obtain ⟨Ao29, co29, eo29⟩ := Kd.R_slice HO_7.out
                    subst eo29
                    go_wp2
                    repeat (go_quiet (fail); try go_wp2)
                    go_ret2
                    exact ⟨rv, bB⟩

/-! ### spec_l01Script: function 63 -/
def spec_l01Script.f (k : Nat) (a0 : Int) : Option (Int) := (spec_l01Known.f k a0).bind fun bt159 => (some bt159.2)
theorem spec_l01Script.mono : ∀ a0 k, LeO (spec_l01Script.f k a0) (spec_l01Script.f (k + 1) a0) := by
  intro a0 k
  unfold spec_l01Script.f
  repeat' first
      | (with_reducible exact spec_l01Known.mono _ _)
      | (with_reducible exact LeO.refl _)
      | (with_reducible exact LeO.none _)
      | (with_reducible refine LeO.ite ?_ ?_)
      | (with_reducible refine LeO.bind ?_ (fun _ => ?_))
      | exact spec_l01Known.mono _ _
      | exact LeO.none _
      | refine LeO.ite ?_ ?_
      | refine LeO.bind ?_ (fun _ => ?_)
set_option maxHeartbeats 8000000 in
set_option maxRecDepth 100000 in
theorem spec_l01Script.calls (k : Nat) (a0 : Int) (r : Int) (w : World) (h : spec_l01Script.f k a0 = some r) :
    Calls Tryd.prog 63 #[.int .i64 a0] w fun e w' => e = .returned (.int .i64 r) ∧ Below w.heap.size w w' := by
  have HB := am (Below.refl w.heap.size w)
  have H : ((spec_l01Known.f k a0).bind fun bt159 => (some bt159.2)) = some r := h
  clear h
  replace H := Option.bind_eq_some_iff.mp H
  obtain ⟨⟨t159, t160⟩, A20, H⟩ := H
  replace H : (some t160) = some r := H
  have A2 := am A20
  clear A20
  obtain rfl := Option.some.inj H
  go_enter Tryd.func63, Tryd.ntmps63
  go_wp2_with (first | ((with_reducible refine gate_callee (f := 95) rfl ?_); refine gl 7 Tryd.func95 #[.int .i64 a0] ?_; (with_reducible refine (spec_l01Known.calls k a0 t159 t160 _ A2.out).mono ?_); rintro e w3 ⟨rfl, hb⟩; refine ⟨_, rfl, ?_⟩; replace HB := am (below_step bB hb); (try clear hb); (try clear hb2); (try clear hk); (try clear hi)))
  go_ret
  exact ⟨rv, bB⟩

/-! ### spec_l01Text: function 75 -/
def spec_l01Text.l0 : Nat → List Int → List Int → Int → Option (ByteArray)
  | 0, _, _, _ => none
  | k + 1, x0, x3, x4 => if x4 < (x0.length : Int) then (if 0 ≤ x4 then ((spec_l01Write.f k (rd x0 x4)).bind fun t165 => (if x3.length + t165.size < 140737488355328 then (spec_l01Text.l0 k x0 (x3 ++ bytesOf t165) (wrap64 (x4 + 1))) else (none))) else (none)) else (some (strOfNums x3))
def spec_l01Text.f (k : Nat) (l0 : List Int) : Option (ByteArray) := spec_l01Text.l0 k l0 (([] : List Int)) 0
theorem spec_l01Text.mono_l : ∀ k, (∀ y0 y1 y2, LeO (spec_l01Text.l0 k y0 y1 y2) (spec_l01Text.l0 (k + 1) y0 y1 y2))
  | 0 => fun _ _ _ r h => by simp [spec_l01Text.l0] at h
  | k + 1 => by
    have ih0 := spec_l01Text.mono_l k
    · intro y0 y1 y2
      unfold spec_l01Text.l0
      repeat' first
      | (with_reducible exact ih0 _ _ _)
      | (with_reducible exact spec_l01Write.mono _ _)
      | (with_reducible exact LeO.refl _)
      | (with_reducible exact LeO.none _)
      | (with_reducible refine LeO.ite ?_ ?_)
      | (with_reducible refine LeO.bind ?_ (fun _ => ?_))
      | exact ih0 _ _ _
      | exact spec_l01Write.mono _ _
      | exact LeO.none _
      | refine LeO.ite ?_ ?_
      | refine LeO.bind ?_ (fun _ => ?_)
theorem spec_l01Text.mono : ∀ a0 k, LeO (spec_l01Text.f k a0) (spec_l01Text.f (k + 1) a0) := by
  intro a0 k
  have ih0 := spec_l01Text.mono_l k
  unfold spec_l01Text.f
  repeat' first
      | (with_reducible exact ih0 _ _ _)
      | (with_reducible exact spec_l01Write.mono _ _)
      | (with_reducible exact LeO.refl _)
      | (with_reducible exact LeO.none _)
      | (with_reducible refine LeO.ite ?_ ?_)
      | (with_reducible refine LeO.bind ?_ (fun _ => ?_))
      | exact ih0 _ _ _
      | exact spec_l01Write.mono _ _
      | exact LeO.none _
      | refine LeO.ite ?_ ?_
      | refine LeO.bind ?_ (fun _ => ?_)
set_option maxHeartbeats 8000000 in
set_option maxRecDepth 100000 in
theorem spec_l01Text.calls (k : Nat) (A0 : Option Addr) (c0 : Nat) (l0 : List Int) (r : ByteArray) (w : World) (hr0 : Kd.C (Kd.int .i64) w A0 l0.length l0) (hc0 : l0.length ≤ c0) (h : spec_l01Text.f k l0 = some r) :
    Calls Tryd.prog 75 #[.slice A0 l0.length c0] w fun e w' => e = .returned (.string r) ∧ Below w.heap.size w w' := by
  have HR0 := am hr0
  have HC0 := am hc0
  clear hr0 hc0
  have HB := am (Below.refl w.heap.size w)
  have H : (spec_l01Text.l0 k l0 (([] : List Int)) 0) = some r := h
  clear h
  obtain ⟨y161, hy161⟩ : ∃ y_ : List Int, y_ = (([] : List Int)) := ⟨_, rfl⟩
  replace H : (spec_l01Text.l0 k l0 y161 0) = some r := by first | (rw [hy161]; with_reducible exact H) | (have H2_ := (Option.bind_some _ _).symm.trans H; rw [hy161]; with_reducible exact H2_) | (have H2_ := (Option.bind_some _ _).symm.trans H; with_reducible exact H2_) | with_reducible exact H | (rw [hy161]; exact H) | exact H
  have Ny161 := am hy161
  clear hy161
  have H' := am H
  clear H
  go_enter Tryd.func75, Tryd.ntmps75
  go_wp2_with (first | ((with_reducible refine gate_dst (N := 5) rfl ?_); refine Kd.R_lit (Kd.int .u8) _ 5 ?hg (N := 5) ?hd (xs := ([] : List Int)) (inner := []) (ok := fun _ => True) (okp := fun _ => True) ?hr ?hp (fun _ hk => hk) trivial (Below.refl _ _) (Nat.le_refl _) (by simp) ?_; (case hd => rfl); (case hg => rfl); (case hr => first | (go_simp; done) | (go_simp; rfl)); (case hp => exact (Reps.none _ _)); intro v162 w2 ho3 hb hg_ hnew_; clear hg_ hnew_; (first | rw [← Ny161.out] at ho3 | (simp only [Int.reduceToNat] at ho3; rw [← Ny161.out] at ho3)); have HO163 := am (Kd.R_lower ho3 (below_size bB)); replace HB := am (below_step bB hb); clear hb ho3))
  go_loopg [3, 4] k (fun kq v3 v4 w' => ∃ (x3_1 : List Int) (x4_1 : Int), v4 = .int .i64 x4_1 ∧ Aside0 (spec_l01Text.l0 kq l0 x3_1 x4_1 = some r) ∧ Aside0 (kq ≤ k) ∧ Aside0 (Kd.R (Kd.int .u8) 5 w' w.heap.size (fun _ => True) v3 x3_1) ∧ Aside0 (Below w.heap.size w w'))
  case atStart => exact ⟨(y161), (0), (by first | rfl | (simp; done) | (simp [*]; done)), H', ⟨Nat.le_refl _⟩, ⟨kR HO163.out⟩, ⟨bB⟩⟩
  case round =>
    clear H'
    try clear p2
    obtain ⟨x3_1, x4_1, rfl, HA, HK1, HO_3, HB⟩ := hrel
    cases gk with
    | zero => exact absurd HA.out (by simp [spec_l01Text.l0])
    | succ k1 =>
      have H := HA.out
      clear HA
      simp only [spec_l01Text.l0] at H
      by_cases c4 : x4_1 < (l0.length : Int)
      · rw [if_pos c4] at H
        have c4b0 : decide (x4_1 < (l0.length : Int)) = true := decide_eq_true c4
        clear c4
        by_cases c5 : 0 ≤ x4_1
        · rw [if_pos c5] at H
          have c5b0 : decide (0 ≤ x4_1) = true := decide_eq_true c5
          clear c5
          replace H := Option.bind_eq_some_iff.mp H
          obtain ⟨t165, A60, H⟩ := H
          replace H : (if x3_1.length + t165.size < 140737488355328 then (spec_l01Text.l0 k1 l0 (x3_1 ++ bytesOf t165) (wrap64 (x4_1 + 1))) else (none)) = some r := H
          have A6 := am A60
          clear A60
          by_cases c7 : x3_1.length + t165.size < 140737488355328
          · rw [if_pos c7] at H
            have LMc7 := am c7
            clear c7
            obtain ⟨y166, hy166⟩ : ∃ y_ : List Int, y_ = (x3_1 ++ bytesOf t165) := ⟨_, rfl⟩
            replace H : (spec_l01Text.l0 k1 l0 y166 (wrap64 (x4_1 + 1))) = some r := by first | (rw [hy166]; with_reducible exact H) | (have H2_ := (Option.bind_some _ _).symm.trans H; rw [hy166]; with_reducible exact H2_) | (have H2_ := (Option.bind_some _ _).symm.trans H; with_reducible exact H2_) | with_reducible exact H | (rw [hy166]; exact H) | exact H
            have Ny166 := am hy166
            clear hy166
            have H' := am H
            clear H
            have p164 : 0 ≤ (x4_1 : Int) := od
            have q164 : x4_1 < (l0.length : Int) := od
            obtain ⟨ad164, e164, hx164_0⟩ := Kd.at_int HR0.out x4_1 p164 q164
            cases e164
            replace hx164_0 := (HB.out.cell (World.block_lt_of_cell? w _ hx164_0)).trans hx164_0
            replace p164 := eq_true p164
            replace q164 := eq_true q164
            go_wp2_with (first | ((with_reducible refine gate_callee (f := 105) rfl ?_); refine gl 17 Tryd.func105 #[.int .i64 (rd l0 x4_1)] ?_; (with_reducible refine (spec_l01Write.calls k1 (rd l0 x4_1) t165 _ A6.out).mono ?_); rintro e w8 ⟨rfl, hb⟩; refine ⟨_, rfl, ?_⟩; replace HO_3 := am (Kd.R_below (kR HO_3.out) hb); replace HB := am (below_step bB hb); (try clear hb); (try clear hb2); (try clear hk); (try clear hi)) | (at_builtin; refine print_append_str (w0 := w) w.heap.size rfl (.tmp 12) _ 80 9 5 rfl Tryd.underlying80 Tryd.underlying9 info5 u3 x3_1 t165 rfl rfl ?aO ?aB ?aS ?aL ?_; (case aB => exact bB); (case aO => exact (Kd.own_of_R (kR HO_3.out))); (case aS => exact (below_size bB)); (case aL => have := LMc7.out; omega); intro v167 w9 ho0 hb hg; have ho := Kd.R_of_own (h1 := fun _ => rfl) (ok := fun _ => True) ho0 (fun _ _ => trivial); clear ho0; have hat := True.intro; rw [← Ny166.out] at ho; change Kd.R (Kd.int .u8) 5 w9 w.heap.size (fun _ => True) v167 y166 at ho; replace HB := am (hb); have HO168 := am (ho); clear HO_3; clear ho hb hg hat))
            go_roundg k1
            case measure => have := HK1.out; omega
            case rel => exact ⟨(y166), (wrap64 (x4_1 + 1)), (by first | rfl | (simp; done) | (simp [*]; done)), H', ⟨by have := HK1.out; omega⟩, ⟨kR HO168.out⟩, ⟨bB⟩⟩
          · rw [if_neg c7] at H
            exact absurd H (by simp)
        · rw [if_neg c5] at H
          exact absurd H (by simp)
      · rw [if_neg c4] at H
        have c4b0 : decide (x4_1 < (l0.length : Int)) = false := decide_eq_false c4
        clear c4
        obtain rfl := Option.some.inj H
        have hcv10 := own_string (P := Tryd.prog) Tryd.underlying80 Tryd.underlying5 Tryd.underlying9 (Kd.own_of_R HO_3.out)
        go_wp2
        go_ret
        exact ⟨rv, bB⟩

end Go.Proofs.YtmlhnpggjkoinaaDoor.PFnExactFewestWords

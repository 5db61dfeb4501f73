-- Written by a program of this session (wip/tools/myprint.py) that runs the kit's print with hooks of its own. Lean checks it.
import Derived.Test.YtmlhnpggjkoinaaDoorPFnExactWordsx0
import Derived.Test.YtmlhnpggjkoinaaDoorSlimMore
import Derived.Test.YtmlhnpggjkoinaaDoorPFnExactWordsx3
namespace Go.Proofs.YtmlhnpggjkoinaaDoor.PFnExactWords
open Go.RowKit Go.Proofs.YtmlhnpggjkoinaaDoorW.PrintWords Go.Proofs.YtmlhnpggjkoinaaDoorW.PrintLast Go.Proofs.YtmlhnpggjkoinaaDoorW.PrintMore
attribute [local go_sem] max2_int min2_int max_two min_two max_three min_three max_four min_four   -- for this text's walks alone
set_option linter.unusedVariables false
set_option linter.unusedSimpArgs false

/-! ### spec_l01Known: function 95 -/
mutual
def spec_l01Known.j0 : Nat → Int → Bool → Option (Int × Int)
 | 0, _, _ => none
 | k + 1, x0, x14 => if x14 = true then ((spec_l01Cased.f).bind fun t164 => (spec_l01Known.l0 k x0 t164 0)) else (if x0 ≥ 8192 then (spec_l01Known.j2 k x0 (decide (x0 < 9728))) else (spec_l01Known.j2 k x0 false))
def spec_l01Known.l0 : Nat → Int → List (S100) → Int → Option (Int × Int)
 | 0, _, _, _ => none
 | k + 1, x0, x4, x5 => if x5 < (x4.length : Int) then (if 0 ≤ x5 then (if (Int.tmod x0 256) ≥ ((rd_T100 x4 x5).f0) then (if (Int.tmod x0 256) ≤ ((rd_T100 x4 x5).f1) then (some ((rd_T100 x4 x5).f2, wrap64 (Int.tdiv x0 256))) else (spec_l01Known.l0 k x0 x4 (wrap64 (x5 + 1)))) else (spec_l01Known.l0 k x0 x4 (wrap64 (x5 + 1)))) else (none)) else (some (0, 0))
def spec_l01Known.j2 : Nat → Int → Bool → Option (Int × Int)
 | 0, _, _ => none
 | k + 1, x0, x52 => if x52 = true then (if (Int.tmod x0 512) ≥ 416 then (some (0, 0)) else (if (Int.tmod x0 512) < 208 then (some (4, 1)) else (some (5, 1)))) else ((spec_l01Rows.f).bind fun t170 => (spec_l01Known.l1 k x0 t170 0))
def spec_l01Known.l1 : Nat → Int → List (S100) → Int → Option (Int × Int)
 | 0, _, _, _ => none
 | k + 1, x0, x7, x8 => if x8 < (x7.length : Int) then (if 0 ≤ x8 then (if x0 ≥ ((rd_T100 x7 x8).f0) then (if x0 ≤ ((rd_T100 x7 x8).f1) then (some ((rd_T100 x7 x8).f2, (rd_T100 x7 x8).f3)) else (spec_l01Known.l1 k x0 x7 (wrap64 (x8 + 1)))) else (spec_l01Known.l1 k x0 x7 (wrap64 (x8 + 1)))) else (none)) else (some (0, 0))
end
def spec_l01Known.f (k : Nat) (a0 : Int) : Option (Int × Int) := if a0 ≥ 512 then (spec_l01Known.j0 k a0 (decide (a0 < 1280))) else (spec_l01Known.j0 k a0 false)
set_option maxHeartbeats 8000000 in
set_option maxRecDepth 100000 in
theorem spec_l01Known.calls (k : Nat) (a0 : Int) (r1 : Int) (r2 : Int) (w : World) (h : spec_l01Known.f k a0 = some (r1, r2)) :
  Calls Tryd.prog 95 #[.int .i64 a0] w fun e w' => e = .returned (.tuple #[.int .i64 r1, .int .i64 r2]) ∧ Below w.heap.size w w' := by
 have HB := am (Below.refl w.heap.size w)
 have H : (if a0 ≥ 512 then (spec_l01Known.j0 k a0 (decide (a0 < 1280))) else (spec_l01Known.j0 k a0 false)) = some (r1, r2) := h
 clear h
 have HC2 := am H
 clear H
 go_enter Tryd.func95, Tryd.ntmps95
 go_upto_region 1 with (fail)
 repeat (go_quiet (fail); go_upto_region 1 with (fail))
 go_cut [14] (fun v14 wc => ∃ (kq : Nat) (x14_1 : Bool), v14 = .bool x14_1 ∧ Aside0 (spec_l01Known.j0 kq a0 x14_1 = some (r1, r2)) ∧ Aside0 (kq ≤ k) ∧ Aside0 (Below w.heap.size w wc))
 case first =>
  have H := HC2.out
  clear HC2
  by_cases c3 : a0 ≥ 512
  ·rw [if_pos c3] at H
   have c3b0 : decide (512 ≤ a0) = true := decide_eq_true c3
   clear c3
   (first | rw [c3b0] | (simp only [i64_w, i32_w]; rw [c3b0]) | skip)
   have H' := am H
   clear H
   go_wp2
   repeat (go_quiet (fail); try go_wp2)
   go_meet
   case rel => exact ⟨_, (decide (a0 < 1280)), sr, H', ⟨kl⟩, ⟨bB⟩⟩
  rw [if_neg c3] at H
  have c3b0 : decide (512 ≤ a0) = false := decide_eq_false c3
  clear c3
  (first | rw [c3b0] | (simp only [i64_w, i32_w]; rw [c3b0]) | skip)
  have H' := am H
  clear H
  go_wp2
  repeat (go_quiet (fail); try go_wp2)
  go_meet
  case rel => exact ⟨_, (false), sr, H', ⟨kl⟩, ⟨bB⟩⟩
 case rest =>
  clear HC2
  obtain ⟨kq, x14_1, rfl, HA, HJ1, HB⟩ := hcut
  cases kq with
  | zero => exact absurd HA.out (by simp [spec_l01Known.j0])
  | succ kj1 =>
   have H := HA.out
   clear HA
   simp only [spec_l01Known.j0] at H
   by_cases c4 : x14_1 = true
   ·subst c4
    replace H := iT H
    obtain ⟨t164, A5, H⟩ := bb H
    have H' := am H
    clear H
    go_wp2_with (first | (go_at_call 123; (with_reducible refine (spec_l01Cased.calls  t164 _ A5.out).mono ?_); rintro e w6 ⟨v165, rfl, ho0, hb⟩; have HO166 := am (Kd.R_lower ho0 (below_size bB)); replace HB := am (below_step bB hb); (try clear hb); (try clear ho0)))
    repeat (go_quiet (first | (go_at_call 123; (with_reducible refine (spec_l01Cased.calls  t164 _ A5.out).mono ?_); rintro e w6 ⟨v165, rfl, ho0, hb⟩; have HO166 := am (Kd.R_lower ho0 (below_size bB)); replace HB := am (below_step bB hb); (try clear hb); (try clear ho0))); try go_wp2_with (first | (go_at_call 123; (with_reducible refine (spec_l01Cased.calls  t164 _ A5.out).mono ?_); rintro e w6 ⟨v165, rfl, ho0, hb⟩; have HO166 := am (Kd.R_lower ho0 (below_size bB)); replace HB := am (below_step bB hb); (try clear hb); (try clear ho0))))
    go_loopg [5] kj1 (fun kq v5 w' => ∃ (x5_2 : Int), v5 = .int .i64 x5_2 ∧ Aside0 (spec_l01Known.l0 kq a0 t164 x5_2 = some (r1, r2)) ∧ Aside0 (kq ≤ kj1) ∧ Aside0 (Kd.R k100 100 w' w.heap.size (fun _ => True) v165 t164) ∧ Aside0 (Below w.heap.size w w'))
    case atStart => exact ⟨(0), sr, H', ⟨Nat.le_refl _⟩, ⟨kR HO166.out⟩, ⟨bB⟩⟩
    case round =>
     clear H'
     try clear c4
     obtain ⟨x5_2, rfl, HA, HK2, HO_4, HB⟩ := hrel
     cases gk with
     | zero => exact absurd HA.out (by simp [spec_l01Known.l0])
     | succ k2 =>
      have H := HA.out
      clear HA
      simp only [spec_l01Known.l0] at H
      by_cases c7 : x5_2 < (t164.length : Int)
      rotate_left
      ·rw [if_neg c7] at H
       have c7b0 := decide_eq_false c7
       clear c7
       simp only [Option.some.injEq, Prod.mk.injEq] at H
       obtain ⟨rfl, rfl⟩ := H
       obtain ⟨Ao14, co14, eo14⟩ := Kd.R_slice HO_4.out
       subst eo14
       go_wp2
       repeat (go_quiet (fail); try go_wp2)
       go_ret2
       exact ⟨rv, bB⟩
      rw [if_pos c7] at H
      have c7b0 := decide_eq_true c7
      clear c7
      replace H := iteN H
      obtain ⟨c8, H⟩ := H
      have c8b0 := decide_eq_true c8
      clear c8
      by_cases c9 : (Int.tmod a0 256) ≥ ((rd_T100 t164 x5_2).f0)
      rotate_left
      ·rw [if_neg c9] at H
       have c9b0 : decide (((rd_T100 t164 x5_2).f0) ≤ (Int.tmod a0 256)) = false := decide_eq_false c9
       clear c9
       have H' := am H
       clear H
       obtain ⟨Ao13, co13, eo13⟩ := Kd.R_slice HO_4.out
       subst eo13
       have p167 : 0 ≤ (x5_2 : Int) := od
       have q167 : x5_2 < (t164.length : Int) := od
       obtain ⟨ad167, e167, hx167_0, hx167_1, hx167_2, hx167_3⟩ := at_T100 (Kd.R_reads' HO_4.out).2.2 x5_2 p167 q167
       cases e167
       replace p167 := eq_true p167; replace q167 := eq_true q167
       go_wp2
       repeat (go_quiet (fail); try go_wp2)
       go_roundg k2
       case measure => have := HJ1.out; have := HK2.out; omega
       case rel => exact ⟨(wrap64 (x5_2 + 1)), sr, H', ⟨kl⟩, ⟨kR HO_4.out⟩, ⟨bB⟩⟩
      rw [if_pos c9] at H
      have c9b0 : decide (((rd_T100 t164 x5_2).f0) ≤ (Int.tmod a0 256)) = true := decide_eq_true c9
      clear c9
      by_cases c10 : (Int.tmod a0 256) ≤ ((rd_T100 t164 x5_2).f1)
      rotate_left
      ·rw [if_neg c10] at H
       have c10b0 := decide_eq_false c10
       clear c10
       have H' := am H
       clear H
       obtain ⟨Ao12, co12, eo12⟩ := Kd.R_slice HO_4.out
       subst eo12
       have p167 : 0 ≤ (x5_2 : Int) := od
       have q167 : x5_2 < (t164.length : Int) := od
       obtain ⟨ad167, e167, hx167_0, hx167_1, hx167_2, hx167_3⟩ := at_T100 (Kd.R_reads' HO_4.out).2.2 x5_2 p167 q167
       cases e167
       replace p167 := eq_true p167; replace q167 := eq_true q167
       have p168 : 0 ≤ (x5_2 : Int) := od
       have q168 : x5_2 < (t164.length : Int) := od
       obtain ⟨ad168, e168, hx168_0, hx168_1, hx168_2, hx168_3⟩ := at_T100 (Kd.R_reads' HO_4.out).2.2 x5_2 p168 q168
       obtain rfl : ad167 = ad168 := (by injection e168)
       replace p168 := eq_true p168; replace q168 := eq_true q168
       go_wp2
       repeat (go_quiet (fail); try go_wp2)
       go_roundg k2
       case measure => have := HJ1.out; have := HK2.out; omega
       case rel => exact ⟨(wrap64 (x5_2 + 1)), sr, H', ⟨kl⟩, ⟨kR HO_4.out⟩, ⟨bB⟩⟩
      rw [if_pos c10] at H
      have c10b0 := decide_eq_true c10
      clear c10
      simp only [Option.some.injEq, Prod.mk.injEq] at H
      obtain ⟨rfl, rfl⟩ := H
      obtain ⟨Ao11, co11, eo11⟩ := Kd.R_slice HO_4.out
      subst eo11
      have p167 : 0 ≤ (x5_2 : Int) := od
      have q167 : x5_2 < (t164.length : Int) := od
      obtain ⟨ad167, e167, hx167_0, hx167_1, hx167_2, hx167_3⟩ := at_T100 (Kd.R_reads' HO_4.out).2.2 x5_2 p167 q167
      cases e167
      replace p167 := eq_true p167; replace q167 := eq_true q167
      have p168 : 0 ≤ (x5_2 : Int) := od
      have q168 : x5_2 < (t164.length : Int) := od
      obtain ⟨ad168, e168, hx168_0, hx168_1, hx168_2, hx168_3⟩ := at_T100 (Kd.R_reads' HO_4.out).2.2 x5_2 p168 q168
      obtain rfl : ad167 = ad168 := (by injection e168)
      replace p168 := eq_true p168; replace q168 := eq_true q168
      have p169 : 0 ≤ (x5_2 : Int) := od
      have q169 : x5_2 < (t164.length : Int) := od
      obtain ⟨ad169, e169, hx169_0, hx169_1, hx169_2, hx169_3⟩ := at_T100 (Kd.R_reads' HO_4.out).2.2 x5_2 p169 q169
      obtain rfl : ad167 = ad169 := (by injection e169)
      replace p169 := eq_true p169; replace q169 := eq_true q169
      go_wp2
      repeat (go_quiet (fail); try go_wp2)
      go_ret2
      exact ⟨rv, bB⟩
   replace c4 := Bool.eq_false_iff.mpr c4
   subst c4
   replace H := iF H
   have HC15 := am H
   clear H
   go_upto_region 9 with (fail)
   repeat (go_quiet (fail); go_upto_region 9 with (fail))
   go_cut [52] (fun v52 wc => ∃ (kq : Nat) (x52_14 : Bool), v52 = .bool x52_14 ∧ Aside0 (spec_l01Known.j2 kq a0 x52_14 = some (r1, r2)) ∧ Aside0 (kq ≤ kj1) ∧ Aside0 (Below w.heap.size w wc))
   case first =>
    have H := HC15.out
    clear HC15
    by_cases c16 : a0 ≥ 8192
    ·rw [if_pos c16] at H
     have c16b0 : decide (8192 ≤ a0) = true := decide_eq_true c16
     clear c16
     (first | rw [c16b0] | (simp only [i64_w, i32_w]; rw [c16b0]) | skip)
     have H' := am H
     clear H
     go_wp2
     repeat (go_quiet (fail); try go_wp2)
     go_meet
     case rel => exact ⟨_, (decide (a0 < 9728)), sr, H', ⟨kl⟩, ⟨bB⟩⟩
    rw [if_neg c16] at H
    have c16b0 : decide (8192 ≤ a0) = false := decide_eq_false c16
    clear c16
    (first | rw [c16b0] | (simp only [i64_w, i32_w]; rw [c16b0]) | skip)
    have H' := am H
    clear H
    go_wp2
    repeat (go_quiet (fail); try go_wp2)
    go_meet
    case rel => exact ⟨_, (false), sr, H', ⟨kl⟩, ⟨bB⟩⟩
   case rest =>
    clear HC15
    try clear c4
    obtain ⟨kq, x52_14, rfl, HA, HJ14, HB⟩ := hcut
    cases kq with
    | zero => exact absurd HA.out (by simp [spec_l01Known.j2])
    | succ kj14 =>
     have H := HA.out
     clear HA
     simp only [spec_l01Known.j2] at H
     by_cases c17 : x52_14 = true
     ·subst c17
      replace H := iT H
      by_cases c18 : (Int.tmod a0 512) ≥ 416
      ·rw [if_pos c18] at H
       have c18b0 : decide (416 ≤ (Int.tmod a0 512)) = true := decide_eq_true c18
       clear c18
       simp only [Option.some.injEq, Prod.mk.injEq] at H
       obtain ⟨rfl, rfl⟩ := H
       go_wp2
       repeat (go_quiet (fail); try go_wp2)
       go_ret2
       exact ⟨rv, bB⟩
      rw [if_neg c18] at H
      have c18b0 : decide (416 ≤ (Int.tmod a0 512)) = false := decide_eq_false c18
      clear c18
      by_cases c19 : (Int.tmod a0 512) < 208
      ·rw [if_pos c19] at H
       have c19b0 := decide_eq_true c19
       clear c19
       simp only [Option.some.injEq, Prod.mk.injEq] at H
       obtain ⟨rfl, rfl⟩ := H
       go_wp2
       repeat (go_quiet (fail); try go_wp2)
       go_ret2
       exact ⟨rv, bB⟩
      rw [if_neg c19] at H
      have c19b0 := decide_eq_false c19
      clear c19
      simp only [Option.some.injEq, Prod.mk.injEq] at H
      obtain ⟨rfl, rfl⟩ := H
      go_wp2
      repeat (go_quiet (fail); try go_wp2)
      go_ret2
      exact ⟨rv, bB⟩
     replace c17 := Bool.eq_false_iff.mpr c17
     subst c17
     replace H := iF H
     obtain ⟨t170, A20, H⟩ := bb H
     have H' := am H
     clear H
     go_wp2_with (first | (go_at_call 124; (with_reducible refine (spec_l01Rows.calls  t170 _ A20.out).mono ?_); rintro e w21 ⟨v171, rfl, ho0, hb⟩; have HO172 := am (Kd.R_lower ho0 (below_size bB)); replace HB := am (below_step bB hb); (try clear hb); (try clear ho0)))
     repeat (go_quiet (first | (go_at_call 124; (with_reducible refine (spec_l01Rows.calls  t170 _ A20.out).mono ?_); rintro e w21 ⟨v171, rfl, ho0, hb⟩; have HO172 := am (Kd.R_lower ho0 (below_size bB)); replace HB := am (below_step bB hb); (try clear hb); (try clear ho0))); try go_wp2_with (first | (go_at_call 124; (with_reducible refine (spec_l01Rows.calls  t170 _ A20.out).mono ?_); rintro e w21 ⟨v171, rfl, ho0, hb⟩; have HO172 := am (Kd.R_lower ho0 (below_size bB)); replace HB := am (below_step bB hb); (try clear hb); (try clear ho0))))
     go_loopg [8] kj14 (fun kq v8 w' => ∃ (x8_3 : Int), v8 = .int .i64 x8_3 ∧ Aside0 (spec_l01Known.l1 kq a0 t170 x8_3 = some (r1, r2)) ∧ Aside0 (kq ≤ kj14) ∧ Aside0 (Kd.R k100 100 w' w.heap.size (fun _ => True) v171 t170) ∧ Aside0 (Below w.heap.size w w'))
     case atStart => exact ⟨(0), sr, H', ⟨Nat.le_refl _⟩, ⟨kR HO172.out⟩, ⟨bB⟩⟩
     case round =>
      clear H'
      try clear c17
      obtain ⟨x8_3, rfl, HA, HK3, HO_7, HB⟩ := hrel
      cases gk with
      | zero => exact absurd HA.out (by simp [spec_l01Known.l1])
      | succ k3 =>
       have H := HA.out
       clear HA
       simp only [spec_l01Known.l1] at H
       by_cases c22 : x8_3 < (t170.length : Int)
       rotate_left
       ·rw [if_neg c22] at H
        have c22b0 := decide_eq_false c22
        clear c22
        simp only [Option.some.injEq, Prod.mk.injEq] at H
        obtain ⟨rfl, rfl⟩ := H
        obtain ⟨Ao29, co29, eo29⟩ := Kd.R_slice HO_7.out
        subst eo29
        go_wp2
        repeat (go_quiet (fail); try go_wp2)
        go_ret2
        exact ⟨rv, bB⟩
       rw [if_pos c22] at H
       have c22b0 := decide_eq_true c22
       clear c22
       replace H := iteN H
       obtain ⟨c23, H⟩ := H
       have c23b0 := decide_eq_true c23
       clear c23
       by_cases c24 : a0 ≥ ((rd_T100 t170 x8_3).f0)
       rotate_left
       ·rw [if_neg c24] at H
        have c24b0 : decide (((rd_T100 t170 x8_3).f0) ≤ a0) = false := decide_eq_false c24
        clear c24
        have H' := am H
        clear H
        obtain ⟨Ao28, co28, eo28⟩ := Kd.R_slice HO_7.out
        subst eo28
        have p173 : 0 ≤ (x8_3 : Int) := od
        have q173 : x8_3 < (t170.length : Int) := od
        obtain ⟨ad173, e173, hx173_0, hx173_1, hx173_2, hx173_3⟩ := at_T100 (Kd.R_reads' HO_7.out).2.2 x8_3 p173 q173
        cases e173
        replace p173 := eq_true p173; replace q173 := eq_true q173
        go_wp2
        repeat (go_quiet (fail); try go_wp2)
        go_roundg k3
        case measure => have := HJ1.out; have := HJ14.out; have := HK3.out; omega
        case rel => exact ⟨(wrap64 (x8_3 + 1)), sr, H', ⟨kl⟩, ⟨kR HO_7.out⟩, ⟨bB⟩⟩
       rw [if_pos c24] at H
       have c24b0 : decide (((rd_T100 t170 x8_3).f0) ≤ a0) = true := decide_eq_true c24
       clear c24
       by_cases c25 : a0 ≤ ((rd_T100 t170 x8_3).f1)
       rotate_left
       ·rw [if_neg c25] at H
        have c25b0 := decide_eq_false c25
        clear c25
        have H' := am H
        clear H
        obtain ⟨Ao27, co27, eo27⟩ := Kd.R_slice HO_7.out
        subst eo27
        have p173 : 0 ≤ (x8_3 : Int) := od
        have q173 : x8_3 < (t170.length : Int) := od
        obtain ⟨ad173, e173, hx173_0, hx173_1, hx173_2, hx173_3⟩ := at_T100 (Kd.R_reads' HO_7.out).2.2 x8_3 p173 q173
        cases e173
        replace p173 := eq_true p173; replace q173 := eq_true q173
        have p174 : 0 ≤ (x8_3 : Int) := od
        have q174 : x8_3 < (t170.length : Int) := od
        obtain ⟨ad174, e174, hx174_0, hx174_1, hx174_2, hx174_3⟩ := at_T100 (Kd.R_reads' HO_7.out).2.2 x8_3 p174 q174
        obtain rfl : ad173 = ad174 := (by injection e174)
        replace p174 := eq_true p174; replace q174 := eq_true q174
        go_wp2
        repeat (go_quiet (fail); try go_wp2)
        go_roundg k3
        case measure => have := HJ1.out; have := HJ14.out; have := HK3.out; omega
        case rel => exact ⟨(wrap64 (x8_3 + 1)), sr, H', ⟨kl⟩, ⟨kR HO_7.out⟩, ⟨bB⟩⟩
       rw [if_pos c25] at H
       have c25b0 := decide_eq_true c25
       clear c25
       simp only [Option.some.injEq, Prod.mk.injEq] at H
       obtain ⟨rfl, rfl⟩ := H
       obtain ⟨Ao26, co26, eo26⟩ := Kd.R_slice HO_7.out
       subst eo26
       have p173 : 0 ≤ (x8_3 : Int) := od
       have q173 : x8_3 < (t170.length : Int) := od
       obtain ⟨ad173, e173, hx173_0, hx173_1, hx173_2, hx173_3⟩ := at_T100 (Kd.R_reads' HO_7.out).2.2 x8_3 p173 q173
       cases e173
       replace p173 := eq_true p173; replace q173 := eq_true q173
       have p174 : 0 ≤ (x8_3 : Int) := od
       have q174 : x8_3 < (t170.length : Int) := od
       obtain ⟨ad174, e174, hx174_0, hx174_1, hx174_2, hx174_3⟩ := at_T100 (Kd.R_reads' HO_7.out).2.2 x8_3 p174 q174
       obtain rfl : ad173 = ad174 := (by injection e174)
       replace p174 := eq_true p174; replace q174 := eq_true q174
       have p175 : 0 ≤ (x8_3 : Int) := od
       have q175 : x8_3 < (t170.length : Int) := od
       obtain ⟨ad175, e175, hx175_0, hx175_1, hx175_2, hx175_3⟩ := at_T100 (Kd.R_reads' HO_7.out).2.2 x8_3 p175 q175
       obtain rfl : ad173 = ad175 := (by injection e175)
       replace p175 := eq_true p175; replace q175 := eq_true q175
       have p176 : 0 ≤ (x8_3 : Int) := od
       have q176 : x8_3 < (t170.length : Int) := od
       obtain ⟨ad176, e176, hx176_0, hx176_1, hx176_2, hx176_3⟩ := at_T100 (Kd.R_reads' HO_7.out).2.2 x8_3 p176 q176
       obtain rfl : ad173 = ad176 := (by injection e176)
       replace p176 := eq_true p176; replace q176 := eq_true q176
       go_wp2
       repeat (go_quiet (fail); try go_wp2)
       go_ret2
       exact ⟨rv, bB⟩
/-! ### spec_l01Cat: function 94 -/
def spec_l01Cat.f (k : Nat) (a0 : Int) : Option (Int) := (spec_l01Known.f k a0).bind fun bt177 => (some bt177.1)
set_option maxHeartbeats 8000000 in
set_option maxRecDepth 100000 in
theorem spec_l01Cat.calls (k : Nat) (a0 : Int) (r : Int) (w : World) (h : spec_l01Cat.f k a0 = some r) :
  Calls Tryd.prog 94 #[.int .i64 a0] w fun e w' => e = .returned (.int .i64 r) ∧ Below w.heap.size w w' := by
 have HB := am (Below.refl w.heap.size w)
 have H : ((spec_l01Known.f k a0).bind fun bt177 => (some bt177.1)) = some r := h
 clear h
 replace H := Option.bind_eq_some_iff.mp H
 obtain ⟨⟨t177, t178⟩, A20, H⟩ := H
 replace H : (some t177) = some r := H
 have A2 := am A20
 clear A20
 obtain rfl := Option.some.inj H
 go_enter Tryd.func94, Tryd.ntmps94
 go_wp2_with (first | ((with_reducible refine gate_callee (f := 95) rfl ?_); refine gl 7 Tryd.func95 #[.int .i64 a0] ?_; (with_reducible refine (spec_l01Known.calls k a0 t177 t178 _ A2.out).mono ?_); rintro e w3 ⟨rfl, hb⟩; refine ⟨_, rfl, ?_⟩; replace HB := am (below_step bB hb); (try clear hb)))
 go_ret
 exact ⟨rv, bB⟩
/-! ### spec_l07Control: function 108 -/
def spec_l07Control.f (k : Nat) (a0 : Int) : Option (Bool) := (spec_l01Cat.f k a0).bind fun t179 => (if t179 = 1 then (some true) else (some (a0 == 7954)))
set_option maxHeartbeats 8000000 in
set_option maxRecDepth 100000 in
theorem spec_l07Control.calls (k : Nat) (a0 : Int) (r : Bool) (w : World) (h : spec_l07Control.f k a0 = some r) :
  Calls Tryd.prog 108 #[.int .i64 a0] w fun e w' => e = .returned (.bool r) ∧ Below w.heap.size w w' := by
 have HB := am (Below.refl w.heap.size w)
 have H : ((spec_l01Cat.f k a0).bind fun t179 => (if t179 = 1 then (some true) else (some (a0 == 7954)))) = some r := h
 clear h
 obtain ⟨t179, A2, H⟩ := bb H
 by_cases c3 : t179 = 1
 rotate_left
 ·rw [if_neg c3] at H
  have c3b0 : (t179 == 1) = false := beq_eq_false_iff_ne.mpr c3
  have c3b1 : (t179 != 1) = true := bne_iff_ne.mpr c3
  obtain rfl := Option.some.inj H
  go_enter Tryd.func108, Tryd.ntmps108
  go_wp2_with (first | ((with_reducible refine gate_callee (f := 94) rfl ?_); refine gl 4 Tryd.func94 #[.int .i64 a0] ?_; (with_reducible refine (spec_l01Cat.calls k a0 t179 _ A2.out).mono ?_); rintro e w5 ⟨rfl, hb⟩; refine ⟨_, rfl, ?_⟩; replace HB := am (below_step bB hb); (try clear hb)))
  go_ret
  exact ⟨rv, bB⟩
 rw [if_pos c3] at H
 have c3b0 : (t179 == 1) = true := beq_iff_eq.mpr c3
 have c3b1 : (t179 != 1) = false := bne_eq_false_iff_eq.mpr c3
 clear c3
 obtain rfl := Option.some.inj H
 go_enter Tryd.func108, Tryd.ntmps108
 go_wp2_with (first | ((with_reducible refine gate_callee (f := 94) rfl ?_); refine gl 4 Tryd.func94 #[.int .i64 a0] ?_; (with_reducible refine (spec_l01Cat.calls k a0 t179 _ A2.out).mono ?_); rintro e w4 ⟨rfl, hb⟩; refine ⟨_, rfl, ?_⟩; replace HB := am (below_step bB hb); (try clear hb)))
 go_ret
 exact ⟨rv, bB⟩
end Go.Proofs.YtmlhnpggjkoinaaDoor.PFnExactWords

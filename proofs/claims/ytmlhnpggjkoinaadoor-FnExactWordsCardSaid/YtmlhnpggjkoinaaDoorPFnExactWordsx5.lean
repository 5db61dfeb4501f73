-- Written by a program of this session (wip/tools/myprint.py) that runs the kit's print with hooks of its own. Lean checks it.
import Derived.Test.YtmlhnpggjkoinaaDoorPFnExactWordsx0
import Derived.Test.YtmlhnpggjkoinaaDoorSlimMore
import Derived.Test.YtmlhnpggjkoinaaDoorPFnExactWordsx4
namespace Go.Proofs.YtmlhnpggjkoinaaDoor.PFnExactWords
open Go.RowKit Go.Proofs.YtmlhnpggjkoinaaDoorW.PrintWords Go.Proofs.YtmlhnpggjkoinaaDoorW.PrintLast Go.Proofs.YtmlhnpggjkoinaaDoorW.PrintMore
attribute [local go_sem] max2_int min2_int max_two min_two max_three min_three max_four min_four   -- for this text's walks alone
set_option linter.unusedVariables false
set_option linter.unusedSimpArgs false

/-! ### spec_l07Part: function 128 -/
mutual
def spec_l07Part.j0 : Nat → Int → Bool → Option (Int)
 | 0, _, _ => none
 | k + 1, x0, x3 => if x3 = true then (some 1) else (if x0 ≥ 1824 then (spec_l07Part.j1 k x0 (decide (x0 ≤ 1844))) else (spec_l07Part.j1 k x0 false))
def spec_l07Part.j1 : Nat → Int → Bool → Option (Int)
 | 0, _, _ => none
 | k + 1, x0, x10 => if x10 = true then (some 2) else (if x0 ≥ 1857 then (spec_l07Part.j2 k x0 (decide (x0 ≤ 1883))) else (spec_l07Part.j2 k x0 false))
def spec_l07Part.j2 : Nat → Int → Bool → Option (Int)
 | 0, _, _ => none
 | k + 1, x0, x17 => if x17 = true then (some 3) else (if x0 ≥ 12288 then (if x0 ≤ 23459 then (spec_l07Part.j3 k x0 ((Int.tmod (wrap64 (x0 - 12288)) 28) == 0)) else (spec_l07Part.j3 k x0 false)) else (spec_l07Part.j3 k x0 false))
def spec_l07Part.j3 : Nat → Int → Bool → Option (Int)
 | 0, _, _ => none
 | k + 1, x0, x24 => if x24 = true then (some 4) else (if x0 ≥ 12288 then (if x0 ≤ 23459 then (some 5) else (some 0)) else (some 0))
end
def spec_l07Part.f (k : Nat) (a0 : Int) : Option (Int) := if a0 ≥ 1792 then (spec_l07Part.j0 k a0 (decide (a0 ≤ 1810))) else (spec_l07Part.j0 k a0 false)
set_option maxHeartbeats 8000000 in
set_option maxRecDepth 100000 in
theorem spec_l07Part.calls (k : Nat) (a0 : Int) (r : Int) (w : World) (h : spec_l07Part.f k a0 = some r) :
  Calls Tryd.prog 128 #[.int .i64 a0] w fun e w' => e = .returned (.int .i64 r) ∧ Drawn0 w w' := by
 have H : (if a0 ≥ 1792 then (spec_l07Part.j0 k a0 (decide (a0 ≤ 1810))) else (spec_l07Part.j0 k a0 false)) = some r := h
 clear h
 have HC2 := am H
 clear H
 go_enter Tryd.func128, Tryd.ntmps128
 go_upto_region 1 with (fail)
 go_cut [3] (fun v3 wc => ∃ (kq : Nat) (x3_1 : Bool), v3 = .bool x3_1 ∧ Aside0 (spec_l07Part.j0 kq a0 x3_1 = some r) ∧ Aside0 (kq ≤ k) ∧ Drawn0 w wc)
 case first =>
  have H := HC2.out
  clear HC2
  by_cases c3 : a0 ≥ 1792
  ·rw [if_pos c3] at H
   have c3b0 : decide (1792 ≤ a0) = true := decide_eq_true c3
   clear c3
   (first | rw [c3b0] | (simp only [i64_w, i32_w]; rw [c3b0]) | skip)
   have H' := am H
   clear H
   go_wp2
   go_meet
   case rel => exact ⟨_, (decide (a0 ≤ 1810)), sr, H', ⟨kl⟩, dz⟩
  rw [if_neg c3] at H
  have c3b0 : decide (1792 ≤ a0) = false := decide_eq_false c3
  clear c3
  (first | rw [c3b0] | (simp only [i64_w, i32_w]; rw [c3b0]) | skip)
  have H' := am H
  clear H
  go_wp2
  go_meet
  case rel => exact ⟨_, (false), sr, H', ⟨kl⟩, dz⟩
 case rest =>
  clear HC2
  obtain ⟨kq, x3_1, rfl, HA, HJ1, ⟨mc1, rfl⟩⟩ := hcut
  cases kq with
  | zero => exact absurd HA.out (by simp [spec_l07Part.j0])
  | succ kj1 =>
   have H := HA.out
   clear HA
   simp only [spec_l07Part.j0] at H
   by_cases c4 : x3_1 = true
   ·subst c4
    replace H := iT H
    obtain rfl := Option.some.inj H
    go_wp2
    go_ret
    exact rdd
   replace c4 := Bool.eq_false_iff.mpr c4
   subst c4
   replace H := iF H
   have HC5 := am H
   clear H
   go_upto_region 3 with (fail)
   go_cut [10] (fun v10 wc => ∃ (kq : Nat) (x10_4 : Bool), v10 = .bool x10_4 ∧ Aside0 (spec_l07Part.j1 kq a0 x10_4 = some r) ∧ Aside0 (kq ≤ kj1) ∧ Drawn0 w wc)
   case first =>
    have H := HC5.out
    clear HC5
    by_cases c6 : a0 ≥ 1824
    ·rw [if_pos c6] at H
     have c6b0 : decide (1824 ≤ a0) = true := decide_eq_true c6
     clear c6
     (first | rw [c6b0] | (simp only [i64_w, i32_w]; rw [c6b0]) | skip)
     have H' := am H
     clear H
     go_wp2
     go_meet
     case rel => exact ⟨_, (decide (a0 ≤ 1844)), sr, H', ⟨kl⟩, dz⟩
    rw [if_neg c6] at H
    have c6b0 : decide (1824 ≤ a0) = false := decide_eq_false c6
    clear c6
    (first | rw [c6b0] | (simp only [i64_w, i32_w]; rw [c6b0]) | skip)
    have H' := am H
    clear H
    go_wp2
    go_meet
    case rel => exact ⟨_, (false), sr, H', ⟨kl⟩, dz⟩
   case rest =>
    clear HC5
    try clear c4
    obtain ⟨kq, x10_4, rfl, HA, HJ4, ⟨mc4, rfl⟩⟩ := hcut
    cases kq with
    | zero => exact absurd HA.out (by simp [spec_l07Part.j1])
    | succ kj4 =>
     have H := HA.out
     clear HA
     simp only [spec_l07Part.j1] at H
     by_cases c7 : x10_4 = true
     ·subst c7
      replace H := iT H
      obtain rfl := Option.some.inj H
      go_wp2
      go_ret
      exact rdd
     replace c7 := Bool.eq_false_iff.mpr c7
     subst c7
     replace H := iF H
     have HC8 := am H
     clear H
     go_upto_region 5 with (fail)
     go_cut [17] (fun v17 wc => ∃ (kq : Nat) (x17_7 : Bool), v17 = .bool x17_7 ∧ Aside0 (spec_l07Part.j2 kq a0 x17_7 = some r) ∧ Aside0 (kq ≤ kj4) ∧ Drawn0 w wc)
     case first =>
      have H := HC8.out
      clear HC8
      by_cases c9 : a0 ≥ 1857
      ·rw [if_pos c9] at H
       have c9b0 : decide (1857 ≤ a0) = true := decide_eq_true c9
       clear c9
       (first | rw [c9b0] | (simp only [i64_w, i32_w]; rw [c9b0]) | skip)
       have H' := am H
       clear H
       go_wp2
       go_meet
       case rel => exact ⟨_, (decide (a0 ≤ 1883)), sr, H', ⟨kl⟩, dz⟩
      rw [if_neg c9] at H
      have c9b0 : decide (1857 ≤ a0) = false := decide_eq_false c9
      clear c9
      (first | rw [c9b0] | (simp only [i64_w, i32_w]; rw [c9b0]) | skip)
      have H' := am H
      clear H
      go_wp2
      go_meet
      case rel => exact ⟨_, (false), sr, H', ⟨kl⟩, dz⟩
     case rest =>
      clear HC8
      try clear c7
      obtain ⟨kq, x17_7, rfl, HA, HJ7, ⟨mc7, rfl⟩⟩ := hcut
      cases kq with
      | zero => exact absurd HA.out (by simp [spec_l07Part.j2])
      | succ kj7 =>
       have H := HA.out
       clear HA
       simp only [spec_l07Part.j2] at H
       by_cases c10 : x17_7 = true
       ·subst c10
        replace H := iT H
        obtain rfl := Option.some.inj H
        go_wp2
        go_ret
        exact rdd
       replace c10 := Bool.eq_false_iff.mpr c10
       subst c10
       replace H := iF H
       have HC11 := am H
       clear H
       go_upto_region 7 with (fail)
       go_cut [24] (fun v24 wc => ∃ (kq : Nat) (x24_10 : Bool), v24 = .bool x24_10 ∧ Aside0 (spec_l07Part.j3 kq a0 x24_10 = some r) ∧ Aside0 (kq ≤ kj7) ∧ Drawn0 w wc)
       case first =>
        have H := HC11.out
        clear HC11
        by_cases c12 : a0 ≥ 12288
        rotate_left
        ·rw [if_neg c12] at H
         have c12b0 : decide (12288 ≤ a0) = false := decide_eq_false c12
         clear c12
         (first | rw [c12b0] | (simp only [i64_w, i32_w]; rw [c12b0]) | skip)
         have H' := am H
         clear H
         go_wp2
         go_meet
         case rel => exact ⟨_, (false), sr, H', ⟨kl⟩, dz⟩
        rw [if_pos c12] at H
        have c12b0 : decide (12288 ≤ a0) = true := decide_eq_true c12
        clear c12
        (first | rw [c12b0] | (simp only [i64_w, i32_w]; rw [c12b0]) | skip)
        by_cases c13 : a0 ≤ 23459
        ·rw [if_pos c13] at H
         have c13b0 := decide_eq_true c13
         clear c13
         have H' := am H
         clear H
         go_wp2
         go_meet
         case rel => exact ⟨_, (((Int.tmod (wrap64 (a0 - 12288)) 28) == 0)), sr, H', ⟨kl⟩, dz⟩
        rw [if_neg c13] at H
        have c13b0 := decide_eq_false c13
        clear c13
        have H' := am H
        clear H
        go_wp2
        go_meet
        case rel => exact ⟨_, (false), sr, H', ⟨kl⟩, dz⟩
       case rest =>
        clear HC11
        try clear c10
        obtain ⟨kq, x24_10, rfl, HA, HJ10, ⟨mc10, rfl⟩⟩ := hcut
        cases kq with
        | zero => exact absurd HA.out (by simp [spec_l07Part.j3])
        | succ kj10 =>
         have H := HA.out
         clear HA
         simp only [spec_l07Part.j3] at H
         by_cases c14 : x24_10 = true
         ·subst c14
          replace H := iT H
          obtain rfl := Option.some.inj H
          go_wp2
          go_ret
          exact rdd
         replace c14 := Bool.eq_false_iff.mpr c14
         subst c14
         replace H := iF H
         by_cases c15 : a0 ≥ 12288
         rotate_left
         ·rw [if_neg c15] at H
          have c15b0 : decide (12288 ≤ a0) = false := decide_eq_false c15
          clear c15
          obtain rfl := Option.some.inj H
          go_wp2
          go_ret
          exact rdd
         rw [if_pos c15] at H
         have c15b0 : decide (12288 ≤ a0) = true := decide_eq_true c15
         clear c15
         by_cases c16 : a0 ≤ 23459
         ·rw [if_pos c16] at H
          have c16b0 := decide_eq_true c16
          clear c16
          obtain rfl := Option.some.inj H
          go_wp2
          go_ret
          exact rdd
         rw [if_neg c16] at H
         have c16b0 := decide_eq_false c16
         clear c16
         obtain rfl := Option.some.inj H
         go_wp2
         go_ret
         exact rdd
/-! ### spec_l07Syllable: function 109 -/
def spec_l07Syllable.j0 : Nat → Int → Int → Bool → Option (Bool)
 | 0, _, _, _ => none
 | k + 1, x6, x11, x28 => if x28 = true then (if x6 = 2 then (some true) else (some (x6 == 3))) else (if x11 = 3 then (some (x6 == 3)) else (if x11 = 5 then (some (x6 == 3)) else (some false)))
def spec_l07Syllable.f (k : Nat) (a0 : Int) (a1 : Int) : Option (Bool) := (spec_l07Part.f k a0).bind fun t180 => ((spec_l07Part.f k a1).bind fun t181 => (if t180 = 1 then (if t181 = 1 then (some true) else (if t181 = 2 then (some true) else (if t181 = 4 then (some true) else (some (t181 == 5))))) else (if t180 = 2 then (spec_l07Syllable.j0 k t181 t180 (t180 == 2)) else (spec_l07Syllable.j0 k t181 t180 (t180 == 4)))))
set_option maxHeartbeats 8000000 in
set_option maxRecDepth 100000 in
theorem spec_l07Syllable.calls (k : Nat) (a0 : Int) (a1 : Int) (r : Bool) (w : World) (h : spec_l07Syllable.f k a0 a1 = some r) :
  Calls Tryd.prog 109 #[.int .i64 a0, .int .i64 a1] w fun e w' => e = .returned (.bool r) ∧ Drawn0 w w' := by
 have H : ((spec_l07Part.f k a0).bind fun t180 => ((spec_l07Part.f k a1).bind fun t181 => (if t180 = 1 then (if t181 = 1 then (some true) else (if t181 = 2 then (some true) else (if t181 = 4 then (some true) else (some (t181 == 5))))) else (if t180 = 2 then (spec_l07Syllable.j0 k t181 t180 (t180 == 2)) else (spec_l07Syllable.j0 k t181 t180 (t180 == 4)))))) = some r := h
 clear h
 obtain ⟨t180, A3, H⟩ := bb H
 obtain ⟨t181, A4, H⟩ := bb H
 by_cases c5 : t180 = 1
 ·rw [if_pos c5] at H
  have c5b0 : (t180 == 1) = true := beq_iff_eq.mpr c5
  have c5b1 : (t180 != 1) = false := bne_eq_false_iff_eq.mpr c5
  clear c5
  by_cases c6 : t181 = 1
  ·rw [if_pos c6] at H
   have c6b0 : (t181 == 1) = true := beq_iff_eq.mpr c6
   have c6b1 : (t181 != 1) = false := bne_eq_false_iff_eq.mpr c6
   clear c6
   obtain rfl := Option.some.inj H
   go_enter Tryd.func109, Tryd.ntmps109
   go_wp2_with (first | ((with_reducible refine gate_callee (f := 128) rfl ?_); refine gq 8 Tryd.func128 (spec_l07Part.calls k a0 t180 _ A3.out) fun nd => ?_) | ((with_reducible refine gate_callee (f := 128) rfl ?_); refine gq 10 Tryd.func128 (spec_l07Part.calls k a1 t181 _ A4.out) fun nd => ?_))
   go_ret
   exact rdd
  rw [if_neg c6] at H
  have c6b0 : (t181 == 1) = false := beq_eq_false_iff_ne.mpr c6
  have c6b1 : (t181 != 1) = true := bne_iff_ne.mpr c6
  by_cases c7 : t181 = 2
  ·rw [if_pos c7] at H
   have c7b0 : (t181 == 2) = true := beq_iff_eq.mpr c7
   have c7b1 : (t181 != 2) = false := bne_eq_false_iff_eq.mpr c7
   clear c7
   obtain rfl := Option.some.inj H
   go_enter Tryd.func109, Tryd.ntmps109
   go_wp2_with (first | ((with_reducible refine gate_callee (f := 128) rfl ?_); refine gq 8 Tryd.func128 (spec_l07Part.calls k a0 t180 _ A3.out) fun nd => ?_) | ((with_reducible refine gate_callee (f := 128) rfl ?_); refine gq 10 Tryd.func128 (spec_l07Part.calls k a1 t181 _ A4.out) fun nd => ?_))
   go_ret
   exact rdd
  rw [if_neg c7] at H
  have c7b0 : (t181 == 2) = false := beq_eq_false_iff_ne.mpr c7
  have c7b1 : (t181 != 2) = true := bne_iff_ne.mpr c7
  by_cases c8 : t181 = 4
  rotate_left
  ·rw [if_neg c8] at H
   have c8b0 : (t181 == 4) = false := beq_eq_false_iff_ne.mpr c8
   have c8b1 : (t181 != 4) = true := bne_iff_ne.mpr c8
   obtain rfl := Option.some.inj H
   go_enter Tryd.func109, Tryd.ntmps109
   go_wp2_with (first | ((with_reducible refine gate_callee (f := 128) rfl ?_); refine gq 8 Tryd.func128 (spec_l07Part.calls k a0 t180 _ A3.out) fun nd => ?_) | ((with_reducible refine gate_callee (f := 128) rfl ?_); refine gq 10 Tryd.func128 (spec_l07Part.calls k a1 t181 _ A4.out) fun nd => ?_))
   go_ret
   exact rdd
  rw [if_pos c8] at H
  have c8b0 : (t181 == 4) = true := beq_iff_eq.mpr c8
  have c8b1 : (t181 != 4) = false := bne_eq_false_iff_eq.mpr c8
  clear c8
  obtain rfl := Option.some.inj H
  go_enter Tryd.func109, Tryd.ntmps109
  go_wp2_with (first | ((with_reducible refine gate_callee (f := 128) rfl ?_); refine gq 8 Tryd.func128 (spec_l07Part.calls k a0 t180 _ A3.out) fun nd => ?_) | ((with_reducible refine gate_callee (f := 128) rfl ?_); refine gq 10 Tryd.func128 (spec_l07Part.calls k a1 t181 _ A4.out) fun nd => ?_))
  go_ret
  exact rdd
 rw [if_neg c5] at H
 have c5b0 : (t180 == 1) = false := beq_eq_false_iff_ne.mpr c5
 have c5b1 : (t180 != 1) = true := bne_iff_ne.mpr c5
 have HC9 := am H
 clear H
 go_enter Tryd.func109, Tryd.ntmps109
 go_upto_if 28 with (first | ((with_reducible refine gate_callee (f := 128) rfl ?_); refine gq 8 Tryd.func128 (spec_l07Part.calls k a0 t180 _ A3.out) fun nd => ?_) | ((with_reducible refine gate_callee (f := 128) rfl ?_); refine gq 10 Tryd.func128 (spec_l07Part.calls k a1 t181 _ A4.out) fun nd => ?_))
 (try simp only [Act.put, List.setIfInBounds_toArray, List.set_cons_zero, List.set_cons_succ])
 go_cut [28] (fun v28 wc => ∃ (kq : Nat) (x28_8 : Bool), v28 = .bool x28_8 ∧ Aside0 (spec_l07Syllable.j0 kq t181 t180 x28_8 = some r) ∧ Aside0 (kq ≤ k) ∧ Drawn0 w wc)
 case first =>
  have H := HC9.out
  clear HC9
  by_cases c10 : t180 = 2
  rotate_left
  ·rw [if_neg c10] at H
   have c10b0 : (t180 == 2) = false := beq_eq_false_iff_ne.mpr c10
   have c10b1 : (t180 != 2) = true := bne_iff_ne.mpr c10
   (first | rw [c10b0] | (simp only [i64_w, i32_w]; rw [c10b0]) | skip)
   have H' := am H
   clear H
   go_wp2
   go_meet
   case rel => exact ⟨_, ((t180 == 4)), sr, H', ⟨kl⟩, dz⟩
  rw [if_pos c10] at H
  have c10b0 : (t180 == 2) = true := beq_iff_eq.mpr c10
  have c10b1 : (t180 != 2) = false := bne_eq_false_iff_eq.mpr c10
  clear c10
  (first | rw [c10b0] | (simp only [i64_w, i32_w]; rw [c10b0]) | skip)
  have H' := am H
  clear H
  go_wp2
  go_meet
  case rel => exact ⟨_, ((t180 == 2)), sr, H', ⟨kl⟩, dz⟩
 case rest =>
  clear HC9
  try clear c5
  try clear c5b0
  try clear c5b1
  obtain ⟨kq, x28_8, rfl, HA, HJ8, ⟨mc8, rfl⟩⟩ := hcut
  cases kq with
  | zero => exact absurd HA.out (by simp [spec_l07Syllable.j0])
  | succ kj8 =>
   have H := HA.out
   clear HA
   simp only [spec_l07Syllable.j0] at H
   by_cases c11 : x28_8 = true
   ·subst c11
    replace H := iT H
    by_cases c12 : t181 = 2
    rotate_left
    ·rw [if_neg c12] at H
     have c12b0 : (t181 == 2) = false := beq_eq_false_iff_ne.mpr c12
     have c12b1 : (t181 != 2) = true := bne_iff_ne.mpr c12
     obtain rfl := Option.some.inj H
     go_wp2
     go_ret
     exact rdd
    rw [if_pos c12] at H
    have c12b0 : (t181 == 2) = true := beq_iff_eq.mpr c12
    have c12b1 : (t181 != 2) = false := bne_eq_false_iff_eq.mpr c12
    clear c12
    obtain rfl := Option.some.inj H
    go_wp2
    go_ret
    exact rdd
   replace c11 := Bool.eq_false_iff.mpr c11
   subst c11
   replace H := iF H
   by_cases c13 : t180 = 3
   ·rw [if_pos c13] at H
    have c13b0 : (t180 == 3) = true := beq_iff_eq.mpr c13
    have c13b1 : (t180 != 3) = false := bne_eq_false_iff_eq.mpr c13
    clear c13
    obtain rfl := Option.some.inj H
    go_wp2
    go_ret
    exact rdd
   rw [if_neg c13] at H
   have c13b0 : (t180 == 3) = false := beq_eq_false_iff_ne.mpr c13
   have c13b1 : (t180 != 3) = true := bne_iff_ne.mpr c13
   by_cases c14 : t180 = 5
   rotate_left
   ·rw [if_neg c14] at H
    have c14b0 : (t180 == 5) = false := beq_eq_false_iff_ne.mpr c14
    have c14b1 : (t180 != 5) = true := bne_iff_ne.mpr c14
    obtain rfl := Option.some.inj H
    go_wp2
    go_ret
    exact rdd
   rw [if_pos c14] at H
   have c14b0 : (t180 == 5) = true := beq_iff_eq.mpr c14
   have c14b1 : (t180 != 5) = false := bne_eq_false_iff_eq.mpr c14
   clear c14
   obtain rfl := Option.some.inj H
   go_wp2
   go_ret
   exact rdd
/-! ### spec_l07Mark: function 110 -/
def spec_l07Mark.f (k : Nat) (a0 : Int) : Option (Bool) := (spec_l01Cat.f k a0).bind fun t182 => (if t182 = 3 then (some true) else (if a0 = 7936 then (some true) else (if a0 ≥ 7744 then (some (decide (a0 ≤ 7748))) else (some false))))
set_option maxHeartbeats 8000000 in
set_option maxRecDepth 100000 in
theorem spec_l07Mark.calls (k : Nat) (a0 : Int) (r : Bool) (w : World) (h : spec_l07Mark.f k a0 = some r) :
  Calls Tryd.prog 110 #[.int .i64 a0] w fun e w' => e = .returned (.bool r) ∧ Below w.heap.size w w' := by
 have HB := am (Below.refl w.heap.size w)
 have H : ((spec_l01Cat.f k a0).bind fun t182 => (if t182 = 3 then (some true) else (if a0 = 7936 then (some true) else (if a0 ≥ 7744 then (some (decide (a0 ≤ 7748))) else (some false))))) = some r := h
 clear h
 obtain ⟨t182, A2, H⟩ := bb H
 by_cases c3 : t182 = 3
 ·rw [if_pos c3] at H
  have c3b0 : (t182 == 3) = true := beq_iff_eq.mpr c3
  have c3b1 : (t182 != 3) = false := bne_eq_false_iff_eq.mpr c3
  clear c3
  obtain rfl := Option.some.inj H
  go_enter Tryd.func110, Tryd.ntmps110
  go_wp2_with (first | ((with_reducible refine gate_callee (f := 94) rfl ?_); refine gl 4 Tryd.func94 #[.int .i64 a0] ?_; (with_reducible refine (spec_l01Cat.calls k a0 t182 _ A2.out).mono ?_); rintro e w4 ⟨rfl, hb⟩; refine ⟨_, rfl, ?_⟩; replace HB := am (below_step bB hb); (try clear hb)))
  go_ret
  exact ⟨rv, bB⟩
 rw [if_neg c3] at H
 have c3b0 : (t182 == 3) = false := beq_eq_false_iff_ne.mpr c3
 have c3b1 : (t182 != 3) = true := bne_iff_ne.mpr c3
 by_cases c5 : a0 = 7936
 ·rw [if_pos c5] at H
  have c5b0 : (a0 == 7936) = true := beq_iff_eq.mpr c5
  have c5b1 : (a0 != 7936) = false := bne_eq_false_iff_eq.mpr c5
  clear c5
  obtain rfl := Option.some.inj H
  go_enter Tryd.func110, Tryd.ntmps110
  go_wp2_with (first | ((with_reducible refine gate_callee (f := 94) rfl ?_); refine gl 4 Tryd.func94 #[.int .i64 a0] ?_; (with_reducible refine (spec_l01Cat.calls k a0 t182 _ A2.out).mono ?_); rintro e w6 ⟨rfl, hb⟩; refine ⟨_, rfl, ?_⟩; replace HB := am (below_step bB hb); (try clear hb)))
  go_ret
  exact ⟨rv, bB⟩
 rw [if_neg c5] at H
 have c5b0 : (a0 == 7936) = false := beq_eq_false_iff_ne.mpr c5
 have c5b1 : (a0 != 7936) = true := bne_iff_ne.mpr c5
 by_cases c7 : a0 ≥ 7744
 ·rw [if_pos c7] at H
  have c7b0 : decide (7744 ≤ a0) = true := decide_eq_true c7
  clear c7
  obtain rfl := Option.some.inj H
  go_enter Tryd.func110, Tryd.ntmps110
  go_wp2_with (first | ((with_reducible refine gate_callee (f := 94) rfl ?_); refine gl 4 Tryd.func94 #[.int .i64 a0] ?_; (with_reducible refine (spec_l01Cat.calls k a0 t182 _ A2.out).mono ?_); rintro e w8 ⟨rfl, hb⟩; refine ⟨_, rfl, ?_⟩; replace HB := am (below_step bB hb); (try clear hb)))
  go_ret
  exact ⟨rv, bB⟩
 rw [if_neg c7] at H
 have c7b0 : decide (7744 ≤ a0) = false := decide_eq_false c7
 clear c7
 obtain rfl := Option.some.inj H
 go_enter Tryd.func110, Tryd.ntmps110
 go_wp2_with (first | ((with_reducible refine gate_callee (f := 94) rfl ?_); refine gl 4 Tryd.func94 #[.int .i64 a0] ?_; (with_reducible refine (spec_l01Cat.calls k a0 t182 _ A2.out).mono ?_); rintro e w9 ⟨rfl, hb⟩; refine ⟨_, rfl, ?_⟩; replace HB := am (below_step bB hb); (try clear hb)))
 go_ret
 exact ⟨rv, bB⟩
/-! ### spec_l07Bound: function 111 -/
def spec_l07Bound.l0 : Nat → List Int → Int → Option (Bool)
 | 0, _, _ => none
 | k + 1, x0, x1 => if x1 > 0 then (if 0 ≤ x1 then (if x1 < (x0.length : Int) then (if (rd x0 x1) = 1585 then (spec_l07Bound.l0 k x0 (wrap64 (x1 - 1))) else (some ((rd x0 x1) == 1584))) else (none)) else (none)) else (if 0 ≤ x1 then (if x1 < (x0.length : Int) then (some ((rd x0 x1) == 1584)) else (none)) else (none))
def spec_l07Bound.f (k : Nat) (l0 : List Int) (a1 : Int) : Option (Bool) := spec_l07Bound.l0 k l0 a1
set_option maxHeartbeats 8000000 in
set_option maxRecDepth 100000 in
theorem spec_l07Bound.calls (k : Nat) (A0 : Option Addr) (c0 : Nat) (l0 : List Int) (a1 : Int) (r : Bool) (w : World) (hr0 : Kd.C (Kd.int .i64) w A0 l0.length l0) (hc0 : l0.length ≤ c0) (h : spec_l07Bound.f k l0 a1 = some r) :
  Calls Tryd.prog 111 #[.slice A0 l0.length c0, .int .i64 a1] w fun e w' => e = .returned (.bool r) ∧ Drawn0 w w' := by
 have HR0 := am hr0
 have HC0 := am hc0
 clear hr0 hc0
 have H : (spec_l07Bound.l0 k l0 a1) = some r := h
 clear h
 have H' := am H
 clear H
 go_enter Tryd.func111, Tryd.ntmps111
 go_wp2
 go_loopg [1] k (fun kq v1 w' => ∃ (x1_1 : Int), v1 = .int .i64 x1_1 ∧ Aside0 (spec_l07Bound.l0 kq l0 x1_1 = some r) ∧ Aside0 (kq ≤ k) ∧ Drawn0 w w')
 case atStart => exact ⟨(a1), sr, H', ⟨Nat.le_refl _⟩, dz⟩
 case round =>
  clear H'
  obtain ⟨x1_1, rfl, HA, HK1, ⟨m1, rfl⟩⟩ := hrel
  cases gk with
  | zero => exact absurd HA.out (by simp [spec_l07Bound.l0])
  | succ k1 =>
   have H := HA.out
   clear HA
   simp only [spec_l07Bound.l0] at H
   by_cases c3 : x1_1 > 0
   rotate_left
   ·rw [if_neg c3] at H
    have c3b0 : decide (0 < x1_1) = false := decide_eq_false c3
    clear c3
    replace H := iteN H
    obtain ⟨c7, H⟩ := H
    have c7b0 := decide_eq_true c7
    clear c7
    replace H := iteN H
    obtain ⟨c8, H⟩ := H
    have c8b0 := decide_eq_true c8
    clear c8
    obtain rfl := Option.some.inj H
    have p185 : 0 ≤ (x1_1 : Int) := od
    have q185 : x1_1 < (l0.length : Int) := od
    obtain ⟨ad185, e185, hx185_0⟩ := Kd.at_int HR0.out x1_1 p185 q185
    cases e185
    replace p185 := eq_true p185; replace q185 := eq_true q185
    go_wp2
    go_ret
    exact rdd
   rw [if_pos c3] at H
   have c3b0 : decide (0 < x1_1) = true := decide_eq_true c3
   clear c3
   replace H := iteN H
   obtain ⟨c4, H⟩ := H
   have c4b0 := decide_eq_true c4
   clear c4
   replace H := iteN H
   obtain ⟨c5, H⟩ := H
   have c5b0 := decide_eq_true c5
   clear c5
   by_cases c6 : (rd l0 x1_1) = 1585
   ·rw [if_pos c6] at H
    have c6b0 : ((rd l0 x1_1) == 1585) = true := beq_iff_eq.mpr c6
    have c6b1 : ((rd l0 x1_1) != 1585) = false := bne_eq_false_iff_eq.mpr c6
    clear c6
    have H' := am H
    clear H
    have p183 : 0 ≤ (x1_1 : Int) := od
    have q183 : x1_1 < (l0.length : Int) := od
    obtain ⟨ad183, e183, hx183_0⟩ := Kd.at_int HR0.out x1_1 p183 q183
    cases e183
    replace p183 := eq_true p183; replace q183 := eq_true q183
    go_wp2
    go_roundg k1
    case measure => have := HK1.out; omega
    case rel => exact ⟨(wrap64 (x1_1 - 1)), sr, H', ⟨kl⟩, dz⟩
   rw [if_neg c6] at H
   have c6b0 : ((rd l0 x1_1) == 1585) = false := beq_eq_false_iff_ne.mpr c6
   have c6b1 : ((rd l0 x1_1) != 1585) = true := bne_iff_ne.mpr c6
   obtain rfl := Option.some.inj H
   have p183 : 0 ≤ (x1_1 : Int) := od
   have q183 : x1_1 < (l0.length : Int) := od
   obtain ⟨ad183, e183, hx183_0⟩ := Kd.at_int HR0.out x1_1 p183 q183
   cases e183
   replace p183 := eq_true p183; replace q183 := eq_true q183
   have p184 : 0 ≤ (x1_1 : Int) := od
   have q184 : x1_1 < (l0.length : Int) := od
   obtain ⟨ad184, e184, hx184_0⟩ := Kd.at_int HR0.out x1_1 p184 q184
   obtain rfl : ad183 = ad184 := (by injection e184)
   replace p184 := eq_true p184; replace q184 := eq_true q184
   go_wp2
   go_ret
   exact rdd
/-! ### spec_l07Picture: function 112 -/
def spec_l07Picture.f (a0 : Int) : Option (Bool) := if a0 ≥ 7680 then (some (decide (a0 ≤ 7743))) else (some false)
set_option maxHeartbeats 8000000 in
set_option maxRecDepth 100000 in
theorem spec_l07Picture.calls (a0 : Int) (r : Bool) (w : World) (h : spec_l07Picture.f a0 = some r) :
  Calls Tryd.prog 112 #[.int .i64 a0] w fun e w' => e = .returned (.bool r) ∧ Drawn0 w w' := by
 have H : (if a0 ≥ 7680 then (some (decide (a0 ≤ 7743))) else (some false)) = some r := h
 clear h
 by_cases c2 : a0 ≥ 7680
 ·rw [if_pos c2] at H
  have c2b0 : decide (7680 ≤ a0) = true := decide_eq_true c2
  clear c2
  obtain rfl := Option.some.inj H
  go_enter Tryd.func112, Tryd.ntmps112
  go_wp2
  go_ret
  exact rdd
 rw [if_neg c2] at H
 have c2b0 : decide (7680 ≤ a0) = false := decide_eq_false c2
 clear c2
 obtain rfl := Option.some.inj H
 go_enter Tryd.func112, Tryd.ntmps112
 go_wp2
 go_ret
 exact rdd
/-! ### spec_l07Flag: function 113 -/
def spec_l07Flag.f (a0 : Int) : Option (Bool) := if a0 ≥ 7760 then (some (decide (a0 ≤ 7785))) else (some false)
set_option maxHeartbeats 8000000 in
set_option maxRecDepth 100000 in
theorem spec_l07Flag.calls (a0 : Int) (r : Bool) (w : World) (h : spec_l07Flag.f a0 = some r) :
  Calls Tryd.prog 113 #[.int .i64 a0] w fun e w' => e = .returned (.bool r) ∧ Drawn0 w w' := by
 have H : (if a0 ≥ 7760 then (some (decide (a0 ≤ 7785))) else (some false)) = some r := h
 clear h
 by_cases c2 : a0 ≥ 7760
 ·rw [if_pos c2] at H
  have c2b0 : decide (7760 ≤ a0) = true := decide_eq_true c2
  clear c2
  obtain rfl := Option.some.inj H
  go_enter Tryd.func113, Tryd.ntmps113
  go_wp2
  go_ret
  exact rdd
 rw [if_neg c2] at H
 have c2b0 : decide (7760 ≤ a0) = false := decide_eq_false c2
 clear c2
 obtain rfl := Option.some.inj H
 go_enter Tryd.func113, Tryd.ntmps113
 go_wp2
 go_ret
 exact rdd
end Go.Proofs.YtmlhnpggjkoinaaDoor.PFnExactWords

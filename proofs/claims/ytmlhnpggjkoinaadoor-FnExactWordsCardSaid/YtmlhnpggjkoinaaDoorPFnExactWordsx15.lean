-- Written by a program of this session (wip/tools/myprint.py) that runs the kit's print with hooks of its own. Lean checks it.
import Derived.Test.YtmlhnpggjkoinaaDoorPFnExactWordsx0
import Derived.Test.YtmlhnpggjkoinaaDoorSlimMore
import Derived.Test.YtmlhnpggjkoinaaDoorPFnExactWordsx13
import Derived.Test.YtmlhnpggjkoinaaDoorPFnExactWordsx14
namespace Go.Proofs.YtmlhnpggjkoinaaDoor.PFnExactWords
open Go.RowKit Go.Proofs.YtmlhnpggjkoinaaDoorW.PrintWords Go.Proofs.YtmlhnpggjkoinaaDoorW.PrintLast Go.Proofs.YtmlhnpggjkoinaaDoorW.PrintMore
attribute [local go_sem] max2_int min2_int max_two min_two max_three min_three max_four min_four   -- for this text's walks alone
set_option linter.unusedVariables false
set_option linter.unusedSimpArgs false

/-! ### impl_Category: function 85 -/
def impl_Category.f (k : Nat) (a0 : Int) : Option (Int) := (impl_kind.f k a0).bind fun bt405 => (some bt405.1)
set_option maxHeartbeats 8000000 in
set_option maxRecDepth 100000 in
theorem impl_Category.calls (k : Nat) (a0 : Int) (r : Int) (w : World) (h : impl_Category.f k a0 = some r) :
  Calls Tryd.prog 85 #[.int .i64 a0] w fun e w' => e = .returned (.int .i64 r) ∧ Drawn0 w w' := by
 have H : ((impl_kind.f k a0).bind fun bt405 => (some bt405.1)) = some r := h
 clear h
 replace H := Option.bind_eq_some_iff.mp H
 obtain ⟨⟨t405, t406⟩, A20, H⟩ := H
 replace H : (some t405) = some r := H
 have A2 := am A20
 clear A20
 obtain rfl := Option.some.inj H
 go_enter Tryd.func85, Tryd.ntmps85
 go_wp2_with (first | ((with_reducible refine gate_callee (f := 97) rfl ?_); refine gq 7 Tryd.func97 (impl_kind.calls k a0 t405 t406 _ A2.out) fun nd => ?_))
 go_ret
 exact rdd
/-! ### impl_isMark: function 118 -/
def impl_isMark.f (k : Nat) (a0 : Int) : Option (Bool) := (impl_Category.f k a0).bind fun t407 => (some (t407 == 3))
set_option maxHeartbeats 8000000 in
set_option maxRecDepth 100000 in
theorem impl_isMark.calls (k : Nat) (a0 : Int) (r : Bool) (w : World) (h : impl_isMark.f k a0 = some r) :
  Calls Tryd.prog 118 #[.int .i64 a0] w fun e w' => e = .returned (.bool r) ∧ Drawn0 w w' := by
 have H : ((impl_Category.f k a0).bind fun t407 => (some (t407 == 3))) = some r := h
 clear h
 obtain ⟨t407, A2, H⟩ := bb H
 obtain rfl := Option.some.inj H
 go_enter Tryd.func118, Tryd.ntmps118
 go_wp2_with (first | ((with_reducible refine gate_callee (f := 85) rfl ?_); refine gq 4 Tryd.func85 (impl_Category.calls k a0 t407 _ A2.out) fun nd => ?_))
 go_ret
 exact rdd
/-! ### impl_isSyllable: function 120 -/
def impl_isSyllable.f (a0 : Int) : Option (Bool) := (impl_in.f a0 12288 23459).bind fun t408 => (some t408)
set_option maxHeartbeats 8000000 in
set_option maxRecDepth 100000 in
theorem impl_isSyllable.calls (a0 : Int) (r : Bool) (w : World) (h : impl_isSyllable.f a0 = some r) :
  Calls Tryd.prog 120 #[.int .i64 a0] w fun e w' => e = .returned (.bool r) ∧ Drawn0 w w' := by
 have H : ((impl_in.f a0 12288 23459).bind fun t408 => (some t408)) = some r := h
 clear h
 obtain ⟨t408, A2, H⟩ := bb H
 obtain rfl := Option.some.inj H
 go_enter Tryd.func120, Tryd.ntmps120
 go_wp2_with (first | ((with_reducible refine gate_callee (f := 99) rfl ?_); refine gq 4 Tryd.func99 (impl_in.calls a0 12288 23459 t408 _ A2.out) fun nd => ?_))
 go_ret
 exact rdd
/-! ### impl_isOpen: function 119 -/
def impl_isOpen.f (a0 : Int) : Option (Bool) := (impl_isSyllable.f a0).bind fun t409 => (if t409 = true then (some ((Int.tmod (wrap64 (a0 - 12288)) 28) == 0)) else (some false))
set_option maxHeartbeats 8000000 in
set_option maxRecDepth 100000 in
theorem impl_isOpen.calls (a0 : Int) (r : Bool) (w : World) (h : impl_isOpen.f a0 = some r) :
  Calls Tryd.prog 119 #[.int .i64 a0] w fun e w' => e = .returned (.bool r) ∧ Drawn0 w w' := by
 have H : ((impl_isSyllable.f a0).bind fun t409 => (if t409 = true then (some ((Int.tmod (wrap64 (a0 - 12288)) 28) == 0)) else (some false))) = some r := h
 clear h
 obtain ⟨t409, A2, H⟩ := bb H
 by_cases c3 : t409 = true
 ·subst c3
  replace H := iT H
  obtain rfl := Option.some.inj H
  go_enter Tryd.func119, Tryd.ntmps119
  go_wp2_with (first | ((with_reducible refine gate_callee (f := 120) rfl ?_); refine gq 4 Tryd.func120 (impl_isSyllable.calls a0 true _ A2.out) fun nd => ?_))
  go_ret
  exact rdd
 replace c3 := Bool.eq_false_iff.mpr c3
 subst c3
 replace H := iF H
 obtain rfl := Option.some.inj H
 go_enter Tryd.func119, Tryd.ntmps119
 go_wp2_with (first | ((with_reducible refine gate_callee (f := 120) rfl ?_); refine gq 4 Tryd.func120 (impl_isSyllable.calls a0 false _ A2.out) fun nd => ?_))
 go_ret
 exact rdd
/-! ### impl_isPicture: function 121 -/
def impl_isPicture.f (a0 : Int) : Option (Bool) := (impl_in.f a0 7680 7743).bind fun t410 => (some t410)
set_option maxHeartbeats 8000000 in
set_option maxRecDepth 100000 in
theorem impl_isPicture.calls (a0 : Int) (r : Bool) (w : World) (h : impl_isPicture.f a0 = some r) :
  Calls Tryd.prog 121 #[.int .i64 a0] w fun e w' => e = .returned (.bool r) ∧ Drawn0 w w' := by
 have H : ((impl_in.f a0 7680 7743).bind fun t410 => (some t410)) = some r := h
 clear h
 obtain ⟨t410, A2, H⟩ := bb H
 obtain rfl := Option.some.inj H
 go_enter Tryd.func121, Tryd.ntmps121
 go_wp2_with (first | ((with_reducible refine gate_callee (f := 99) rfl ?_); refine gq 4 Tryd.func99 (impl_in.calls a0 7680 7743 t410 _ A2.out) fun nd => ?_))
 go_ret
 exact rdd
/-! ### impl_charClass: function 86 -/
mutual
def impl_charClass.j0 : Nat → Int → Bool → Option (Int)
 | 0, _, _ => none
 | k + 1, x0, x3 => if x3 = true then (some 1) else ((impl_isMark.f k x0).bind fun t412 => (if t412 = true then (impl_charClass.j1 k x0 true) else (if x0 = 7936 then (impl_charClass.j1 k x0 true) else ((impl_in.f x0 7744 7748).bind fun t413 => (impl_charClass.j1 k x0 t413)))))
def impl_charClass.j1 : Nat → Int → Bool → Option (Int)
 | 0, _, _ => none
 | k + 1, x0, x11 => if x11 = true then (some 2) else ((impl_in.f x0 1792 1810).bind fun t414 => (if t414 = true then (some 3) else ((impl_in.f x0 1824 1844).bind fun t415 => (if t415 = true then (some 4) else ((impl_in.f x0 1857 1883).bind fun t416 => (if t416 = true then (some 5) else ((impl_isOpen.f x0).bind fun t417 => (if t417 = true then (some 6) else ((impl_isSyllable.f x0).bind fun t418 => (if t418 = true then (some 7) else ((impl_isPicture.f x0).bind fun t419 => (if t419 = true then (some 8) else ((impl_in.f x0 7760 7785).bind fun t420 => (if t420 = true then (some 9) else (some 0)))))))))))))))
end
def impl_charClass.f (k : Nat) (a0 : Int) : Option (Int) := (impl_Category.f k a0).bind fun t411 => (if t411 = 1 then (impl_charClass.j0 k a0 true) else (impl_charClass.j0 k a0 (a0 == 7954)))
set_option maxHeartbeats 8000000 in
set_option maxRecDepth 100000 in
theorem impl_charClass.calls (k : Nat) (a0 : Int) (r : Int) (w : World) (h : impl_charClass.f k a0 = some r) :
  Calls Tryd.prog 86 #[.int .i64 a0] w fun e w' => e = .returned (.int .i64 r) ∧ Drawn0 w w' := by
 have H : ((impl_Category.f k a0).bind fun t411 => (if t411 = 1 then (impl_charClass.j0 k a0 true) else (impl_charClass.j0 k a0 (a0 == 7954)))) = some r := h
 clear h
 have HC2 := am H
 clear H
 go_enter Tryd.func86, Tryd.ntmps86
 go_upto_region 1 with (fail)
 go_cut [3] (fun v3 wc => ∃ (kq : Nat) (x3_1 : Bool), v3 = .bool x3_1 ∧ Aside0 (impl_charClass.j0 kq a0 x3_1 = some r) ∧ Aside0 (kq ≤ k) ∧ Drawn0 w wc)
 case first =>
  have H := HC2.out
  clear HC2
  obtain ⟨t411, A3, H⟩ := bb H
  by_cases c4 : t411 = 1
  rotate_left
  ·rw [if_neg c4] at H
   have c4b0 : (t411 == 1) = false := beq_eq_false_iff_ne.mpr c4
   have c4b1 : (t411 != 1) = true := bne_iff_ne.mpr c4
   (first | rw [c4b0] | (simp only [i64_w, i32_w]; rw [c4b0]) | skip)
   have H' := am H
   clear H
   go_wp2_with (first | ((with_reducible refine gate_callee (f := 85) rfl ?_); refine gq 5 Tryd.func85 (impl_Category.calls k a0 t411 _ A3.out) fun nd => ?_))
   go_meet
   case rel => exact ⟨_, ((a0 == 7954)), sr, H', ⟨kl⟩, dz⟩
  rw [if_pos c4] at H
  have c4b0 : (t411 == 1) = true := beq_iff_eq.mpr c4
  have c4b1 : (t411 != 1) = false := bne_eq_false_iff_eq.mpr c4
  clear c4
  (first | rw [c4b0] | (simp only [i64_w, i32_w]; rw [c4b0]) | skip)
  have H' := am H
  clear H
  go_wp2_with (first | ((with_reducible refine gate_callee (f := 85) rfl ?_); refine gq 5 Tryd.func85 (impl_Category.calls k a0 t411 _ A3.out) fun nd => ?_))
  go_meet
  case rel => exact ⟨_, (true), sr, H', ⟨kl⟩, dz⟩
 case rest =>
  clear HC2
  obtain ⟨kq, x3_1, rfl, HA, HJ1, ⟨mc1, rfl⟩⟩ := hcut
  cases kq with
  | zero => exact absurd HA.out (by simp [impl_charClass.j0])
  | succ kj1 =>
   have H := HA.out
   clear HA
   simp only [impl_charClass.j0] at H
   by_cases c5 : x3_1 = true
   ·subst c5
    replace H := iT H
    obtain rfl := Option.some.inj H
    go_wp2
    go_ret
    exact rdd
   replace c5 := Bool.eq_false_iff.mpr c5
   subst c5
   replace H := iF H
   have HC6 := am H
   clear H
   go_upto_region 3 with (fail)
   go_cut [11] (fun v11 wc => ∃ (kq : Nat) (x11_5 : Bool), v11 = .bool x11_5 ∧ Aside0 (impl_charClass.j1 kq a0 x11_5 = some r) ∧ Aside0 (kq ≤ kj1) ∧ Drawn0 w wc)
   case first =>
    have H := HC6.out
    clear HC6
    obtain ⟨t412, A7, H⟩ := bb H
    by_cases c8 : t412 = true
    ·subst c8
     replace H := iT H
     have H' := am H
     clear H
     go_wp2_with (first | ((with_reducible refine gate_callee (f := 118) rfl ?_); refine gq 13 Tryd.func118 (impl_isMark.calls kj1 a0 true _ A7.out) fun nd => ?_))
     go_meet
     case rel => exact ⟨_, (true), sr, H', ⟨kl⟩, dz⟩
    replace c8 := Bool.eq_false_iff.mpr c8
    subst c8
    replace H := iF H
    by_cases c9 : a0 = 7936
    ·rw [if_pos c9] at H
     have c9b0 : (a0 == 7936) = true := beq_iff_eq.mpr c9
     have c9b1 : (a0 != 7936) = false := bne_eq_false_iff_eq.mpr c9
     clear c9
     (first | rw [c9b0] | (simp only [i64_w, i32_w]; rw [c9b0]) | skip)
     have H' := am H
     clear H
     go_wp2_with (first | ((with_reducible refine gate_callee (f := 118) rfl ?_); refine gq 13 Tryd.func118 (impl_isMark.calls kj1 a0 false _ A7.out) fun nd => ?_))
     go_meet
     case rel => exact ⟨_, (true), sr, H', ⟨kl⟩, dz⟩
    rw [if_neg c9] at H
    have c9b0 : (a0 == 7936) = false := beq_eq_false_iff_ne.mpr c9
    have c9b1 : (a0 != 7936) = true := bne_iff_ne.mpr c9
    (first | rw [c9b0] | (simp only [i64_w, i32_w]; rw [c9b0]) | skip)
    obtain ⟨t413, A10, H⟩ := bb H
    have H' := am H
    clear H
    go_wp2_with (first | ((with_reducible refine gate_callee (f := 118) rfl ?_); refine gq 13 Tryd.func118 (impl_isMark.calls kj1 a0 false _ A7.out) fun nd => ?_) | (go_at_call 99; (with_reducible refine (impl_in.calls a0 7744 7748 t413 _ A10.out).mono ?_); rintro e w' ⟨rfl, ⟨nd, rfl⟩⟩))
    go_meet
    case rel => exact ⟨_, (t413), sr, H', ⟨kl⟩, dz⟩
   case rest =>
    clear HC6
    try clear c5
    obtain ⟨kq, x11_5, rfl, HA, HJ5, ⟨mc5, rfl⟩⟩ := hcut
    cases kq with
    | zero => exact absurd HA.out (by simp [impl_charClass.j1])
    | succ kj5 =>
     have H := HA.out
     clear HA
     simp only [impl_charClass.j1] at H
     by_cases c11 : x11_5 = true
     ·subst c11
      replace H := iT H
      obtain rfl := Option.some.inj H
      go_wp2
      go_ret
      exact rdd
     replace c11 := Bool.eq_false_iff.mpr c11
     subst c11
     replace H := iF H
     obtain ⟨t414, A12, H⟩ := bb H
     by_cases c13 : t414 = true
     ·subst c13
      replace H := iT H
      obtain rfl := Option.some.inj H
      go_wp2_with (first | ((with_reducible refine gate_callee (f := 99) rfl ?_); refine gq 24 Tryd.func99 (impl_in.calls a0 1792 1810 true _ A12.out) fun nd => ?_))
      go_ret
      exact rdd
     replace c13 := Bool.eq_false_iff.mpr c13
     subst c13
     replace H := iF H
     obtain ⟨t415, A14, H⟩ := bb H
     by_cases c15 : t415 = true
     ·subst c15
      replace H := iT H
      obtain rfl := Option.some.inj H
      go_wp2_with (first | ((with_reducible refine gate_callee (f := 99) rfl ?_); refine gq 24 Tryd.func99 (impl_in.calls a0 1792 1810 false _ A12.out) fun nd => ?_) | ((with_reducible refine gate_callee (f := 99) rfl ?_); refine gq 27 Tryd.func99 (impl_in.calls a0 1824 1844 true _ A14.out) fun nd => ?_))
      go_ret
      exact rdd
     replace c15 := Bool.eq_false_iff.mpr c15
     subst c15
     replace H := iF H
     obtain ⟨t416, A16, H⟩ := bb H
     by_cases c17 : t416 = true
     ·subst c17
      replace H := iT H
      obtain rfl := Option.some.inj H
      go_wp2_with (first | ((with_reducible refine gate_callee (f := 99) rfl ?_); refine gq 24 Tryd.func99 (impl_in.calls a0 1792 1810 false _ A12.out) fun nd => ?_) | ((with_reducible refine gate_callee (f := 99) rfl ?_); refine gq 27 Tryd.func99 (impl_in.calls a0 1824 1844 false _ A14.out) fun nd => ?_) | ((with_reducible refine gate_callee (f := 99) rfl ?_); refine gq 30 Tryd.func99 (impl_in.calls a0 1857 1883 true _ A16.out) fun nd => ?_))
      go_ret
      exact rdd
     replace c17 := Bool.eq_false_iff.mpr c17
     subst c17
     replace H := iF H
     obtain ⟨t417, A18, H⟩ := bb H
     by_cases c19 : t417 = true
     ·subst c19
      replace H := iT H
      obtain rfl := Option.some.inj H
      go_wp2_with (first | ((with_reducible refine gate_callee (f := 99) rfl ?_); refine gq 24 Tryd.func99 (impl_in.calls a0 1792 1810 false _ A12.out) fun nd => ?_) | ((with_reducible refine gate_callee (f := 99) rfl ?_); refine gq 27 Tryd.func99 (impl_in.calls a0 1824 1844 false _ A14.out) fun nd => ?_) | ((with_reducible refine gate_callee (f := 99) rfl ?_); refine gq 30 Tryd.func99 (impl_in.calls a0 1857 1883 false _ A16.out) fun nd => ?_) | ((with_reducible refine gate_callee (f := 119) rfl ?_); refine gq 33 Tryd.func119 (impl_isOpen.calls a0 true _ A18.out) fun nd => ?_))
      go_ret
      exact rdd
     replace c19 := Bool.eq_false_iff.mpr c19
     subst c19
     replace H := iF H
     obtain ⟨t418, A20, H⟩ := bb H
     by_cases c21 : t418 = true
     ·subst c21
      replace H := iT H
      obtain rfl := Option.some.inj H
      go_wp2_with (first | ((with_reducible refine gate_callee (f := 99) rfl ?_); refine gq 24 Tryd.func99 (impl_in.calls a0 1792 1810 false _ A12.out) fun nd => ?_) | ((with_reducible refine gate_callee (f := 99) rfl ?_); refine gq 27 Tryd.func99 (impl_in.calls a0 1824 1844 false _ A14.out) fun nd => ?_) | ((with_reducible refine gate_callee (f := 99) rfl ?_); refine gq 30 Tryd.func99 (impl_in.calls a0 1857 1883 false _ A16.out) fun nd => ?_) | ((with_reducible refine gate_callee (f := 119) rfl ?_); refine gq 33 Tryd.func119 (impl_isOpen.calls a0 false _ A18.out) fun nd => ?_) | ((with_reducible refine gate_callee (f := 120) rfl ?_); refine gq 36 Tryd.func120 (impl_isSyllable.calls a0 true _ A20.out) fun nd => ?_))
      go_ret
      exact rdd
     replace c21 := Bool.eq_false_iff.mpr c21
     subst c21
     replace H := iF H
     obtain ⟨t419, A22, H⟩ := bb H
     by_cases c23 : t419 = true
     ·subst c23
      replace H := iT H
      obtain rfl := Option.some.inj H
      go_wp2_with (first | ((with_reducible refine gate_callee (f := 99) rfl ?_); refine gq 24 Tryd.func99 (impl_in.calls a0 1792 1810 false _ A12.out) fun nd => ?_) | ((with_reducible refine gate_callee (f := 99) rfl ?_); refine gq 27 Tryd.func99 (impl_in.calls a0 1824 1844 false _ A14.out) fun nd => ?_) | ((with_reducible refine gate_callee (f := 99) rfl ?_); refine gq 30 Tryd.func99 (impl_in.calls a0 1857 1883 false _ A16.out) fun nd => ?_) | ((with_reducible refine gate_callee (f := 119) rfl ?_); refine gq 33 Tryd.func119 (impl_isOpen.calls a0 false _ A18.out) fun nd => ?_) | ((with_reducible refine gate_callee (f := 120) rfl ?_); refine gq 36 Tryd.func120 (impl_isSyllable.calls a0 false _ A20.out) fun nd => ?_) | ((with_reducible refine gate_callee (f := 121) rfl ?_); refine gq 39 Tryd.func121 (impl_isPicture.calls a0 true _ A22.out) fun nd => ?_))
      go_ret
      exact rdd
     replace c23 := Bool.eq_false_iff.mpr c23
     subst c23
     replace H := iF H
     obtain ⟨t420, A24, H⟩ := bb H
     by_cases c25 : t420 = true
     ·subst c25
      replace H := iT H
      obtain rfl := Option.some.inj H
      go_wp2_with (first | ((with_reducible refine gate_callee (f := 99) rfl ?_); refine gq 24 Tryd.func99 (impl_in.calls a0 1792 1810 false _ A12.out) fun nd => ?_) | ((with_reducible refine gate_callee (f := 99) rfl ?_); refine gq 27 Tryd.func99 (impl_in.calls a0 1824 1844 false _ A14.out) fun nd => ?_) | ((with_reducible refine gate_callee (f := 99) rfl ?_); refine gq 30 Tryd.func99 (impl_in.calls a0 1857 1883 false _ A16.out) fun nd => ?_) | ((with_reducible refine gate_callee (f := 119) rfl ?_); refine gq 33 Tryd.func119 (impl_isOpen.calls a0 false _ A18.out) fun nd => ?_) | ((with_reducible refine gate_callee (f := 120) rfl ?_); refine gq 36 Tryd.func120 (impl_isSyllable.calls a0 false _ A20.out) fun nd => ?_) | ((with_reducible refine gate_callee (f := 121) rfl ?_); refine gq 39 Tryd.func121 (impl_isPicture.calls a0 false _ A22.out) fun nd => ?_) | ((with_reducible refine gate_callee (f := 99) rfl ?_); refine gq 42 Tryd.func99 (impl_in.calls a0 7760 7785 true _ A24.out) fun nd => ?_))
      go_ret
      exact rdd
     replace c25 := Bool.eq_false_iff.mpr c25
     subst c25
     replace H := iF H
     obtain rfl := Option.some.inj H
     go_wp2_with (first | ((with_reducible refine gate_callee (f := 99) rfl ?_); refine gq 24 Tryd.func99 (impl_in.calls a0 1792 1810 false _ A12.out) fun nd => ?_) | ((with_reducible refine gate_callee (f := 99) rfl ?_); refine gq 27 Tryd.func99 (impl_in.calls a0 1824 1844 false _ A14.out) fun nd => ?_) | ((with_reducible refine gate_callee (f := 99) rfl ?_); refine gq 30 Tryd.func99 (impl_in.calls a0 1857 1883 false _ A16.out) fun nd => ?_) | ((with_reducible refine gate_callee (f := 119) rfl ?_); refine gq 33 Tryd.func119 (impl_isOpen.calls a0 false _ A18.out) fun nd => ?_) | ((with_reducible refine gate_callee (f := 120) rfl ?_); refine gq 36 Tryd.func120 (impl_isSyllable.calls a0 false _ A20.out) fun nd => ?_) | ((with_reducible refine gate_callee (f := 121) rfl ?_); refine gq 39 Tryd.func121 (impl_isPicture.calls a0 false _ A22.out) fun nd => ?_) | ((with_reducible refine gate_callee (f := 99) rfl ?_); refine gq 42 Tryd.func99 (impl_in.calls a0 7760 7785 false _ A24.out) fun nd => ?_))
     go_ret
     exact rdd
end Go.Proofs.YtmlhnpggjkoinaaDoor.PFnExactWords

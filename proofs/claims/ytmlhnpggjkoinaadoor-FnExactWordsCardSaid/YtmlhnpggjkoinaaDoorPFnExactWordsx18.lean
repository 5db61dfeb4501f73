-- Written by a program of this session (wip/tools/myprint.py) that runs the kit's print with hooks of its own. Lean checks it.
import Derived.Test.YtmlhnpggjkoinaaDoorPFnExactWordsx0
import Derived.Test.YtmlhnpggjkoinaaDoorSlimMore
import Derived.Test.YtmlhnpggjkoinaaDoorPFnExactWordsx13
import Derived.Test.YtmlhnpggjkoinaaDoorPFnExactWordsx14
import Derived.Test.YtmlhnpggjkoinaaDoorPFnExactWordsx15
namespace Go.Proofs.YtmlhnpggjkoinaaDoor.PFnExactWords
open Go.RowKit Go.Proofs.YtmlhnpggjkoinaaDoorW.PrintWords Go.Proofs.YtmlhnpggjkoinaaDoorW.PrintLast Go.Proofs.YtmlhnpggjkoinaaDoorW.PrintMore
attribute [local go_sem] max2_int min2_int max_two min_two max_three min_three max_four min_four   -- for this text's walks alone
set_option linter.unusedVariables false
set_option linter.unusedSimpArgs false

/-! ### impl_isSpace: function 87 -/
def impl_isSpace.f (k : Nat) (a0 : Int) : Option (Bool) := (impl_Category.f k a0).bind fun t438 => (some (t438 == 2))
set_option maxHeartbeats 8000000 in
set_option maxRecDepth 100000 in
theorem impl_isSpace.calls (k : Nat) (a0 : Int) (r : Bool) (w : World) (h : impl_isSpace.f k a0 = some r) :
  Calls Tryd.prog 87 #[.int .i64 a0] w fun e w' => e = .returned (.bool r) ∧ Drawn0 w w' := by
 have H : ((impl_Category.f k a0).bind fun t438 => (some (t438 == 2))) = some r := h
 clear h
 obtain ⟨t438, A2, H⟩ := bb H
 obtain rfl := Option.some.inj H
 go_enter Tryd.func87, Tryd.ntmps87
 go_wp2_with (first | ((with_reducible refine gate_callee (f := 85) rfl ?_); refine gq 4 Tryd.func85 (impl_Category.calls k a0 t438 _ A2.out) fun nd => ?_))
 go_ret
 exact rdd
/-! ### impl_wordCuts_1: function 88 -/
def impl_wordCuts_1.f (a0 : Int) (l1 : List Int) (l2 : List Int) : Option (Int) := if a0 < 0 then (some (-1)) else (if a0 ≥ (l1.length : Int) then (some (-1)) else (if 0 ≤ a0 then (if a0 < (l1.length : Int) then (if 0 ≤ (rd l1 a0) then (if (rd l1 a0) < (l2.length : Int) then (some (rd l2 (rd l1 a0))) else (none)) else (none)) else (none)) else (none)))
set_option maxHeartbeats 8000000 in
set_option maxRecDepth 100000 in
theorem impl_wordCuts_1.calls (a0 : Int) (A1 : Option Addr) (c1 : Nat) (l1 : List Int) (A2 : Option Addr) (c2 : Nat) (l2 : List Int) (r : Int) (g1_ g2_ : Nat) (w : World) (hg1_ : w.cell? ⟨g1_, 0, none⟩ = some (.slice A1 l1.length c1)) (hg2_ : w.cell? ⟨g2_, 0, none⟩ = some (.slice A2 l2.length c2)) (hr1 : Kd.C (Kd.int .i64) w A1 l1.length l1) (hc1 : l1.length ≤ c1) (hr2 : Kd.C (Kd.int .i64) w A2 l2.length l2) (hc2 : l2.length ≤ c2) (h : impl_wordCuts_1.f a0 l1 l2 = some r) :
  Calls Tryd.prog 88 #[.int .i64 a0, .pointer (some ⟨g1_, 0, none⟩), .pointer (some ⟨g2_, 0, none⟩)] w fun e w' => e = .returned (.int .i64 r) ∧ Drawn0 w w' := by
 have HR1 := am hr1
 have HC1 := am hc1
 clear hr1 hc1
 have HR2 := am hr2
 have HC2 := am hc2
 clear hr2 hc2
 have H : (if a0 < 0 then (some (-1)) else (if a0 ≥ (l1.length : Int) then (some (-1)) else (if 0 ≤ a0 then (if a0 < (l1.length : Int) then (if 0 ≤ (rd l1 a0) then (if (rd l1 a0) < (l2.length : Int) then (some (rd l2 (rd l1 a0))) else (none)) else (none)) else (none)) else (none)))) = some r := h
 clear h
 by_cases c4 : a0 < 0
 ·rw [if_pos c4] at H
  have c4b0 := decide_eq_true c4
  clear c4
  obtain rfl := Option.some.inj H
  go_enter Tryd.func88, Tryd.ntmps88
  go_wp2
  repeat (go_quiet (fail); try go_wp2)
  go_ret
  exact rdd
 rw [if_neg c4] at H
 have c4b0 := decide_eq_false c4
 clear c4
 by_cases c5 : a0 ≥ (l1.length : Int)
 ·rw [if_pos c5] at H
  have c5b0 : decide ((l1.length : Int) ≤ a0) = true := decide_eq_true c5
  clear c5
  obtain rfl := Option.some.inj H
  go_enter Tryd.func88, Tryd.ntmps88
  go_wp2
  repeat (go_quiet (fail); try go_wp2)
  go_ret
  exact rdd
 rw [if_neg c5] at H
 have c5b0 : decide ((l1.length : Int) ≤ a0) = false := decide_eq_false c5
 clear c5
 replace H := iteN H
 obtain ⟨c6, H⟩ := H
 have c6b0 := decide_eq_true c6
 clear c6
 replace H := iteN H
 obtain ⟨c7, H⟩ := H
 have c7b0 := decide_eq_true c7
 clear c7
 replace H := iteN H
 obtain ⟨c8, H⟩ := H
 have c8b0 := decide_eq_true c8
 clear c8
 replace H := iteN H
 obtain ⟨c9, H⟩ := H
 have c9b0 := decide_eq_true c9
 clear c9
 obtain rfl := Option.some.inj H
 have p439 : 0 ≤ (a0 : Int) := od
 have q439 : a0 < (l1.length : Int) := od
 obtain ⟨ad439, e439, hx439_0⟩ := Kd.at_int HR1.out a0 p439 q439
 cases e439
 replace p439 := eq_true p439; replace q439 := eq_true q439
 have p440 : 0 ≤ ((rd l1 a0) : Int) := od
 have q440 : (rd l1 a0) < (l2.length : Int) := od
 obtain ⟨ad440, e440, hx440_0⟩ := Kd.at_int HR2.out (rd l1 a0) p440 q440
 cases e440
 replace p440 := eq_true p440; replace q440 := eq_true q440
 go_enter Tryd.func88, Tryd.ntmps88
 go_wp2
 repeat (go_quiet (fail); try go_wp2)
 go_ret
 exact rdd
/-! ### impl_wordCuts_2: function 89 -/
def impl_wordCuts_2.f (a0 : Int) : Option (Bool) := if a0 = 39 then (some true) else (if a0 = 46 then (some true) else (some (a0 == 58)))
set_option maxHeartbeats 8000000 in
set_option maxRecDepth 100000 in
theorem impl_wordCuts_2.calls (a0 : Int) (r : Bool) (w : World) (h : impl_wordCuts_2.f a0 = some r) :
  Calls Tryd.prog 89 #[.int .i64 a0] w fun e w' => e = .returned (.bool r) ∧ Drawn0 w w' := by
 have H : (if a0 = 39 then (some true) else (if a0 = 46 then (some true) else (some (a0 == 58)))) = some r := h
 clear h
 by_cases c2 : a0 = 39
 ·rw [if_pos c2] at H
  have c2b0 : (a0 == 39) = true := beq_iff_eq.mpr c2
  have c2b1 : (a0 != 39) = false := bne_eq_false_iff_eq.mpr c2
  clear c2
  obtain rfl := Option.some.inj H
  go_enter Tryd.func89, Tryd.ntmps89
  go_wp2
  go_ret
  exact rdd
 rw [if_neg c2] at H
 have c2b0 : (a0 == 39) = false := beq_eq_false_iff_ne.mpr c2
 have c2b1 : (a0 != 39) = true := bne_iff_ne.mpr c2
 by_cases c3 : a0 = 46
 rotate_left
 ·rw [if_neg c3] at H
  have c3b0 : (a0 == 46) = false := beq_eq_false_iff_ne.mpr c3
  have c3b1 : (a0 != 46) = true := bne_iff_ne.mpr c3
  obtain rfl := Option.some.inj H
  go_enter Tryd.func89, Tryd.ntmps89
  go_wp2
  go_ret
  exact rdd
 rw [if_pos c3] at H
 have c3b0 : (a0 == 46) = true := beq_iff_eq.mpr c3
 have c3b1 : (a0 != 46) = false := bne_eq_false_iff_eq.mpr c3
 clear c3
 obtain rfl := Option.some.inj H
 go_enter Tryd.func89, Tryd.ntmps89
 go_wp2
 go_ret
 exact rdd
/-! ### impl_wordCuts_3: function 90 -/
def impl_wordCuts_3.f (a0 : Int) : Option (Bool) := if a0 = 46 then (some true) else (some (a0 == 44))
set_option maxHeartbeats 8000000 in
set_option maxRecDepth 100000 in
theorem impl_wordCuts_3.calls (a0 : Int) (r : Bool) (w : World) (h : impl_wordCuts_3.f a0 = some r) :
  Calls Tryd.prog 90 #[.int .i64 a0] w fun e w' => e = .returned (.bool r) ∧ Drawn0 w w' := by
 have H : (if a0 = 46 then (some true) else (some (a0 == 44))) = some r := h
 clear h
 by_cases c2 : a0 = 46
 rotate_left
 ·rw [if_neg c2] at H
  have c2b0 : (a0 == 46) = false := beq_eq_false_iff_ne.mpr c2
  have c2b1 : (a0 != 46) = true := bne_iff_ne.mpr c2
  obtain rfl := Option.some.inj H
  go_enter Tryd.func90, Tryd.ntmps90
  go_wp2
  go_ret
  exact rdd
 rw [if_pos c2] at H
 have c2b0 : (a0 == 46) = true := beq_iff_eq.mpr c2
 have c2b1 : (a0 != 46) = false := bne_eq_false_iff_eq.mpr c2
 clear c2
 obtain rfl := Option.some.inj H
 go_enter Tryd.func90, Tryd.ntmps90
 go_wp2
 go_ret
 exact rdd
/-! ### impl_Script: function 69 -/
def impl_Script.f (k : Nat) (a0 : Int) : Option (Int) := (impl_kind.f k a0).bind fun bt441 => (some bt441.2)
set_option maxHeartbeats 8000000 in
set_option maxRecDepth 100000 in
theorem impl_Script.calls (k : Nat) (a0 : Int) (r : Int) (w : World) (h : impl_Script.f k a0 = some r) :
  Calls Tryd.prog 69 #[.int .i64 a0] w fun e w' => e = .returned (.int .i64 r) ∧ Drawn0 w w' := by
 have H : ((impl_kind.f k a0).bind fun bt441 => (some bt441.2)) = some r := h
 clear h
 replace H := Option.bind_eq_some_iff.mp H
 obtain ⟨⟨t441, t442⟩, A20, H⟩ := H
 replace H : (some t442) = some r := H
 have A2 := am A20
 clear A20
 obtain rfl := Option.some.inj H
 go_enter Tryd.func69, Tryd.ntmps69
 go_wp2_with (first | ((with_reducible refine gate_callee (f := 97) rfl ?_); refine gq 7 Tryd.func97 (impl_kind.calls k a0 t441 t442 _ A2.out) fun nd => ?_))
 go_ret
 exact rdd
/-! ### impl_isLetter: function 96 -/
def impl_isLetter.f (k : Nat) (a0 : Int) : Option (Bool) := (impl_Category.f k a0).bind fun t443 => ((impl_in.f t443 4 7).bind fun t444 => (some t444))
set_option maxHeartbeats 8000000 in
set_option maxRecDepth 100000 in
theorem impl_isLetter.calls (k : Nat) (a0 : Int) (r : Bool) (w : World) (h : impl_isLetter.f k a0 = some r) :
  Calls Tryd.prog 96 #[.int .i64 a0] w fun e w' => e = .returned (.bool r) ∧ Drawn0 w w' := by
 have H : ((impl_Category.f k a0).bind fun t443 => ((impl_in.f t443 4 7).bind fun t444 => (some t444))) = some r := h
 clear h
 obtain ⟨t443, A2, H⟩ := bb H
 obtain ⟨t444, A3, H⟩ := bb H
 obtain rfl := Option.some.inj H
 go_enter Tryd.func96, Tryd.ntmps96
 go_wp2_with (first | ((with_reducible refine gate_callee (f := 85) rfl ?_); refine gq 4 Tryd.func85 (impl_Category.calls k a0 t443 _ A2.out) fun nd => ?_) | ((with_reducible refine gate_callee (f := 99) rfl ?_); refine gq 5 Tryd.func99 (impl_in.calls t443 4 7 t444 _ A3.out) fun nd => ?_))
 go_ret
 exact rdd
/-! ### impl_wordLetter: function 66 -/
def impl_wordLetter.f (k : Nat) (a0 : Int) : Option (Bool) := (impl_Script.f k a0).bind fun t445 => ((impl_isLetter.f k a0).bind fun t446 => (if t446 = true then (if t445 = 8 then (some false) else (some (t445 != 9))) else (some false)))
set_option maxHeartbeats 8000000 in
set_option maxRecDepth 100000 in
theorem impl_wordLetter.calls (k : Nat) (a0 : Int) (r : Bool) (w : World) (h : impl_wordLetter.f k a0 = some r) :
  Calls Tryd.prog 66 #[.int .i64 a0] w fun e w' => e = .returned (.bool r) ∧ Drawn0 w w' := by
 have H : ((impl_Script.f k a0).bind fun t445 => ((impl_isLetter.f k a0).bind fun t446 => (if t446 = true then (if t445 = 8 then (some false) else (some (t445 != 9))) else (some false)))) = some r := h
 clear h
 obtain ⟨t445, A2, H⟩ := bb H
 obtain ⟨t446, A3, H⟩ := bb H
 by_cases c4 : t446 = true
 rotate_left
 ·replace c4 := Bool.eq_false_iff.mpr c4
  subst c4
  replace H := iF H
  obtain rfl := Option.some.inj H
  go_enter Tryd.func66, Tryd.ntmps66
  go_wp2_with (first | ((with_reducible refine gate_callee (f := 69) rfl ?_); refine gq 5 Tryd.func69 (impl_Script.calls k a0 t445 _ A2.out) fun nd => ?_) | ((with_reducible refine gate_callee (f := 96) rfl ?_); refine gq 7 Tryd.func96 (impl_isLetter.calls k a0 false _ A3.out) fun nd => ?_))
  go_ret
  exact rdd
 subst c4
 replace H := iT H
 by_cases c5 : t445 = 8
 rotate_left
 ·rw [if_neg c5] at H
  have c5b0 : (t445 == 8) = false := beq_eq_false_iff_ne.mpr c5
  have c5b1 : (t445 != 8) = true := bne_iff_ne.mpr c5
  obtain rfl := Option.some.inj H
  go_enter Tryd.func66, Tryd.ntmps66
  go_wp2_with (first | ((with_reducible refine gate_callee (f := 69) rfl ?_); refine gq 5 Tryd.func69 (impl_Script.calls k a0 t445 _ A2.out) fun nd => ?_) | ((with_reducible refine gate_callee (f := 96) rfl ?_); refine gq 7 Tryd.func96 (impl_isLetter.calls k a0 true _ A3.out) fun nd => ?_))
  go_ret
  exact rdd
 rw [if_pos c5] at H
 have c5b0 : (t445 == 8) = true := beq_iff_eq.mpr c5
 have c5b1 : (t445 != 8) = false := bne_eq_false_iff_eq.mpr c5
 clear c5
 obtain rfl := Option.some.inj H
 go_enter Tryd.func66, Tryd.ntmps66
 go_wp2_with (first | ((with_reducible refine gate_callee (f := 69) rfl ?_); refine gq 5 Tryd.func69 (impl_Script.calls k a0 t445 _ A2.out) fun nd => ?_) | ((with_reducible refine gate_callee (f := 96) rfl ?_); refine gq 7 Tryd.func96 (impl_isLetter.calls k a0 true _ A3.out) fun nd => ?_))
 go_ret
 exact rdd
/-! ### impl_isDigit: function 68 -/
def impl_isDigit.f (k : Nat) (a0 : Int) : Option (Bool) := (impl_Category.f k a0).bind fun t447 => (some (t447 == 8))
set_option maxHeartbeats 8000000 in
set_option maxRecDepth 100000 in
theorem impl_isDigit.calls (k : Nat) (a0 : Int) (r : Bool) (w : World) (h : impl_isDigit.f k a0 = some r) :
  Calls Tryd.prog 68 #[.int .i64 a0] w fun e w' => e = .returned (.bool r) ∧ Drawn0 w w' := by
 have H : ((impl_Category.f k a0).bind fun t447 => (some (t447 == 8))) = some r := h
 clear h
 obtain ⟨t447, A2, H⟩ := bb H
 obtain rfl := Option.some.inj H
 go_enter Tryd.func68, Tryd.ntmps68
 go_wp2_with (first | ((with_reducible refine gate_callee (f := 85) rfl ?_); refine gq 4 Tryd.func85 (impl_Category.calls k a0 t447 _ A2.out) fun nd => ?_))
 go_ret
 exact rdd
/-! ### impl_wordCuts_4: function 91 -/
def impl_wordCuts_4.f (k : Nat) (a0 : Int) : Option (Bool) := (impl_wordLetter.f k a0).bind fun t448 => (if t448 = true then (some true) else ((impl_isDigit.f k a0).bind fun t449 => (some t449)))
set_option maxHeartbeats 8000000 in
set_option maxRecDepth 100000 in
theorem impl_wordCuts_4.calls (k : Nat) (a0 : Int) (r : Bool) (w : World) (h : impl_wordCuts_4.f k a0 = some r) :
  Calls Tryd.prog 91 #[.int .i64 a0] w fun e w' => e = .returned (.bool r) ∧ Drawn0 w w' := by
 have H : ((impl_wordLetter.f k a0).bind fun t448 => (if t448 = true then (some true) else ((impl_isDigit.f k a0).bind fun t449 => (some t449)))) = some r := h
 clear h
 obtain ⟨t448, A2, H⟩ := bb H
 by_cases c3 : t448 = true
 ·subst c3
  replace H := iT H
  obtain rfl := Option.some.inj H
  go_enter Tryd.func91, Tryd.ntmps91
  go_wp2_with (first | ((with_reducible refine gate_callee (f := 66) rfl ?_); refine gq 4 Tryd.func66 (impl_wordLetter.calls k a0 true _ A2.out) fun nd => ?_))
  go_ret
  exact rdd
 replace c3 := Bool.eq_false_iff.mpr c3
 subst c3
 replace H := iF H
 obtain ⟨t449, A4, H⟩ := bb H
 obtain rfl := Option.some.inj H
 go_enter Tryd.func91, Tryd.ntmps91
 go_wp2_with (first | ((with_reducible refine gate_callee (f := 66) rfl ?_); refine gq 4 Tryd.func66 (impl_wordLetter.calls k a0 false _ A2.out) fun nd => ?_) | (go_at_call 68; (with_reducible refine (impl_isDigit.calls k a0 t449 _ A4.out).mono ?_); rintro e w' ⟨rfl, ⟨nd, rfl⟩⟩))
 go_ret
 exact rdd
/-! ### impl_wordPart: function 67 -/
def impl_wordPart.f (k : Nat) (a0 : Int) : Option (Bool) := (impl_Script.f k a0).bind fun t450 => (some (t450 == 8))
set_option maxHeartbeats 8000000 in
set_option maxRecDepth 100000 in
theorem impl_wordPart.calls (k : Nat) (a0 : Int) (r : Bool) (w : World) (h : impl_wordPart.f k a0 = some r) :
  Calls Tryd.prog 67 #[.int .i64 a0] w fun e w' => e = .returned (.bool r) ∧ Drawn0 w w' := by
 have H : ((impl_Script.f k a0).bind fun t450 => (some (t450 == 8))) = some r := h
 clear h
 obtain ⟨t450, A2, H⟩ := bb H
 obtain rfl := Option.some.inj H
 go_enter Tryd.func67, Tryd.ntmps67
 go_wp2_with (first | ((with_reducible refine gate_callee (f := 69) rfl ?_); refine gq 4 Tryd.func69 (impl_Script.calls k a0 t450 _ A2.out) fun nd => ?_))
 go_ret
 exact rdd
end Go.Proofs.YtmlhnpggjkoinaaDoor.PFnExactWords

-- Written by a program of this session (wip/tools/myprint.py) that runs the kit's print with hooks of its own. Lean checks it.
import Derived.Test.YtmlhnpggjkoinaaDoorPFnExactWordCutsx0
import Derived.Test.YtmlhnpggjkoinaaDoorSlimMore
import Derived.Test.YtmlhnpggjkoinaaDoorPFnExactWordCutsx11
import Derived.Test.YtmlhnpggjkoinaaDoorPFnExactWordCutsx12
import Derived.Test.YtmlhnpggjkoinaaDoorPFnExactWordCutsx13
namespace Go.Proofs.YtmlhnpggjkoinaaDoor.PFnExactWordCuts
open Go.RowKit Go.Proofs.YtmlhnpggjkoinaaDoorW.PrintWords Go.Proofs.YtmlhnpggjkoinaaDoorW.PrintLast Go.Proofs.YtmlhnpggjkoinaaDoorW.PrintMore
attribute [local go_sem] max2_int min2_int max_two min_two max_three min_three max_four min_four   -- for this text's walks alone
set_option linter.unusedVariables false
set_option linter.unusedSimpArgs false

/-! ### impl_wordCuts_1: function 88 -/
def impl_wordCuts_1.f (a0 : Int) (l1 : List Int) (l2 : List Int) : Option (Int) := if a0 < 0 then (some (-1)) else (if a0 ≥ (l1.length : Int) then (some (-1)) else (if 0 ≤ a0 then (if a0 < (l1.length : Int) then (if 0 ≤ (rd l1 a0) then (if (rd l1 a0) < (l2.length : Int) then (some (rd l2 (rd l1 a0))) else (none)) else (none)) else (none)) else (none)))
set_option maxHeartbeats 8000000 in
set_option maxRecDepth 100000 in
theorem impl_wordCuts_1.calls (a0 : Int) (A1 : Option Addr) (c1 : Nat) (l1 : List Int) (A2 : Option Addr) (c2 : Nat) (l2 : List Int) (r : Int) (g1_ g2_ : Nat) (w : World) (hg1_ : w.cell? ⟨g1_, 0, none⟩ = some (.slice A1 l1.length c1)) (hg2_ : w.cell? ⟨g2_, 0, none⟩ = some (.slice A2 l2.length c2)) (hr1 : Kd.C (Kd.int .i64) w A1 l1.length l1) (hc1 : l1.length ≤ c1) (hr2 : Kd.C (Kd.int .i64) w A2 l2.length l2) (hc2 : l2.length ≤ c2) (h : impl_wordCuts_1.f a0 l1 l2 = some r) :
  Calls Tryd.prog 88 #[.int .i64 a0, .pointer (some ⟨g1_, 0, none⟩), .pointer (some ⟨g2_, 0, none⟩)] w fun e w' => e = .returned (.int .i64 r) ∧ Drawn0 w w' := by
 have HR1 := am hr1
 have HC1 := am hc1
 clear hr1 hc1
 have HR2 := am hr2
 have HC2 := am hc2
 clear hr2 hc2
 have H : (if a0 < 0 then (some (-1)) else (if a0 ≥ (l1.length : Int) then (some (-1)) else (if 0 ≤ a0 then (if a0 < (l1.length : Int) then (if 0 ≤ (rd l1 a0) then (if (rd l1 a0) < (l2.length : Int) then (some (rd l2 (rd l1 a0))) else (none)) else (none)) else (none)) else (none)))) = some r := h
 clear h
 by_cases c4 : a0 < 0
 ·rw [if_pos c4] at H
  have c4b0 : decide (a0 < 0) = true := decide_eq_true c4
  clear c4
  obtain rfl := Option.some.inj H
  go_enter Tryd.func88, Tryd.ntmps88
  go_wp2
  repeat (go_quiet (fail); try go_wp2)
  go_ret
  exact rdd
 rw [if_neg c4] at H
 have c4b0 : decide (a0 < 0) = false := decide_eq_false c4
 clear c4
 by_cases c5 : a0 ≥ (l1.length : Int)
 ·rw [if_pos c5] at H
  have c5b0 : decide ((l1.length : Int) ≤ a0) = true := decide_eq_true c5
  clear c5
  obtain rfl := Option.some.inj H
  go_enter Tryd.func88, Tryd.ntmps88
  go_wp2
  repeat (go_quiet (fail); try go_wp2)
  go_ret
  exact rdd
 rw [if_neg c5] at H
 have c5b0 : decide ((l1.length : Int) ≤ a0) = false := decide_eq_false c5
 clear c5
 replace H := iteN H
 obtain ⟨c6, H⟩ := H
 have c6b0 : decide (0 ≤ a0) = true := decide_eq_true c6
 clear c6
 replace H := iteN H
 obtain ⟨c7, H⟩ := H
 have c7b0 : decide (a0 < (l1.length : Int)) = true := decide_eq_true c7
 clear c7
 replace H := iteN H
 obtain ⟨c8, H⟩ := H
 have c8b0 : decide (0 ≤ (rd l1 a0)) = true := decide_eq_true c8
 clear c8
 replace H := iteN H
 obtain ⟨c9, H⟩ := H
 have c9b0 : decide ((rd l1 a0) < (l2.length : Int)) = true := decide_eq_true c9
 clear c9
 obtain rfl := Option.some.inj H
 have p388 : 0 ≤ (a0 : Int) := od
 have q388 : a0 < (l1.length : Int) := od
 obtain ⟨ad388, e388, hx388_0⟩ := Kd.at_int HR1.out a0 p388 q388
 cases e388
 replace p388 := eq_true p388
 replace q388 := eq_true q388
 have p389 : 0 ≤ ((rd l1 a0) : Int) := od
 have q389 : (rd l1 a0) < (l2.length : Int) := od
 obtain ⟨ad389, e389, hx389_0⟩ := Kd.at_int HR2.out (rd l1 a0) p389 q389
 cases e389
 replace p389 := eq_true p389
 replace q389 := eq_true q389
 go_enter Tryd.func88, Tryd.ntmps88
 go_wp2
 repeat (go_quiet (fail); try go_wp2)
 go_ret
 exact rdd
/-! ### impl_wordCuts_2: function 89 -/
def impl_wordCuts_2.f (a0 : Int) : Option (Bool) := if a0 = 39 then (some true) else (if a0 = 46 then (some true) else (some (a0 == 58)))
set_option maxHeartbeats 8000000 in
set_option maxRecDepth 100000 in
theorem impl_wordCuts_2.calls (a0 : Int) (r : Bool) (w : World) (h : impl_wordCuts_2.f a0 = some r) :
  Calls Tryd.prog 89 #[.int .i64 a0] w fun e w' => e = .returned (.bool r) ∧ Drawn0 w w' := by
 have H : (if a0 = 39 then (some true) else (if a0 = 46 then (some true) else (some (a0 == 58)))) = some r := h
 clear h
 by_cases c2 : a0 = 39
 ·rw [if_pos c2] at H
  have c2b0 : (a0 == 39) = true := beq_iff_eq.mpr c2
  have c2b1 : (a0 != 39) = false := bne_eq_false_iff_eq.mpr c2
  clear c2
  obtain rfl := Option.some.inj H
  go_enter Tryd.func89, Tryd.ntmps89
  go_wp2
  go_ret
  exact rdd
 rw [if_neg c2] at H
 have c2b0 : (a0 == 39) = false := beq_eq_false_iff_ne.mpr c2
 have c2b1 : (a0 != 39) = true := bne_iff_ne.mpr c2
 by_cases c3 : a0 = 46
 rotate_left
 ·rw [if_neg c3] at H
  have c3b0 : (a0 == 46) = false := beq_eq_false_iff_ne.mpr c3
  have c3b1 : (a0 != 46) = true := bne_iff_ne.mpr c3
  obtain rfl := Option.some.inj H
  go_enter Tryd.func89, Tryd.ntmps89
  go_wp2
  go_ret
  exact rdd
 rw [if_pos c3] at H
 have c3b0 : (a0 == 46) = true := beq_iff_eq.mpr c3
 have c3b1 : (a0 != 46) = false := bne_eq_false_iff_eq.mpr c3
 clear c3
 obtain rfl := Option.some.inj H
 go_enter Tryd.func89, Tryd.ntmps89
 go_wp2
 go_ret
 exact rdd
/-! ### impl_wordCuts_3: function 90 -/
def impl_wordCuts_3.f (a0 : Int) : Option (Bool) := if a0 = 46 then (some true) else (some (a0 == 44))
set_option maxHeartbeats 8000000 in
set_option maxRecDepth 100000 in
theorem impl_wordCuts_3.calls (a0 : Int) (r : Bool) (w : World) (h : impl_wordCuts_3.f a0 = some r) :
  Calls Tryd.prog 90 #[.int .i64 a0] w fun e w' => e = .returned (.bool r) ∧ Drawn0 w w' := by
 have H : (if a0 = 46 then (some true) else (some (a0 == 44))) = some r := h
 clear h
 by_cases c2 : a0 = 46
 rotate_left
 ·rw [if_neg c2] at H
  have c2b0 : (a0 == 46) = false := beq_eq_false_iff_ne.mpr c2
  have c2b1 : (a0 != 46) = true := bne_iff_ne.mpr c2
  obtain rfl := Option.some.inj H
  go_enter Tryd.func90, Tryd.ntmps90
  go_wp2
  go_ret
  exact rdd
 rw [if_pos c2] at H
 have c2b0 : (a0 == 46) = true := beq_iff_eq.mpr c2
 have c2b1 : (a0 != 46) = false := bne_eq_false_iff_eq.mpr c2
 clear c2
 obtain rfl := Option.some.inj H
 go_enter Tryd.func90, Tryd.ntmps90
 go_wp2
 go_ret
 exact rdd
/-! ### impl_Script: function 69 -/
def impl_Script.f (k : Nat) (a0 : Int) : Option (Int) := (impl_kind.f k a0).bind fun bt390 => (some bt390.2)
theorem impl_Script.mono : ∀ a0 k, LeO (impl_Script.f k a0) (impl_Script.f (k + 1) a0) := by
 intro a0 k
 unfold impl_Script.f
 repeat' (first | (with_reducible first | exact impl_kind.mono .. | exact LeO.refl _ | exact LeO.none _ | refine LeO.ite ?_ ?_ | refine LeO.bind ?_ (fun _ => ?_)) | exact impl_kind.mono .. | exact LeO.none _ | refine LeO.ite ?_ ?_ | refine LeO.bind ?_ (fun _ => ?_))
set_option maxHeartbeats 8000000 in
set_option maxRecDepth 100000 in
theorem impl_Script.calls (k : Nat) (a0 : Int) (r : Int) (w : World) (h : impl_Script.f k a0 = some r) :
  Calls Tryd.prog 69 #[.int .i64 a0] w fun e w' => e = .returned (.int .i64 r) ∧ Drawn0 w w' := by
 have H : ((impl_kind.f k a0).bind fun bt390 => (some bt390.2)) = some r := h
 clear h
 replace H := Option.bind_eq_some_iff.mp H
 obtain ⟨⟨t390, t391⟩, A20, H⟩ := H
 replace H : (some t391) = some r := H
 have A2 := am A20
 clear A20
 obtain rfl := Option.some.inj H
 go_enter Tryd.func69, Tryd.ntmps69
 go_wp2_with (first | ((with_reducible refine gate_callee (f := 97) rfl ?_); refine gq 7 Tryd.func97 (impl_kind.calls k a0 t390 t391 _ A2.out) fun nd => ?_))
 go_ret
 exact rdd
/-! ### impl_isLetter: function 96 -/
def impl_isLetter.f (k : Nat) (a0 : Int) : Option (Bool) := (impl_Category.f k a0).bind fun t392 => ((impl_in.f t392 4 7).bind fun t393 => (some t393))
theorem impl_isLetter.mono : ∀ a0 k, LeO (impl_isLetter.f k a0) (impl_isLetter.f (k + 1) a0) := by
 intro a0 k
 unfold impl_isLetter.f
 repeat' (first | (with_reducible first | exact impl_Category.mono .. | exact LeO.refl _ | exact LeO.none _ | refine LeO.ite ?_ ?_ | refine LeO.bind ?_ (fun _ => ?_)) | exact impl_Category.mono .. | exact LeO.none _ | refine LeO.ite ?_ ?_ | refine LeO.bind ?_ (fun _ => ?_))
set_option maxHeartbeats 8000000 in
set_option maxRecDepth 100000 in
theorem impl_isLetter.calls (k : Nat) (a0 : Int) (r : Bool) (w : World) (h : impl_isLetter.f k a0 = some r) :
  Calls Tryd.prog 96 #[.int .i64 a0] w fun e w' => e = .returned (.bool r) ∧ Drawn0 w w' := by
 have H : ((impl_Category.f k a0).bind fun t392 => ((impl_in.f t392 4 7).bind fun t393 => (some t393))) = some r := h
 clear h
 obtain ⟨t392, A2, H⟩ := bb H
 obtain ⟨t393, A3, H⟩ := bb H
 obtain rfl := Option.some.inj H
 go_enter Tryd.func96, Tryd.ntmps96
 go_wp2_with (first | ((with_reducible refine gate_callee (f := 85) rfl ?_); refine gq 4 Tryd.func85 (impl_Category.calls k a0 t392 _ A2.out) fun nd => ?_) | ((with_reducible refine gate_callee (f := 99) rfl ?_); refine gq 5 Tryd.func99 (impl_in.calls t392 4 7 t393 _ A3.out) fun nd => ?_))
 go_ret
 exact rdd
/-! ### impl_wordLetter: function 66 -/
def impl_wordLetter.f (k : Nat) (a0 : Int) : Option (Bool) := (impl_Script.f k a0).bind fun t394 => ((impl_isLetter.f k a0).bind fun t395 => (if t395 = true then (if t394 = 8 then (some false) else (some (t394 != 9))) else (some false)))
theorem impl_wordLetter.mono : ∀ a0 k, LeO (impl_wordLetter.f k a0) (impl_wordLetter.f (k + 1) a0) := by
 intro a0 k
 unfold impl_wordLetter.f
 repeat' (first | (with_reducible first | exact impl_Script.mono .. | exact impl_isLetter.mono .. | exact LeO.refl _ | exact LeO.none _ | refine LeO.ite ?_ ?_ | refine LeO.bind ?_ (fun _ => ?_)) | exact impl_Script.mono .. | exact impl_isLetter.mono .. | exact LeO.none _ | refine LeO.ite ?_ ?_ | refine LeO.bind ?_ (fun _ => ?_))
set_option maxHeartbeats 8000000 in
set_option maxRecDepth 100000 in
theorem impl_wordLetter.calls (k : Nat) (a0 : Int) (r : Bool) (w : World) (h : impl_wordLetter.f k a0 = some r) :
  Calls Tryd.prog 66 #[.int .i64 a0] w fun e w' => e = .returned (.bool r) ∧ Drawn0 w w' := by
 have H : ((impl_Script.f k a0).bind fun t394 => ((impl_isLetter.f k a0).bind fun t395 => (if t395 = true then (if t394 = 8 then (some false) else (some (t394 != 9))) else (some false)))) = some r := h
 clear h
 obtain ⟨t394, A2, H⟩ := bb H
 obtain ⟨t395, A3, H⟩ := bb H
 by_cases c4 : t395 = true
 rotate_left
 ·replace c4 := Bool.eq_false_iff.mpr c4
  subst c4
  replace H := iF H
  obtain rfl := Option.some.inj H
  go_enter Tryd.func66, Tryd.ntmps66
  go_wp2_with (first | ((with_reducible refine gate_callee (f := 69) rfl ?_); refine gq 5 Tryd.func69 (impl_Script.calls k a0 t394 _ A2.out) fun nd => ?_) | ((with_reducible refine gate_callee (f := 96) rfl ?_); refine gq 7 Tryd.func96 (impl_isLetter.calls k a0 false _ A3.out) fun nd => ?_))
  go_ret
  exact rdd
 subst c4
 replace H := iT H
 by_cases c5 : t394 = 8
 rotate_left
 ·rw [if_neg c5] at H
  have c5b0 : (t394 == 8) = false := beq_eq_false_iff_ne.mpr c5
  have c5b1 : (t394 != 8) = true := bne_iff_ne.mpr c5
  obtain rfl := Option.some.inj H
  go_enter Tryd.func66, Tryd.ntmps66
  go_wp2_with (first | ((with_reducible refine gate_callee (f := 69) rfl ?_); refine gq 5 Tryd.func69 (impl_Script.calls k a0 t394 _ A2.out) fun nd => ?_) | ((with_reducible refine gate_callee (f := 96) rfl ?_); refine gq 7 Tryd.func96 (impl_isLetter.calls k a0 true _ A3.out) fun nd => ?_))
  go_ret
  exact rdd
 rw [if_pos c5] at H
 have c5b0 : (t394 == 8) = true := beq_iff_eq.mpr c5
 have c5b1 : (t394 != 8) = false := bne_eq_false_iff_eq.mpr c5
 clear c5
 obtain rfl := Option.some.inj H
 go_enter Tryd.func66, Tryd.ntmps66
 go_wp2_with (first | ((with_reducible refine gate_callee (f := 69) rfl ?_); refine gq 5 Tryd.func69 (impl_Script.calls k a0 t394 _ A2.out) fun nd => ?_) | ((with_reducible refine gate_callee (f := 96) rfl ?_); refine gq 7 Tryd.func96 (impl_isLetter.calls k a0 true _ A3.out) fun nd => ?_))
 go_ret
 exact rdd
/-! ### impl_isDigit: function 68 -/
def impl_isDigit.f (k : Nat) (a0 : Int) : Option (Bool) := (impl_Category.f k a0).bind fun t396 => (some (t396 == 8))
theorem impl_isDigit.mono : ∀ a0 k, LeO (impl_isDigit.f k a0) (impl_isDigit.f (k + 1) a0) := by
 intro a0 k
 unfold impl_isDigit.f
 repeat' (first | (with_reducible first | exact impl_Category.mono .. | exact LeO.refl _ | exact LeO.none _ | refine LeO.ite ?_ ?_ | refine LeO.bind ?_ (fun _ => ?_)) | exact impl_Category.mono .. | exact LeO.none _ | refine LeO.ite ?_ ?_ | refine LeO.bind ?_ (fun _ => ?_))
set_option maxHeartbeats 8000000 in
set_option maxRecDepth 100000 in
theorem impl_isDigit.calls (k : Nat) (a0 : Int) (r : Bool) (w : World) (h : impl_isDigit.f k a0 = some r) :
  Calls Tryd.prog 68 #[.int .i64 a0] w fun e w' => e = .returned (.bool r) ∧ Drawn0 w w' := by
 have H : ((impl_Category.f k a0).bind fun t396 => (some (t396 == 8))) = some r := h
 clear h
 obtain ⟨t396, A2, H⟩ := bb H
 obtain rfl := Option.some.inj H
 go_enter Tryd.func68, Tryd.ntmps68
 go_wp2_with (first | ((with_reducible refine gate_callee (f := 85) rfl ?_); refine gq 4 Tryd.func85 (impl_Category.calls k a0 t396 _ A2.out) fun nd => ?_))
 go_ret
 exact rdd
/-! ### impl_wordCuts_4: function 91 -/
def impl_wordCuts_4.f (k : Nat) (a0 : Int) : Option (Bool) := (impl_wordLetter.f k a0).bind fun t397 => (if t397 = true then (some true) else ((impl_isDigit.f k a0).bind fun t398 => (some t398)))
theorem impl_wordCuts_4.mono : ∀ a0 k, LeO (impl_wordCuts_4.f k a0) (impl_wordCuts_4.f (k + 1) a0) := by
 intro a0 k
 unfold impl_wordCuts_4.f
 repeat' (first | (with_reducible first | exact impl_isDigit.mono .. | exact impl_wordLetter.mono .. | exact LeO.refl _ | exact LeO.none _ | refine LeO.ite ?_ ?_ | refine LeO.bind ?_ (fun _ => ?_)) | exact impl_isDigit.mono .. | exact impl_wordLetter.mono .. | exact LeO.none _ | refine LeO.ite ?_ ?_ | refine LeO.bind ?_ (fun _ => ?_))
set_option maxHeartbeats 8000000 in
set_option maxRecDepth 100000 in
theorem impl_wordCuts_4.calls (k : Nat) (a0 : Int) (r : Bool) (w : World) (h : impl_wordCuts_4.f k a0 = some r) :
  Calls Tryd.prog 91 #[.int .i64 a0] w fun e w' => e = .returned (.bool r) ∧ Drawn0 w w' := by
 have H : ((impl_wordLetter.f k a0).bind fun t397 => (if t397 = true then (some true) else ((impl_isDigit.f k a0).bind fun t398 => (some t398)))) = some r := h
 clear h
 obtain ⟨t397, A2, H⟩ := bb H
 by_cases c3 : t397 = true
 ·subst c3
  replace H := iT H
  obtain rfl := Option.some.inj H
  go_enter Tryd.func91, Tryd.ntmps91
  go_wp2_with (first | ((with_reducible refine gate_callee (f := 66) rfl ?_); refine gq 4 Tryd.func66 (impl_wordLetter.calls k a0 true _ A2.out) fun nd => ?_))
  go_ret
  exact rdd
 replace c3 := Bool.eq_false_iff.mpr c3
 subst c3
 replace H := iF H
 obtain ⟨t398, A4, H⟩ := bb H
 obtain rfl := Option.some.inj H
 go_enter Tryd.func91, Tryd.ntmps91
 go_wp2_with (first | ((with_reducible refine gate_callee (f := 66) rfl ?_); refine gq 4 Tryd.func66 (impl_wordLetter.calls k a0 false _ A2.out) fun nd => ?_) | (go_at_call 68; (with_reducible refine (impl_isDigit.calls k a0 t398 _ A4.out).mono ?_); rintro e w' ⟨rfl, ⟨nd, rfl⟩⟩))
 go_ret
 exact rdd
/-! ### impl_wordPart: function 67 -/
def impl_wordPart.f (k : Nat) (a0 : Int) : Option (Bool) := (impl_Script.f k a0).bind fun t399 => (some (t399 == 8))
theorem impl_wordPart.mono : ∀ a0 k, LeO (impl_wordPart.f k a0) (impl_wordPart.f (k + 1) a0) := by
 intro a0 k
 unfold impl_wordPart.f
 repeat' (first | (with_reducible first | exact impl_Script.mono .. | exact LeO.refl _ | exact LeO.none _ | refine LeO.ite ?_ ?_ | refine LeO.bind ?_ (fun _ => ?_)) | exact impl_Script.mono .. | exact LeO.none _ | refine LeO.ite ?_ ?_ | refine LeO.bind ?_ (fun _ => ?_))
set_option maxHeartbeats 8000000 in
set_option maxRecDepth 100000 in
theorem impl_wordPart.calls (k : Nat) (a0 : Int) (r : Bool) (w : World) (h : impl_wordPart.f k a0 = some r) :
  Calls Tryd.prog 67 #[.int .i64 a0] w fun e w' => e = .returned (.bool r) ∧ Drawn0 w w' := by
 have H : ((impl_Script.f k a0).bind fun t399 => (some (t399 == 8))) = some r := h
 clear h
 obtain ⟨t399, A2, H⟩ := bb H
 obtain rfl := Option.some.inj H
 go_enter Tryd.func67, Tryd.ntmps67
 go_wp2_with (first | ((with_reducible refine gate_callee (f := 69) rfl ?_); refine gq 4 Tryd.func69 (impl_Script.calls k a0 t399 _ A2.out) fun nd => ?_))
 go_ret
 exact rdd
end Go.Proofs.YtmlhnpggjkoinaaDoor.PFnExactWordCuts

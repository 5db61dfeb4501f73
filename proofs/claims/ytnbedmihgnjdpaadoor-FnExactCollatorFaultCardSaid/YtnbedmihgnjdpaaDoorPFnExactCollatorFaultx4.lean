-- Written by a program of this session: what the printed functions compute.
import Derived.Test.YtnbedmihgnjdpaaDoorPFnExactCollatorFaultx0
import Derived.Test.YtnbedmihgnjdpaaDoorSlimMore
import Derived.Test.YtnbedmihgnjdpaaDoorPFnExactCollatorFaultx3
namespace Go.Proofs.YtnbedmihgnjdpaaDoor.PFnExactCollatorFault
open Go.RowKit Go.Proofs.YtnbedmihgnjdpaaDoorW.PrintWords Go.Proofs.YtnbedmihgnjdpaaDoorW.PrintLast Go.Proofs.YtnbedmihgnjdpaaDoorW.PrintMore
attribute [local go_sem] max2_int min2_int max_two min_two max_three min_three max_four min_four
set_option linter.unusedVariables false
set_option linter.unusedSimpArgs false
mutual
def spec_l05Pair.j0 : Nat → Int → Int → Int → Bool → Option (Int)
 | 0, _, _, _, _ => none
 | k + 1, x0, x1, x5, x8 => if x8 = true then (some (wrap64 ((wrap64 ((wrap64 (8192 + (wrap64 (8 * x5)))) + x1)) - 4096))) else (if x5 ≥ 0 then (if x1 ≥ 4112 then (spec_l05Pair.j1 k x0 x1 x5 (decide (x1 ≤ 4119))) else (spec_l05Pair.j1 k x0 x1 x5 false)) else (spec_l05Pair.j1 k x0 x1 x5 false))
def spec_l05Pair.j1 : Nat → Int → Int → Int → Bool → Option (Int)
 | 0, _, _, _, _ => none
 | k + 1, x0, x1, x5, x25 => if x25 = true then (some (wrap64 ((wrap64 ((wrap64 (8704 + (wrap64 (8 * x5)))) + x1)) - 4112))) else (if x0 ≥ 8704 then (if x0 < 9120 then (spec_l05Pair.j2 k x0 x1 (x1 == 4096)) else (spec_l05Pair.j2 k x0 x1 false)) else (spec_l05Pair.j2 k x0 x1 false))
def spec_l05Pair.j2 : Nat → Int → Int → Bool → Option (Int)
 | 0, _, _, _ => none
 | k + 1, x0, x1, x42 => if x42 = true then (some (wrap64 (x0 + 512))) else (if x0 ≥ 1792 then (if x0 ≤ 1810 then (if x1 ≥ 1824 then (spec_l05Pair.j3 k x0 x1 (decide (x1 ≤ 1844))) else (spec_l05Pair.j3 k x0 x1 false)) else (spec_l05Pair.j3 k x0 x1 false)) else (spec_l05Pair.j3 k x0 x1 false))
def spec_l05Pair.j3 : Nat → Int → Int → Bool → Option (Int)
 | 0, _, _, _ => none
 | k + 1, x0, x1, x55 => if x55 = true then (some (wrap64 (12288 + (wrap64 ((wrap64 ((wrap64 ((wrap64 ((wrap64 (x0 - 1792)) * 21)) + x1)) - 1824)) * 28))))) else (if x0 ≥ 12288 then (if x0 ≤ 23459 then (if (Int.tmod (wrap64 (x0 - 12288)) 28) = 0 then (if x1 ≥ 1857 then (if x1 ≤ 1883 then (some (wrap64 ((wrap64 (x0 + x1)) - 1856))) else (some (-1))) else (some (-1))) else (some (-1))) else (some (-1))) else (some (-1)))
end
def spec_l05Pair.f (k : Nat) (a0 : Int) (a1 : Int) : Option (Int) := (spec_l05LetterAt.f k a0).bind fun t204 => (if t204 ≥ 0 then (if a1 ≥ 4096 then (spec_l05Pair.j0 k a0 a1 t204 (decide (a1 ≤ 4103))) else (spec_l05Pair.j0 k a0 a1 t204 false)) else (spec_l05Pair.j0 k a0 a1 t204 false))
set_option maxHeartbeats 8000000 in
set_option maxRecDepth 100000 in
theorem spec_l05Pair.calls (k : Nat) (a0 : Int) (a1 : Int) (r : Int) (w : World) (h : spec_l05Pair.f k a0 a1 = some r) :
  Calls Tryd.prog 88 #[.int .i64 a0, .int .i64 a1] w fun e w' => e = .returned (.int .i64 r) ∧ Drawn0 w w' := by
 have H : ((spec_l05LetterAt.f k a0).bind fun t204 => (if t204 ≥ 0 then (if a1 ≥ 4096 then (spec_l05Pair.j0 k a0 a1 t204 (decide (a1 ≤ 4103))) else (spec_l05Pair.j0 k a0 a1 t204 false)) else (spec_l05Pair.j0 k a0 a1 t204 false))) = some r := h
 clear h
 replace H := Option.bind_eq_some_iff.mp H
 obtain ⟨t204, A30, H⟩ := H
 replace H : (if t204 ≥ 0 then (if a1 ≥ 4096 then (spec_l05Pair.j0 k a0 a1 t204 (decide (a1 ≤ 4103))) else (spec_l05Pair.j0 k a0 a1 t204 false)) else (spec_l05Pair.j0 k a0 a1 t204 false)) = some r := H
 have A3 := am A30
 clear A30
 have HC4 := am H
 clear H
 go_enter Tryd.func88, Tryd.ntmps88
 go_upto_region 2 with (first | ((with_reducible refine gate_callee (f := 99) rfl ?_); refine gl 7 Tryd.func99 #[.int .i64 a0] ?_; (with_reducible refine (spec_l05LetterAt.calls k a0 t204 _ A3.out).mono ?_); rintro e w' ⟨rfl, ⟨nd, rfl⟩⟩; refine ⟨_, rfl, ?_⟩))
 (try simp only [Act.put, List.setIfInBounds_toArray, List.set_cons_zero, List.set_cons_succ])
 go_cut [8] (fun v8 wc => ∃ (kq : Nat) (x8_3 : Bool), v8 = .bool x8_3 ∧ Aside0 (spec_l05Pair.j0 kq a0 a1 t204 x8_3 = some r) ∧ Aside0 (kq ≤ k) ∧ Drawn0 w wc)
 case first =>
  have H := HC4.out
  clear HC4
  by_cases c5 : t204 ≥ 0
  ·rw [if_pos c5] at H
   have c5b0 : decide (0 ≤ t204) = true := decide_eq_true c5
   clear c5
   (first | rw [c5b0] | (simp only [i64_w, i32_w]; rw [c5b0]) | skip)
   by_cases c6 : a1 ≥ 4096
   ·rw [if_pos c6] at H
    have c6b0 : decide (4096 ≤ a1) = true := decide_eq_true c6
    clear c6
    have H' := am H
    clear H
    go_wp2
    go_meet
    case rel => exact ⟨_, (decide (a1 ≤ 4103)), (by first | rfl | (simp; done) | (simp [*]; done)), H', ⟨by first | omega | exact Nat.le_refl _⟩, by repeat (first | exact Drawn0.refl _ | apply Drawn0.step)⟩
   ·rw [if_neg c6] at H
    have c6b0 : decide (4096 ≤ a1) = false := decide_eq_false c6
    clear c6
    have H' := am H
    clear H
    go_wp2
    go_meet
    case rel => exact ⟨_, (false), (by first | rfl | (simp; done) | (simp [*]; done)), H', ⟨by first | omega | exact Nat.le_refl _⟩, by repeat (first | exact Drawn0.refl _ | apply Drawn0.step)⟩
  ·rw [if_neg c5] at H
   have c5b0 : decide (0 ≤ t204) = false := decide_eq_false c5
   clear c5
   (first | rw [c5b0] | (simp only [i64_w, i32_w]; rw [c5b0]) | skip)
   have H' := am H
   clear H
   go_wp2
   go_meet
   case rel => exact ⟨_, (false), (by first | rfl | (simp; done) | (simp [*]; done)), H', ⟨by first | omega | exact Nat.le_refl _⟩, by repeat (first | exact Drawn0.refl _ | apply Drawn0.step)⟩
 case rest =>
  clear HC4
  try clear p2
  try clear c5
  try clear c5b0
  try clear c6
  try clear c6b0
  obtain ⟨kq, x8_3, rfl, HA, HJ3, ⟨mc3, rfl⟩⟩ := hcut
  cases kq with
  | zero => exact absurd HA.out (by simp [spec_l05Pair.j0])
  | succ kj3 =>
   have H := HA.out
   clear HA
   simp only [spec_l05Pair.j0] at H
   by_cases c7 : x8_3 = true
   ·subst c7
    have H1 : (some (wrap64 ((wrap64 ((wrap64 (8192 + (wrap64 (8 * t204)))) + a1)) - 4096))) = some r := by rw [if_pos rfl] at H; exact H
    clear H
    have H := H1
    clear H1
    obtain rfl := Option.some.inj H
    go_wp2
    go_ret
    exact rdd
   ·replace c7 := Bool.eq_false_iff.mpr c7
    subst c7
    have H1 : (if t204 ≥ 0 then (if a1 ≥ 4112 then (spec_l05Pair.j1 kj3 a0 a1 t204 (decide (a1 ≤ 4119))) else (spec_l05Pair.j1 kj3 a0 a1 t204 false)) else (spec_l05Pair.j1 kj3 a0 a1 t204 false)) = some r := by rw [if_neg (show ¬ (false = true) by decide)] at H; exact H
    clear H
    have H := H1
    clear H1
    have HC8 := am H
    clear H
    go_upto_region 4 with (fail)
    go_cut [25] (fun v25 wc => ∃ (kq : Nat) (x25_7 : Bool), v25 = .bool x25_7 ∧ Aside0 (spec_l05Pair.j1 kq a0 a1 t204 x25_7 = some r) ∧ Aside0 (kq ≤ kj3) ∧ Drawn0 w wc)
    case first =>
     have H := HC8.out
     clear HC8
     by_cases c9 : t204 ≥ 0
     ·rw [if_pos c9] at H
      have c9b0 : decide (0 ≤ t204) = true := decide_eq_true c9
      clear c9
      (first | rw [c9b0] | (simp only [i64_w, i32_w]; rw [c9b0]) | skip)
      by_cases c10 : a1 ≥ 4112
      ·rw [if_pos c10] at H
       have c10b0 : decide (4112 ≤ a1) = true := decide_eq_true c10
       clear c10
       have H' := am H
       clear H
       go_wp2
       go_meet
       case rel => exact ⟨_, (decide (a1 ≤ 4119)), (by first | rfl | (simp; done) | (simp [*]; done)), H', ⟨by have := HJ3.out; first | omega | exact Nat.le_refl _⟩, by repeat (first | exact Drawn0.refl _ | apply Drawn0.step)⟩
      ·rw [if_neg c10] at H
       have c10b0 : decide (4112 ≤ a1) = false := decide_eq_false c10
       clear c10
       have H' := am H
       clear H
       go_wp2
       go_meet
       case rel => exact ⟨_, (false), (by first | rfl | (simp; done) | (simp [*]; done)), H', ⟨by have := HJ3.out; first | omega | exact Nat.le_refl _⟩, by repeat (first | exact Drawn0.refl _ | apply Drawn0.step)⟩
     ·rw [if_neg c9] at H
      have c9b0 : decide (0 ≤ t204) = false := decide_eq_false c9
      clear c9
      (first | rw [c9b0] | (simp only [i64_w, i32_w]; rw [c9b0]) | skip)
      have H' := am H
      clear H
      go_wp2
      go_meet
      case rel => exact ⟨_, (false), (by first | rfl | (simp; done) | (simp [*]; done)), H', ⟨by have := HJ3.out; first | omega | exact Nat.le_refl _⟩, by repeat (first | exact Drawn0.refl _ | apply Drawn0.step)⟩
    case rest =>
     clear HC8
     try clear c1
     try clear p2
     try clear c3
     try clear c5
     try clear c5b0
     try clear c6
     try clear c6b0
     try clear p6
     try clear c7
     try clear c8
     try clear c9
     try clear c9b0
     try clear c10
     try clear c10b0
     try clear p2
     obtain ⟨kq, x25_7, rfl, HA, HJ7, ⟨mc7, rfl⟩⟩ := hcut
     cases kq with
     | zero => exact absurd HA.out (by simp [spec_l05Pair.j1])
     | succ kj7 =>
      have H := HA.out
      clear HA
      simp only [spec_l05Pair.j1] at H
      by_cases c11 : x25_7 = true
      ·subst c11
       have H1 : (some (wrap64 ((wrap64 ((wrap64 (8704 + (wrap64 (8 * t204)))) + a1)) - 4112))) = some r := by rw [if_pos rfl] at H; exact H
       clear H
       have H := H1
       clear H1
       obtain rfl := Option.some.inj H
       go_wp2
       go_ret
       exact rdd
      ·replace c11 := Bool.eq_false_iff.mpr c11
       subst c11
       have H1 : (if a0 ≥ 8704 then (if a0 < 9120 then (spec_l05Pair.j2 kj7 a0 a1 (a1 == 4096)) else (spec_l05Pair.j2 kj7 a0 a1 false)) else (spec_l05Pair.j2 kj7 a0 a1 false)) = some r := by rw [if_neg (show ¬ (false = true) by decide)] at H; exact H
       clear H
       have H := H1
       clear H1
       have HC12 := am H
       clear H
       go_upto_region 6 with (fail)
       go_cut [42] (fun v42 wc => ∃ (kq : Nat) (x42_11 : Bool), v42 = .bool x42_11 ∧ Aside0 (spec_l05Pair.j2 kq a0 a1 x42_11 = some r) ∧ Aside0 (kq ≤ kj7) ∧ Drawn0 w wc)
       case first =>
        have H := HC12.out
        clear HC12
        by_cases c13 : a0 ≥ 8704
        ·rw [if_pos c13] at H
         have c13b0 : decide (8704 ≤ a0) = true := decide_eq_true c13
         clear c13
         (first | rw [c13b0] | (simp only [i64_w, i32_w]; rw [c13b0]) | skip)
         by_cases c14 : a0 < 9120
         ·rw [if_pos c14] at H
          have c14b0 : decide (a0 < 9120) = true := decide_eq_true c14
          clear c14
          have H' := am H
          clear H
          go_wp2
          go_meet
          case rel => exact ⟨_, ((a1 == 4096)), (by first | rfl | (simp; done) | (simp [*]; done)), H', ⟨by have := HJ3.out; have := HJ7.out; first | omega | exact Nat.le_refl _⟩, by repeat (first | exact Drawn0.refl _ | apply Drawn0.step)⟩
         ·rw [if_neg c14] at H
          have c14b0 : decide (a0 < 9120) = false := decide_eq_false c14
          clear c14
          have H' := am H
          clear H
          go_wp2
          go_meet
          case rel => exact ⟨_, (false), (by first | rfl | (simp; done) | (simp [*]; done)), H', ⟨by have := HJ3.out; have := HJ7.out; first | omega | exact Nat.le_refl _⟩, by repeat (first | exact Drawn0.refl _ | apply Drawn0.step)⟩
        ·rw [if_neg c13] at H
         have c13b0 : decide (8704 ≤ a0) = false := decide_eq_false c13
         clear c13
         (first | rw [c13b0] | (simp only [i64_w, i32_w]; rw [c13b0]) | skip)
         have H' := am H
         clear H
         go_wp2
         go_meet
         case rel => exact ⟨_, (false), (by first | rfl | (simp; done) | (simp [*]; done)), H', ⟨by have := HJ3.out; have := HJ7.out; first | omega | exact Nat.le_refl _⟩, by repeat (first | exact Drawn0.refl _ | apply Drawn0.step)⟩
       case rest =>
        clear HC12
        try clear c1
        try clear p2
        try clear c3
        try clear c5
        try clear c5b0
        try clear c6
        try clear c6b0
        try clear p6
        try clear c7
        try clear c8
        try clear c9
        try clear c9b0
        try clear c10
        try clear c10b0
        try clear c11
        try clear c13
        try clear c13b0
        try clear c14
        try clear c14b0
        try clear p2
        try clear p6
        obtain ⟨kq, x42_11, rfl, HA, HJ11, ⟨mc11, rfl⟩⟩ := hcut
        cases kq with
        | zero => exact absurd HA.out (by simp [spec_l05Pair.j2])
        | succ kj11 =>
         have H := HA.out
         clear HA
         simp only [spec_l05Pair.j2] at H
         by_cases c15 : x42_11 = true
         ·subst c15
          have H1 : (some (wrap64 (a0 + 512))) = some r := by rw [if_pos rfl] at H; exact H
          clear H
          have H := H1
          clear H1
          obtain rfl := Option.some.inj H
          go_wp2
          go_ret
          exact rdd
         ·replace c15 := Bool.eq_false_iff.mpr c15
          subst c15
          have H1 : (if a0 ≥ 1792 then (if a0 ≤ 1810 then (if a1 ≥ 1824 then (spec_l05Pair.j3 kj11 a0 a1 (decide (a1 ≤ 1844))) else (spec_l05Pair.j3 kj11 a0 a1 false)) else (spec_l05Pair.j3 kj11 a0 a1 false)) else (spec_l05Pair.j3 kj11 a0 a1 false)) = some r := by rw [if_neg (show ¬ (false = true) by decide)] at H; exact H
          clear H
          have H := H1
          clear H1
          have HC16 := am H
          clear H
          go_upto_region 8 with (fail)
          go_cut [55] (fun v55 wc => ∃ (kq : Nat) (x55_15 : Bool), v55 = .bool x55_15 ∧ Aside0 (spec_l05Pair.j3 kq a0 a1 x55_15 = some r) ∧ Aside0 (kq ≤ kj11) ∧ Drawn0 w wc)
          case first =>
           have H := HC16.out
           clear HC16
           by_cases c17 : a0 ≥ 1792
           ·rw [if_pos c17] at H
            have c17b0 : decide (1792 ≤ a0) = true := decide_eq_true c17
            clear c17
            (first | rw [c17b0] | (simp only [i64_w, i32_w]; rw [c17b0]) | skip)
            by_cases c18 : a0 ≤ 1810
            ·rw [if_pos c18] at H
             have c18b0 : decide (a0 ≤ 1810) = true := decide_eq_true c18
             clear c18
             by_cases c19 : a1 ≥ 1824
             ·rw [if_pos c19] at H
              have c19b0 : decide (1824 ≤ a1) = true := decide_eq_true c19
              clear c19
              have H' := am H
              clear H
              go_wp2
              go_meet
              case rel => exact ⟨_, (decide (a1 ≤ 1844)), (by first | rfl | (simp; done) | (simp [*]; done)), H', ⟨by have := HJ3.out; have := HJ7.out; have := HJ11.out; first | omega | exact Nat.le_refl _⟩, by repeat (first | exact Drawn0.refl _ | apply Drawn0.step)⟩
             ·rw [if_neg c19] at H
              have c19b0 : decide (1824 ≤ a1) = false := decide_eq_false c19
              clear c19
              have H' := am H
              clear H
              go_wp2
              go_meet
              case rel => exact ⟨_, (false), (by first | rfl | (simp; done) | (simp [*]; done)), H', ⟨by have := HJ3.out; have := HJ7.out; have := HJ11.out; first | omega | exact Nat.le_refl _⟩, by repeat (first | exact Drawn0.refl _ | apply Drawn0.step)⟩
            ·rw [if_neg c18] at H
             have c18b0 : decide (a0 ≤ 1810) = false := decide_eq_false c18
             clear c18
             have H' := am H
             clear H
             go_wp2
             go_meet
             case rel => exact ⟨_, (false), (by first | rfl | (simp; done) | (simp [*]; done)), H', ⟨by have := HJ3.out; have := HJ7.out; have := HJ11.out; first | omega | exact Nat.le_refl _⟩, by repeat (first | exact Drawn0.refl _ | apply Drawn0.step)⟩
           ·rw [if_neg c17] at H
            have c17b0 : decide (1792 ≤ a0) = false := decide_eq_false c17
            clear c17
            (first | rw [c17b0] | (simp only [i64_w, i32_w]; rw [c17b0]) | skip)
            have H' := am H
            clear H
            go_wp2
            go_meet
            case rel => exact ⟨_, (false), (by first | rfl | (simp; done) | (simp [*]; done)), H', ⟨by have := HJ3.out; have := HJ7.out; have := HJ11.out; first | omega | exact Nat.le_refl _⟩, by repeat (first | exact Drawn0.refl _ | apply Drawn0.step)⟩
          case rest =>
           clear HC16
           try clear c1
           try clear p2
           try clear c3
           try clear c5
           try clear c5b0
           try clear c6
           try clear c6b0
           try clear p6
           try clear c7
           try clear c8
           try clear c9
           try clear c9b0
           try clear c10
           try clear c10b0
           try clear c11
           try clear c13
           try clear c13b0
           try clear c14
           try clear c14b0
           try clear c15
           try clear c17
           try clear c17b0
           try clear c18
           try clear c18b0
           try clear c19
           try clear c19b0
           try clear p2
           try clear p6
           obtain ⟨kq, x55_15, rfl, HA, HJ15, ⟨mc15, rfl⟩⟩ := hcut
           cases kq with
           | zero => exact absurd HA.out (by simp [spec_l05Pair.j3])
           | succ kj15 =>
            have H := HA.out
            clear HA
            simp only [spec_l05Pair.j3] at H
            by_cases c20 : x55_15 = true
            ·subst c20
             have H1 : (some (wrap64 (12288 + (wrap64 ((wrap64 ((wrap64 ((wrap64 ((wrap64 (a0 - 1792)) * 21)) + a1)) - 1824)) * 28))))) = some r := by rw [if_pos rfl] at H; exact H
             clear H
             have H := H1
             clear H1
             obtain rfl := Option.some.inj H
             go_wp2
             go_ret
             exact rdd
            ·replace c20 := Bool.eq_false_iff.mpr c20
             subst c20
             have H1 : (if a0 ≥ 12288 then (if a0 ≤ 23459 then (if (Int.tmod (wrap64 (a0 - 12288)) 28) = 0 then (if a1 ≥ 1857 then (if a1 ≤ 1883 then (some (wrap64 ((wrap64 (a0 + a1)) - 1856))) else (some (-1))) else (some (-1))) else (some (-1))) else (some (-1))) else (some (-1))) = some r := by rw [if_neg (show ¬ (false = true) by decide)] at H; exact H
             clear H
             have H := H1
             clear H1
             by_cases c21 : a0 ≥ 12288
             ·rw [if_pos c21] at H
              have c21b0 : decide (12288 ≤ a0) = true := decide_eq_true c21
              clear c21
              by_cases c22 : a0 ≤ 23459
              ·rw [if_pos c22] at H
               have c22b0 : decide (a0 ≤ 23459) = true := decide_eq_true c22
               clear c22
               by_cases c23 : (Int.tmod (wrap64 (a0 - 12288)) 28) = 0
               ·rw [if_pos c23] at H
                have c23b0 : ((Int.tmod (wrap64 (a0 - 12288)) 28) == 0) = true := beq_iff_eq.mpr c23
                have c23b1 : ((Int.tmod (wrap64 (a0 - 12288)) 28) != 0) = false := bne_eq_false_iff_eq.mpr c23
                clear c23
                by_cases c24 : a1 ≥ 1857
                ·rw [if_pos c24] at H
                 have c24b0 : decide (1857 ≤ a1) = true := decide_eq_true c24
                 clear c24
                 by_cases c25 : a1 ≤ 1883
                 ·rw [if_pos c25] at H
                  have c25b0 : decide (a1 ≤ 1883) = true := decide_eq_true c25
                  clear c25
                  obtain rfl := Option.some.inj H
                  go_wp2
                  go_ret
                  exact rdd
                 ·rw [if_neg c25] at H
                  have c25b0 : decide (a1 ≤ 1883) = false := decide_eq_false c25
                  clear c25
                  obtain rfl := Option.some.inj H
                  go_wp2
                  go_ret
                  exact rdd
                ·rw [if_neg c24] at H
                 have c24b0 : decide (1857 ≤ a1) = false := decide_eq_false c24
                 clear c24
                 obtain rfl := Option.some.inj H
                 go_wp2
                 go_ret
                 exact rdd
               ·rw [if_neg c23] at H
                have c23b0 : ((Int.tmod (wrap64 (a0 - 12288)) 28) == 0) = false := beq_eq_false_iff_ne.mpr c23
                have c23b1 : ((Int.tmod (wrap64 (a0 - 12288)) 28) != 0) = true := bne_iff_ne.mpr c23
                obtain rfl := Option.some.inj H
                go_wp2
                go_ret
                exact rdd
              ·rw [if_neg c22] at H
               have c22b0 : decide (a0 ≤ 23459) = false := decide_eq_false c22
               clear c22
               obtain rfl := Option.some.inj H
               go_wp2
               go_ret
               exact rdd
             ·rw [if_neg c21] at H
              have c21b0 : decide (12288 ≤ a0) = false := decide_eq_false c21
              clear c21
              obtain rfl := Option.some.inj H
              go_wp2
              go_ret
              exact rdd
end Go.Proofs.YtnbedmihgnjdpaaDoor.PFnExactCollatorFault

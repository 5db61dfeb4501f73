-- Written by a program of this session: what the printed functions compute.
import Derived.Test.YtnbedmihgnjdpaaDoorPFnExactCollatorFaultx0
import Derived.Test.YtnbedmihgnjdpaaDoorSlimMore
import Derived.Test.YtnbedmihgnjdpaaDoorPFnExactCollatorFaultx8
import Derived.Test.YtnbedmihgnjdpaaDoorPFnExactCollatorFaultx9
namespace Go.Proofs.YtnbedmihgnjdpaaDoor.PFnExactCollatorFault
open Go.RowKit Go.Proofs.YtnbedmihgnjdpaaDoorW.PrintWords Go.Proofs.YtnbedmihgnjdpaaDoorW.PrintLast Go.Proofs.YtnbedmihgnjdpaaDoorW.PrintMore
attribute [local go_sem] max2_int min2_int max_two min_two max_three min_three max_four min_four
set_option linter.unusedVariables false
set_option linter.unusedSimpArgs false
mutual
def impl_Compose.j0 : Nat → Int → Int → Int → Option (Int)
 | 0, _, _, _ => none
 | k + 1, x0, x1, x5 => (impl_in.f x0 97 122).bind fun t374 => (if t374 = true then (impl_Compose.j1 k x0 x1 (wrap64 ((wrap64 (x0 - 97)) + 26))) else (impl_Compose.j1 k x0 x1 x5))
def impl_Compose.j1 : Nat → Int → Int → Int → Option (Int)
 | 0, _, _, _ => none
 | k + 1, x0, x1, x5 => if x5 ≥ 0 then ((impl_in.f x1 4096 4103).bind fun t375 => (impl_Compose.j2 k x0 x1 x5 t375)) else (impl_Compose.j2 k x0 x1 x5 false)
def impl_Compose.j2 : Nat → Int → Int → Int → Bool → Option (Int)
 | 0, _, _, _, _ => none
 | k + 1, x0, x1, x5, x15 => if x15 = true then (some (wrap64 ((wrap64 ((wrap64 (8192 + (wrap64 (8 * x5)))) + x1)) - 4096))) else (if x5 ≥ 0 then ((impl_in.f x1 4112 4119).bind fun t376 => (impl_Compose.j3 k x0 x1 x5 t376)) else (impl_Compose.j3 k x0 x1 x5 false))
def impl_Compose.j3 : Nat → Int → Int → Int → Bool → Option (Int)
 | 0, _, _, _, _ => none
 | k + 1, x0, x1, x5, x28 => if x28 = true then (some (wrap64 ((wrap64 ((wrap64 (8704 + (wrap64 (8 * x5)))) + x1)) - 4112))) else ((impl_in.f x0 8704 9119).bind fun t377 => (if t377 = true then (impl_Compose.j4 k x0 x1 (x1 == 4096)) else (impl_Compose.j4 k x0 x1 false)))
def impl_Compose.j4 : Nat → Int → Int → Bool → Option (Int)
 | 0, _, _, _ => none
 | k + 1, x0, x1, x41 => if x41 = true then (some (wrap64 (x0 + 512))) else ((impl_in.f x0 1792 1810).bind fun t378 => (if t378 = true then ((impl_in.f x1 1824 1844).bind fun t379 => (impl_Compose.j5 k x0 x1 t379)) else (impl_Compose.j5 k x0 x1 false)))
def impl_Compose.j5 : Nat → Int → Int → Bool → Option (Int)
 | 0, _, _, _ => none
 | k + 1, x0, x1, x50 => if x50 = true then (some (wrap64 (12288 + (wrap64 ((wrap64 ((wrap64 ((wrap64 (21 * (wrap64 (x0 - 1792)))) + x1)) - 1824)) * 28))))) else ((impl_isOpen.f x0).bind fun t380 => (if t380 = true then ((impl_in.f x1 1857 1883).bind fun t381 => (if t381 = true then (some (wrap64 ((wrap64 (x0 + x1)) - 1856))) else (some (-1)))) else (some (-1))))
end
def impl_Compose.f (k : Nat) (a0 : Int) (a1 : Int) : Option (Int) := (impl_in.f a0 65 90).bind fun t373 => (if t373 = true then (impl_Compose.j0 k a0 a1 (wrap64 (a0 - 65))) else (impl_Compose.j0 k a0 a1 (-1)))
set_option maxHeartbeats 8000000 in
set_option maxRecDepth 100000 in
theorem impl_Compose.calls (k : Nat) (a0 : Int) (a1 : Int) (r : Int) (w : World) (h : impl_Compose.f k a0 a1 = some r) :
  Calls Tryd.prog 80 #[.int .i64 a0, .int .i64 a1] w fun e w' => e = .returned (.int .i64 r) ∧ Drawn0 w w' := by
 have H : ((impl_in.f a0 65 90).bind fun t373 => (if t373 = true then (impl_Compose.j0 k a0 a1 (wrap64 (a0 - 65))) else (impl_Compose.j0 k a0 a1 (-1)))) = some r := h
 clear h
 replace H := Option.bind_eq_some_iff.mp H
 obtain ⟨t373, A30, H⟩ := H
 replace H : (if t373 = true then (impl_Compose.j0 k a0 a1 (wrap64 (a0 - 65))) else (impl_Compose.j0 k a0 a1 (-1))) = some r := H
 have A3 := am A30
 clear A30
 have HC4 := am H
 clear H
 go_enter Tryd.func80, Tryd.ntmps80
 go_upto_if 7 with (first | ((with_reducible refine gate_callee (f := 67) rfl ?_); refine gl 7 Tryd.func67 #[.int .i64 a0, .int .i64 65, .int .i64 90] ?_; (with_reducible refine (impl_in.calls a0 65 90 t373 _ A3.out).mono ?_); rintro e w' ⟨rfl, ⟨nd, rfl⟩⟩; refine ⟨_, rfl, ?_⟩))
 (try simp only [Act.put, List.setIfInBounds_toArray, List.set_cons_zero, List.set_cons_succ])
 go_cut [5] (fun v5 wc => ∃ (kq : Nat) (x5_3 : Int), v5 = .int .i64 x5_3 ∧ Aside0 (impl_Compose.j0 kq a0 a1 x5_3 = some r) ∧ Aside0 (kq ≤ k) ∧ Drawn0 w wc)
 case first =>
  have H := HC4.out
  clear HC4
  by_cases c5 : t373 = true
  ·subst c5
   have H1 : (impl_Compose.j0 k a0 a1 (wrap64 (a0 - 65))) = some r := by rw [if_pos rfl] at H; exact H
   clear H
   have H := H1
   clear H1
   have H' := am H
   clear H
   go_wp2
   go_meet
   case rel => exact ⟨_, (wrap64 (a0 - 65)), (by first | rfl | (simp; done) | (simp [*]; done)), H', ⟨by first | omega | exact Nat.le_refl _⟩, by repeat (first | exact Drawn0.refl _ | apply Drawn0.step)⟩
  ·replace c5 := Bool.eq_false_iff.mpr c5
   subst c5
   have H1 : (impl_Compose.j0 k a0 a1 (-1)) = some r := by rw [if_neg (show ¬ (false = true) by decide)] at H; exact H
   clear H
   have H := H1
   clear H1
   have H' := am H
   clear H
   go_wp2
   go_meet
   case rel => exact ⟨_, ((-1)), (by first | rfl | (simp; done) | (simp [*]; done)), H', ⟨by first | omega | exact Nat.le_refl _⟩, by repeat (first | exact Drawn0.refl _ | apply Drawn0.step)⟩
 case rest =>
  clear HC4
  try clear p2
  try clear c5
  obtain ⟨kq, x5_3, rfl, HA, HJ3, ⟨mc3, rfl⟩⟩ := hcut
  cases kq with
  | zero => exact absurd HA.out (by simp [impl_Compose.j0])
  | succ kj3 =>
   have H := HA.out
   clear HA
   simp only [impl_Compose.j0] at H
   replace H := Option.bind_eq_some_iff.mp H
   obtain ⟨t374, A60, H⟩ := H
   replace H : (if t374 = true then (impl_Compose.j1 kj3 a0 a1 (wrap64 ((wrap64 (a0 - 97)) + 26))) else (impl_Compose.j1 kj3 a0 a1 x5_3)) = some r := H
   have A6 := am A60
   clear A60
   have HC7 := am H
   clear H
   go_upto_if 11 with (first | ((with_reducible refine gate_callee (f := 67) rfl ?_); refine gl 11 Tryd.func67 #[.int .i64 a0, .int .i64 97, .int .i64 122] ?_; (with_reducible refine (impl_in.calls a0 97 122 t374 _ A6.out).mono ?_); rintro e w' ⟨rfl, ⟨nd, rfl⟩⟩; refine ⟨_, rfl, ?_⟩))
   (try simp only [Act.put, List.setIfInBounds_toArray, List.set_cons_zero, List.set_cons_succ])
   go_cut [5] (fun v5 wc => ∃ (kq : Nat) (x5_6 : Int), v5 = .int .i64 x5_6 ∧ Aside0 (impl_Compose.j1 kq a0 a1 x5_6 = some r) ∧ Aside0 (kq ≤ kj3) ∧ Drawn0 w wc)
   case first =>
    have H := HC7.out
    clear HC7
    by_cases c8 : t374 = true
    ·subst c8
     have H1 : (impl_Compose.j1 kj3 a0 a1 (wrap64 ((wrap64 (a0 - 97)) + 26))) = some r := by rw [if_pos rfl] at H; exact H
     clear H
     have H := H1
     clear H1
     have H' := am H
     clear H
     go_wp2
     go_meet
     case rel => exact ⟨_, (wrap64 ((wrap64 (a0 - 97)) + 26)), (by first | rfl | (simp; done) | (simp [*]; done)), H', ⟨by have := HJ3.out; first | omega | exact Nat.le_refl _⟩, by repeat (first | exact Drawn0.refl _ | apply Drawn0.step)⟩
    ·replace c8 := Bool.eq_false_iff.mpr c8
     subst c8
     have H1 : (impl_Compose.j1 kj3 a0 a1 x5_3) = some r := by rw [if_neg (show ¬ (false = true) by decide)] at H; exact H
     clear H
     have H := H1
     clear H1
     have H' := am H
     clear H
     go_wp2
     go_meet
     case rel => exact ⟨_, (x5_3), (by first | rfl | (simp; done) | (simp [*]; done)), H', ⟨by have := HJ3.out; first | omega | exact Nat.le_refl _⟩, by repeat (first | exact Drawn0.refl _ | apply Drawn0.step)⟩
   case rest =>
    clear HC7
    try clear p2
    try clear c3
    try clear c5
    try clear c6
    try clear p6
    try clear c8
    try clear p2
    obtain ⟨kq, x5_6, rfl, HA, HJ6, ⟨mc6, rfl⟩⟩ := hcut
    cases kq with
    | zero => exact absurd HA.out (by simp [impl_Compose.j1])
    | succ kj6 =>
     have H := HA.out
     clear HA
     simp only [impl_Compose.j1] at H
     have HC9 := am H
     clear H
     go_upto_region 6 with (fail)
     go_cut [15] (fun v15 wc => ∃ (kq : Nat) (x15_8 : Bool), v15 = .bool x15_8 ∧ Aside0 (impl_Compose.j2 kq a0 a1 x5_6 x15_8 = some r) ∧ Aside0 (kq ≤ kj6) ∧ Drawn0 w wc)
     case first =>
      have H := HC9.out
      clear HC9
      by_cases c10 : x5_6 ≥ 0
      ·rw [if_pos c10] at H
       have c10b0 : decide (0 ≤ x5_6) = true := decide_eq_true c10
       clear c10
       (first | rw [c10b0] | (simp only [i64_w, i32_w]; rw [c10b0]) | skip)
       replace H := Option.bind_eq_some_iff.mp H
       obtain ⟨t375, A110, H⟩ := H
       replace H : (impl_Compose.j2 kj6 a0 a1 x5_6 t375) = some r := H
       have A11 := am A110
       clear A110
       have H' := am H
       clear H
       go_wp2_with (first | (go_at_call 67; (with_reducible refine (impl_in.calls a1 4096 4103 t375 _ A11.out).mono ?_); rintro e w' ⟨rfl, ⟨nd, rfl⟩⟩))
       go_meet
       case rel => exact ⟨_, (t375), (by first | rfl | (simp; done) | (simp [*]; done)), H', ⟨by have := HJ3.out; have := HJ6.out; first | omega | exact Nat.le_refl _⟩, by repeat (first | exact Drawn0.refl _ | apply Drawn0.step)⟩
      ·rw [if_neg c10] at H
       have c10b0 : decide (0 ≤ x5_6) = false := decide_eq_false c10
       clear c10
       (first | rw [c10b0] | (simp only [i64_w, i32_w]; rw [c10b0]) | skip)
       have H' := am H
       clear H
       go_wp2
       go_meet
       case rel => exact ⟨_, (false), (by first | rfl | (simp; done) | (simp [*]; done)), H', ⟨by have := HJ3.out; have := HJ6.out; first | omega | exact Nat.le_refl _⟩, by repeat (first | exact Drawn0.refl _ | apply Drawn0.step)⟩
     case rest =>
      clear HC9
      try clear c1
      try clear p2
      try clear c3
      try clear c5
      try clear c6
      try clear p6
      try clear c8
      try clear c10
      try clear c10b0
      try clear p2
      try clear p6
      obtain ⟨kq, x15_8, rfl, HA, HJ8, ⟨mc8, rfl⟩⟩ := hcut
      cases kq with
      | zero => exact absurd HA.out (by simp [impl_Compose.j2])
      | succ kj8 =>
       have H := HA.out
       clear HA
       simp only [impl_Compose.j2] at H
       by_cases c12 : x15_8 = true
       ·subst c12
        have H1 : (some (wrap64 ((wrap64 ((wrap64 (8192 + (wrap64 (8 * x5_6)))) + a1)) - 4096))) = some r := by rw [if_pos rfl] at H; exact H
        clear H
        have H := H1
        clear H1
        obtain rfl := Option.some.inj H
        go_wp2
        go_ret
        exact rdd
       ·replace c12 := Bool.eq_false_iff.mpr c12
        subst c12
        have H1 : (if x5_6 ≥ 0 then ((impl_in.f a1 4112 4119).bind fun t376 => (impl_Compose.j3 kj8 a0 a1 x5_6 t376)) else (impl_Compose.j3 kj8 a0 a1 x5_6 false)) = some r := by rw [if_neg (show ¬ (false = true) by decide)] at H; exact H
        clear H
        have H := H1
        clear H1
        have HC13 := am H
        clear H
        go_upto_region 8 with (fail)
        go_cut [28] (fun v28 wc => ∃ (kq : Nat) (x28_12 : Bool), v28 = .bool x28_12 ∧ Aside0 (impl_Compose.j3 kq a0 a1 x5_6 x28_12 = some r) ∧ Aside0 (kq ≤ kj8) ∧ Drawn0 w wc)
        case first =>
         have H := HC13.out
         clear HC13
         by_cases c14 : x5_6 ≥ 0
         ·rw [if_pos c14] at H
          have c14b0 : decide (0 ≤ x5_6) = true := decide_eq_true c14
          clear c14
          (first | rw [c14b0] | (simp only [i64_w, i32_w]; rw [c14b0]) | skip)
          replace H := Option.bind_eq_some_iff.mp H
          obtain ⟨t376, A150, H⟩ := H
          replace H : (impl_Compose.j3 kj8 a0 a1 x5_6 t376) = some r := H
          have A15 := am A150
          clear A150
          have H' := am H
          clear H
          go_wp2_with (first | (go_at_call 67; (with_reducible refine (impl_in.calls a1 4112 4119 t376 _ A15.out).mono ?_); rintro e w' ⟨rfl, ⟨nd, rfl⟩⟩))
          go_meet
          case rel => exact ⟨_, (t376), (by first | rfl | (simp; done) | (simp [*]; done)), H', ⟨by have := HJ3.out; have := HJ6.out; have := HJ8.out; first | omega | exact Nat.le_refl _⟩, by repeat (first | exact Drawn0.refl _ | apply Drawn0.step)⟩
         ·rw [if_neg c14] at H
          have c14b0 : decide (0 ≤ x5_6) = false := decide_eq_false c14
          clear c14
          (first | rw [c14b0] | (simp only [i64_w, i32_w]; rw [c14b0]) | skip)
          have H' := am H
          clear H
          go_wp2
          go_meet
          case rel => exact ⟨_, (false), (by first | rfl | (simp; done) | (simp [*]; done)), H', ⟨by have := HJ3.out; have := HJ6.out; have := HJ8.out; first | omega | exact Nat.le_refl _⟩, by repeat (first | exact Drawn0.refl _ | apply Drawn0.step)⟩
        case rest =>
         clear HC13
         try clear c1
         try clear p2
         try clear c3
         try clear c5
         try clear c6
         try clear p6
         try clear c8
         try clear c10
         try clear c10b0
         try clear c12
         try clear c14
         try clear c14b0
         try clear p2
         try clear p6
         obtain ⟨kq, x28_12, rfl, HA, HJ12, ⟨mc12, rfl⟩⟩ := hcut
         cases kq with
         | zero => exact absurd HA.out (by simp [impl_Compose.j3])
         | succ kj12 =>
          have H := HA.out
          clear HA
          simp only [impl_Compose.j3] at H
          by_cases c16 : x28_12 = true
          ·subst c16
           have H1 : (some (wrap64 ((wrap64 ((wrap64 (8704 + (wrap64 (8 * x5_6)))) + a1)) - 4112))) = some r := by rw [if_pos rfl] at H; exact H
           clear H
           have H := H1
           clear H1
           obtain rfl := Option.some.inj H
           go_wp2
           go_ret
           exact rdd
          ·replace c16 := Bool.eq_false_iff.mpr c16
           subst c16
           have H1 : ((impl_in.f a0 8704 9119).bind fun t377 => (if t377 = true then (impl_Compose.j4 kj12 a0 a1 (a1 == 4096)) else (impl_Compose.j4 kj12 a0 a1 false))) = some r := by rw [if_neg (show ¬ (false = true) by decide)] at H; exact H
           clear H
           have H := H1
           clear H1
           have HC17 := am H
           clear H
           go_upto_region 10 with (fail)
           go_cut [41] (fun v41 wc => ∃ (kq : Nat) (x41_16 : Bool), v41 = .bool x41_16 ∧ Aside0 (impl_Compose.j4 kq a0 a1 x41_16 = some r) ∧ Aside0 (kq ≤ kj12) ∧ Drawn0 w wc)
           case first =>
            have H := HC17.out
            clear HC17
            replace H := Option.bind_eq_some_iff.mp H
            obtain ⟨t377, A180, H⟩ := H
            replace H : (if t377 = true then (impl_Compose.j4 kj12 a0 a1 (a1 == 4096)) else (impl_Compose.j4 kj12 a0 a1 false)) = some r := H
            have A18 := am A180
            clear A180
            by_cases c19 : t377 = true
            ·subst c19
             have H1 : (impl_Compose.j4 kj12 a0 a1 (a1 == 4096)) = some r := by rw [if_pos rfl] at H; exact H
             clear H
             have H := H1
             clear H1
             have H' := am H
             clear H
             go_wp2_with (first | ((with_reducible refine gate_callee (f := 67) rfl ?_); refine gl 43 Tryd.func67 #[.int .i64 a0, .int .i64 8704, .int .i64 9119] ?_; (with_reducible refine (impl_in.calls a0 8704 9119 true _ A18.out).mono ?_); rintro e w' ⟨rfl, ⟨nd, rfl⟩⟩; refine ⟨_, rfl, ?_⟩))
             go_meet
             case rel => exact ⟨_, ((a1 == 4096)), (by first | rfl | (simp; done) | (simp [*]; done)), H', ⟨by have := HJ3.out; have := HJ6.out; have := HJ8.out; have := HJ12.out; first | omega | exact Nat.le_refl _⟩, by repeat (first | exact Drawn0.refl _ | apply Drawn0.step)⟩
            ·replace c19 := Bool.eq_false_iff.mpr c19
             subst c19
             have H1 : (impl_Compose.j4 kj12 a0 a1 false) = some r := by rw [if_neg (show ¬ (false = true) by decide)] at H; exact H
             clear H
             have H := H1
             clear H1
             have H' := am H
             clear H
             go_wp2_with (first | ((with_reducible refine gate_callee (f := 67) rfl ?_); refine gl 43 Tryd.func67 #[.int .i64 a0, .int .i64 8704, .int .i64 9119] ?_; (with_reducible refine (impl_in.calls a0 8704 9119 false _ A18.out).mono ?_); rintro e w' ⟨rfl, ⟨nd, rfl⟩⟩; refine ⟨_, rfl, ?_⟩))
             go_meet
             case rel => exact ⟨_, (false), (by first | rfl | (simp; done) | (simp [*]; done)), H', ⟨by have := HJ3.out; have := HJ6.out; have := HJ8.out; have := HJ12.out; first | omega | exact Nat.le_refl _⟩, by repeat (first | exact Drawn0.refl _ | apply Drawn0.step)⟩
           case rest =>
            clear HC17
            try clear c1
            try clear p2
            try clear c3
            try clear c5
            try clear c6
            try clear p6
            try clear c8
            try clear c10
            try clear c10b0
            try clear c12
            try clear c14
            try clear c14b0
            try clear c16
            try clear c19
            try clear p2
            try clear p6
            obtain ⟨kq, x41_16, rfl, HA, HJ16, ⟨mc16, rfl⟩⟩ := hcut
            cases kq with
            | zero => exact absurd HA.out (by simp [impl_Compose.j4])
            | succ kj16 =>
             have H := HA.out
             clear HA
             simp only [impl_Compose.j4] at H
             by_cases c20 : x41_16 = true
             ·subst c20
              have H1 : (some (wrap64 (a0 + 512))) = some r := by rw [if_pos rfl] at H; exact H
              clear H
              have H := H1
              clear H1
              obtain rfl := Option.some.inj H
              go_wp2
              go_ret
              exact rdd
             ·replace c20 := Bool.eq_false_iff.mpr c20
              subst c20
              have H1 : ((impl_in.f a0 1792 1810).bind fun t378 => (if t378 = true then ((impl_in.f a1 1824 1844).bind fun t379 => (impl_Compose.j5 kj16 a0 a1 t379)) else (impl_Compose.j5 kj16 a0 a1 false))) = some r := by rw [if_neg (show ¬ (false = true) by decide)] at H; exact H
              clear H
              have H := H1
              clear H1
              have HC21 := am H
              clear H
              go_upto_region 12 with (fail)
              go_cut [50] (fun v50 wc => ∃ (kq : Nat) (x50_20 : Bool), v50 = .bool x50_20 ∧ Aside0 (impl_Compose.j5 kq a0 a1 x50_20 = some r) ∧ Aside0 (kq ≤ kj16) ∧ Drawn0 w wc)
              case first =>
               have H := HC21.out
               clear HC21
               replace H := Option.bind_eq_some_iff.mp H
               obtain ⟨t378, A220, H⟩ := H
               replace H : (if t378 = true then ((impl_in.f a1 1824 1844).bind fun t379 => (impl_Compose.j5 kj16 a0 a1 t379)) else (impl_Compose.j5 kj16 a0 a1 false)) = some r := H
               have A22 := am A220
               clear A220
               by_cases c23 : t378 = true
               ·subst c23
                have H1 : ((impl_in.f a1 1824 1844).bind fun t379 => (impl_Compose.j5 kj16 a0 a1 t379)) = some r := by rw [if_pos rfl] at H; exact H
                clear H
                have H := H1
                clear H1
                replace H := Option.bind_eq_some_iff.mp H
                obtain ⟨t379, A240, H⟩ := H
                replace H : (impl_Compose.j5 kj16 a0 a1 t379) = some r := H
                have A24 := am A240
                clear A240
                have H' := am H
                clear H
                go_wp2_with (first | ((with_reducible refine gate_callee (f := 67) rfl ?_); refine gl 52 Tryd.func67 #[.int .i64 a0, .int .i64 1792, .int .i64 1810] ?_; (with_reducible refine (impl_in.calls a0 1792 1810 true _ A22.out).mono ?_); rintro e w' ⟨rfl, ⟨nd, rfl⟩⟩; refine ⟨_, rfl, ?_⟩) | (go_at_call 67; (with_reducible refine (impl_in.calls a1 1824 1844 t379 _ A24.out).mono ?_); rintro e w' ⟨rfl, ⟨nd, rfl⟩⟩))
                go_meet
                case rel => exact ⟨_, (t379), (by first | rfl | (simp; done) | (simp [*]; done)), H', ⟨by have := HJ3.out; have := HJ6.out; have := HJ8.out; have := HJ12.out; have := HJ16.out; first | omega | exact Nat.le_refl _⟩, by repeat (first | exact Drawn0.refl _ | apply Drawn0.step)⟩
               ·replace c23 := Bool.eq_false_iff.mpr c23
                subst c23
                have H1 : (impl_Compose.j5 kj16 a0 a1 false) = some r := by rw [if_neg (show ¬ (false = true) by decide)] at H; exact H
                clear H
                have H := H1
                clear H1
                have H' := am H
                clear H
                go_wp2_with (first | ((with_reducible refine gate_callee (f := 67) rfl ?_); refine gl 52 Tryd.func67 #[.int .i64 a0, .int .i64 1792, .int .i64 1810] ?_; (with_reducible refine (impl_in.calls a0 1792 1810 false _ A22.out).mono ?_); rintro e w' ⟨rfl, ⟨nd, rfl⟩⟩; refine ⟨_, rfl, ?_⟩))
                go_meet
                case rel => exact ⟨_, (false), (by first | rfl | (simp; done) | (simp [*]; done)), H', ⟨by have := HJ3.out; have := HJ6.out; have := HJ8.out; have := HJ12.out; have := HJ16.out; first | omega | exact Nat.le_refl _⟩, by repeat (first | exact Drawn0.refl _ | apply Drawn0.step)⟩
              case rest =>
               clear HC21
               try clear c1
               try clear c2
               try clear p2
               try clear c3
               try clear c5
               try clear c6
               try clear p6
               try clear c8
               try clear c10
               try clear c10b0
               try clear c12
               try clear c14
               try clear c14b0
               try clear c16
               try clear c19
               try clear c20
               try clear c23
               try clear p2
               try clear p6
               obtain ⟨kq, x50_20, rfl, HA, HJ20, ⟨mc20, rfl⟩⟩ := hcut
               cases kq with
               | zero => exact absurd HA.out (by simp [impl_Compose.j5])
               | succ kj20 =>
                have H := HA.out
                clear HA
                simp only [impl_Compose.j5] at H
                by_cases c25 : x50_20 = true
                ·subst c25
                 have H1 : (some (wrap64 (12288 + (wrap64 ((wrap64 ((wrap64 ((wrap64 (21 * (wrap64 (a0 - 1792)))) + a1)) - 1824)) * 28))))) = some r := by rw [if_pos rfl] at H; exact H
                 clear H
                 have H := H1
                 clear H1
                 obtain rfl := Option.some.inj H
                 go_wp2
                 go_ret
                 exact rdd
                ·replace c25 := Bool.eq_false_iff.mpr c25
                 subst c25
                 have H1 : ((impl_isOpen.f a0).bind fun t380 => (if t380 = true then ((impl_in.f a1 1857 1883).bind fun t381 => (if t381 = true then (some (wrap64 ((wrap64 (a0 + a1)) - 1856))) else (some (-1)))) else (some (-1)))) = some r := by rw [if_neg (show ¬ (false = true) by decide)] at H; exact H
                 clear H
                 have H := H1
                 clear H1
                 replace H := Option.bind_eq_some_iff.mp H
                 obtain ⟨t380, A260, H⟩ := H
                 replace H : (if t380 = true then ((impl_in.f a1 1857 1883).bind fun t381 => (if t381 = true then (some (wrap64 ((wrap64 (a0 + a1)) - 1856))) else (some (-1)))) else (some (-1))) = some r := H
                 have A26 := am A260
                 clear A260
                 by_cases c27 : t380 = true
                 ·subst c27
                  have H1 : ((impl_in.f a1 1857 1883).bind fun t381 => (if t381 = true then (some (wrap64 ((wrap64 (a0 + a1)) - 1856))) else (some (-1)))) = some r := by rw [if_pos rfl] at H; exact H
                  clear H
                  have H := H1
                  clear H1
                  replace H := Option.bind_eq_some_iff.mp H
                  obtain ⟨t381, A280, H⟩ := H
                  replace H : (if t381 = true then (some (wrap64 ((wrap64 (a0 + a1)) - 1856))) else (some (-1))) = some r := H
                  have A28 := am A280
                  clear A280
                  by_cases c29 : t381 = true
                  ·subst c29
                   have H1 : (some (wrap64 ((wrap64 (a0 + a1)) - 1856))) = some r := by rw [if_pos rfl] at H; exact H
                   clear H
                   have H := H1
                   clear H1
                   obtain rfl := Option.some.inj H
                   go_wp2_with (first | ((with_reducible refine gate_callee (f := 92) rfl ?_); refine gl 67 Tryd.func92 #[.int .i64 a0] ?_; (with_reducible refine (impl_isOpen.calls a0 true _ A26.out).mono ?_); rintro e w' ⟨rfl, ⟨nd, rfl⟩⟩; refine ⟨_, rfl, ?_⟩) | (go_at_call 67; (with_reducible refine (impl_in.calls a1 1857 1883 true _ A28.out).mono ?_); rintro e w' ⟨rfl, ⟨nd, rfl⟩⟩))
                   go_ret
                   exact rdd
                  ·replace c29 := Bool.eq_false_iff.mpr c29
                   subst c29
                   have H1 : (some (-1)) = some r := by rw [if_neg (show ¬ (false = true) by decide)] at H; exact H
                   clear H
                   have H := H1
                   clear H1
                   obtain rfl := Option.some.inj H
                   go_wp2_with (first | ((with_reducible refine gate_callee (f := 92) rfl ?_); refine gl 67 Tryd.func92 #[.int .i64 a0] ?_; (with_reducible refine (impl_isOpen.calls a0 true _ A26.out).mono ?_); rintro e w' ⟨rfl, ⟨nd, rfl⟩⟩; refine ⟨_, rfl, ?_⟩) | (go_at_call 67; (with_reducible refine (impl_in.calls a1 1857 1883 false _ A28.out).mono ?_); rintro e w' ⟨rfl, ⟨nd, rfl⟩⟩))
                   go_ret
                   exact rdd
                 ·replace c27 := Bool.eq_false_iff.mpr c27
                  subst c27
                  have H1 : (some (-1)) = some r := by rw [if_neg (show ¬ (false = true) by decide)] at H; exact H
                  clear H
                  have H := H1
                  clear H1
                  obtain rfl := Option.some.inj H
                  go_wp2_with (first | ((with_reducible refine gate_callee (f := 92) rfl ?_); refine gl 67 Tryd.func92 #[.int .i64 a0] ?_; (with_reducible refine (impl_isOpen.calls a0 false _ A26.out).mono ?_); rintro e w' ⟨rfl, ⟨nd, rfl⟩⟩; refine ⟨_, rfl, ?_⟩))
                  go_ret
                  exact rdd
end Go.Proofs.YtnbedmihgnjdpaaDoor.PFnExactCollatorFault

-- Written by a program of this session (wip/tools/myprint.py) that runs the kit's print with hooks of its own. Lean checks it.
import Derived.Test.YtmlhnpggjkoinaaDoorPFnExactWordsx0
import Derived.Test.YtmlhnpggjkoinaaDoorSlimMore
import Derived.Test.YtmlhnpggjkoinaaDoorPFnExactWordsx13
namespace Go.Proofs.YtmlhnpggjkoinaaDoor.PFnExactWords
open Go.RowKit Go.Proofs.YtmlhnpggjkoinaaDoorW.PrintWords Go.Proofs.YtmlhnpggjkoinaaDoorW.PrintLast Go.Proofs.YtmlhnpggjkoinaaDoorW.PrintMore
attribute [local go_sem] max2_int min2_int max_two min_two max_three min_three max_four min_four   -- for this text's walks alone
set_option linter.unusedVariables false
set_option linter.unusedSimpArgs false

/-! ### impl_charCuts_1: function 115 -/
mutual
def impl_charCuts_1.j0 : Nat → Int → Int → Int → Int → Bool → Bool → Int → Bool → Option (Bool)
 | 0, _, _, _, _, _, _, _, _ => none
 | k + 1, x0, x1, x2, x3, x4, x5, x6, x8 => if x8 = true then (some false) else (if x2 = 1 then (impl_charCuts_1.j1 k x0 x1 x2 x3 x4 x5 x6 true) else (impl_charCuts_1.j1 k x0 x1 x2 x3 x4 x5 x6 (x3 == 1)))
def impl_charCuts_1.j1 : Nat → Int → Int → Int → Int → Bool → Bool → Int → Bool → Option (Bool)
 | 0, _, _, _, _, _, _, _, _ => none
 | k + 1, x0, x1, x2, x3, x4, x5, x6, x15 => if x15 = true then (some true) else (if x3 = 3 then (if x2 = 3 then (impl_charCuts_1.j2 k x0 x1 x2 x3 x4 x5 x6 true) else (if x2 = 4 then (impl_charCuts_1.j2 k x0 x1 x2 x3 x4 x5 x6 true) else (if x2 = 6 then (impl_charCuts_1.j2 k x0 x1 x2 x3 x4 x5 x6 true) else (impl_charCuts_1.j2 k x0 x1 x2 x3 x4 x5 x6 (x2 == 7))))) else (impl_charCuts_1.j2 k x0 x1 x2 x3 x4 x5 x6 false))
def impl_charCuts_1.j2 : Nat → Int → Int → Int → Int → Bool → Bool → Int → Bool → Option (Bool)
 | 0, _, _, _, _, _, _, _, _ => none
 | k + 1, x0, x1, x2, x3, x4, x5, x6, x22 => if x22 = true then (some false) else (if x3 = 4 then (if x2 = 4 then (impl_charCuts_1.j3 k x0 x1 x2 x3 x4 x5 x6 true) else (impl_charCuts_1.j3 k x0 x1 x2 x3 x4 x5 x6 (x2 == 5))) else (if x3 = 6 then (if x2 = 4 then (impl_charCuts_1.j3 k x0 x1 x2 x3 x4 x5 x6 true) else (impl_charCuts_1.j3 k x0 x1 x2 x3 x4 x5 x6 (x2 == 5))) else (impl_charCuts_1.j3 k x0 x1 x2 x3 x4 x5 x6 false)))
def impl_charCuts_1.j3 : Nat → Int → Int → Int → Int → Bool → Bool → Int → Bool → Option (Bool)
 | 0, _, _, _, _, _, _, _, _ => none
 | k + 1, x0, x1, x2, x3, x4, x5, x6, x41 => if x41 = true then (some false) else (if x3 = 5 then (impl_charCuts_1.j4 k x0 x1 x2 x3 x4 x5 x6 (x2 == 5)) else (if x3 = 7 then (impl_charCuts_1.j4 k x0 x1 x2 x3 x4 x5 x6 (x2 == 5)) else (impl_charCuts_1.j4 k x0 x1 x2 x3 x4 x5 x6 false)))
def impl_charCuts_1.j4 : Nat → Int → Int → Int → Int → Bool → Bool → Int → Bool → Option (Bool)
 | 0, _, _, _, _, _, _, _, _ => none
 | k + 1, x0, x1, x2, x3, x4, x5, x6, x56 => if x56 = true then (some false) else (if x2 = 2 then (some false) else ((impl_in.f x1 1536 1567).bind fun t421 => (if t421 = true then (impl_charCuts_1.j5 k x0 x2 x3 x5 x6 x4) else (impl_charCuts_1.j5 k x0 x2 x3 x5 x6 false))))
def impl_charCuts_1.j5 : Nat → Int → Int → Int → Bool → Int → Bool → Option (Bool)
 | 0, _, _, _, _, _, _ => none
 | k + 1, x0, x2, x3, x5, x6, x70 => if x70 = true then (some false) else (if x0 = 7936 then (if x2 = 8 then (impl_charCuts_1.j6 k x2 x3 x6 x5) else (impl_charCuts_1.j6 k x2 x3 x6 false)) else (impl_charCuts_1.j6 k x2 x3 x6 false))
def impl_charCuts_1.j6 : Nat → Int → Int → Int → Bool → Option (Bool)
 | 0, _, _, _, _ => none
 | k + 1, x2, x3, x6, x76 => if x76 = true then (some false) else (if x2 = 9 then (if x3 = 9 then (if (Int.tmod x6 2) = 1 then (some false) else (some true)) else (some true)) else (some true))
end
def impl_charCuts_1.f (k : Nat) (a0 : Int) (a1 : Int) (a2 : Int) (a3 : Int) (a4 : Bool) (a5 : Bool) (a6 : Int) : Option (Bool) := if a0 = 13 then (impl_charCuts_1.j0 k a0 a1 a2 a3 a4 a5 a6 (a1 == 10)) else (impl_charCuts_1.j0 k a0 a1 a2 a3 a4 a5 a6 false)
set_option maxHeartbeats 8000000 in
set_option maxRecDepth 100000 in
theorem impl_charCuts_1.calls (k : Nat) (a0 : Int) (a1 : Int) (a2 : Int) (a3 : Int) (a4 : Bool) (a5 : Bool) (a6 : Int) (r : Bool) (g0_ g1_ g2_ g3_ g4_ g5_ g6_ : Nat) (w : World) (hg0_ : w.cell? ⟨g0_, 0, none⟩ = some (.int .i64 a0)) (hg1_ : w.cell? ⟨g1_, 0, none⟩ = some (.int .i64 a1)) (hg2_ : w.cell? ⟨g2_, 0, none⟩ = some (.int .i64 a2)) (hg3_ : w.cell? ⟨g3_, 0, none⟩ = some (.int .i64 a3)) (hg4_ : w.cell? ⟨g4_, 0, none⟩ = some (.bool a4)) (hg5_ : w.cell? ⟨g5_, 0, none⟩ = some (.bool a5)) (hg6_ : w.cell? ⟨g6_, 0, none⟩ = some (.int .i64 a6)) (h : impl_charCuts_1.f k a0 a1 a2 a3 a4 a5 a6 = some r) :
  Calls Tryd.prog 115 #[.pointer (some ⟨g0_, 0, none⟩), .pointer (some ⟨g1_, 0, none⟩), .pointer (some ⟨g2_, 0, none⟩), .pointer (some ⟨g3_, 0, none⟩), .pointer (some ⟨g4_, 0, none⟩), .pointer (some ⟨g5_, 0, none⟩), .pointer (some ⟨g6_, 0, none⟩)] w fun e w' => e = .returned (.bool r) ∧ Drawn0 w w' := by
 have H : (if a0 = 13 then (impl_charCuts_1.j0 k a0 a1 a2 a3 a4 a5 a6 (a1 == 10)) else (impl_charCuts_1.j0 k a0 a1 a2 a3 a4 a5 a6 false)) = some r := h
 clear h
 have HC8 := am H
 clear H
 go_enter Tryd.func115, Tryd.ntmps115
 go_upto_region 1 with (fail)
 go_cut [8] (fun v8 wc => ∃ (kq : Nat) (x8_7 : Bool), v8 = .bool x8_7 ∧ Aside0 (impl_charCuts_1.j0 kq a0 a1 a2 a3 a4 a5 a6 x8_7 = some r) ∧ Aside0 (kq ≤ k) ∧ Drawn0 w wc)
 case first =>
  have H := HC8.out
  clear HC8
  by_cases c9 : a0 = 13
  rotate_left
  ·rw [if_neg c9] at H
   have c9b0 : (a0 == 13) = false := beq_eq_false_iff_ne.mpr c9
   have c9b1 : (a0 != 13) = true := bne_iff_ne.mpr c9
   (first | rw [c9b0] | (simp only [i64_w, i32_w]; rw [c9b0]) | skip)
   have H' := am H
   clear H
   go_wp2
   go_meet
   case rel => exact ⟨_, (false), sr, H', ⟨kl⟩, dz⟩
  rw [if_pos c9] at H
  have c9b0 : (a0 == 13) = true := beq_iff_eq.mpr c9
  have c9b1 : (a0 != 13) = false := bne_eq_false_iff_eq.mpr c9
  clear c9
  (first | rw [c9b0] | (simp only [i64_w, i32_w]; rw [c9b0]) | skip)
  have H' := am H
  clear H
  go_wp2
  go_meet
  case rel => exact ⟨_, ((a1 == 10)), sr, H', ⟨kl⟩, dz⟩
 case rest =>
  clear HC8
  obtain ⟨kq, x8_7, rfl, HA, HJ7, ⟨mc7, rfl⟩⟩ := hcut
  cases kq with
  | zero => exact absurd HA.out (by simp [impl_charCuts_1.j0])
  | succ kj7 =>
   have H := HA.out
   clear HA
   simp only [impl_charCuts_1.j0] at H
   by_cases c10 : x8_7 = true
   ·subst c10
    replace H := iT H
    obtain rfl := Option.some.inj H
    go_wp2
    go_ret
    exact rdd
   replace c10 := Bool.eq_false_iff.mpr c10
   subst c10
   replace H := iF H
   have HC11 := am H
   clear H
   go_upto_region 3 with (fail)
   go_cut [15] (fun v15 wc => ∃ (kq : Nat) (x15_10 : Bool), v15 = .bool x15_10 ∧ Aside0 (impl_charCuts_1.j1 kq a0 a1 a2 a3 a4 a5 a6 x15_10 = some r) ∧ Aside0 (kq ≤ kj7) ∧ Drawn0 w wc)
   case first =>
    have H := HC11.out
    clear HC11
    by_cases c12 : a2 = 1
    rotate_left
    ·rw [if_neg c12] at H
     have c12b0 : (a2 == 1) = false := beq_eq_false_iff_ne.mpr c12
     have c12b1 : (a2 != 1) = true := bne_iff_ne.mpr c12
     (first | rw [c12b0] | (simp only [i64_w, i32_w]; rw [c12b0]) | skip)
     have H' := am H
     clear H
     go_wp2
     go_meet
     case rel => exact ⟨_, ((a3 == 1)), sr, H', ⟨kl⟩, dz⟩
    rw [if_pos c12] at H
    have c12b0 : (a2 == 1) = true := beq_iff_eq.mpr c12
    have c12b1 : (a2 != 1) = false := bne_eq_false_iff_eq.mpr c12
    clear c12
    (first | rw [c12b0] | (simp only [i64_w, i32_w]; rw [c12b0]) | skip)
    have H' := am H
    clear H
    go_wp2
    go_meet
    case rel => exact ⟨_, (true), sr, H', ⟨kl⟩, dz⟩
   case rest =>
    clear HC11
    try clear c10
    obtain ⟨kq, x15_10, rfl, HA, HJ10, ⟨mc10, rfl⟩⟩ := hcut
    cases kq with
    | zero => exact absurd HA.out (by simp [impl_charCuts_1.j1])
    | succ kj10 =>
     have H := HA.out
     clear HA
     simp only [impl_charCuts_1.j1] at H
     by_cases c13 : x15_10 = true
     ·subst c13
      replace H := iT H
      obtain rfl := Option.some.inj H
      go_wp2
      go_ret
      exact rdd
     replace c13 := Bool.eq_false_iff.mpr c13
     subst c13
     replace H := iF H
     have HC14 := am H
     clear H
     go_upto_region 5 with (fail)
     go_cut [22] (fun v22 wc => ∃ (kq : Nat) (x22_13 : Bool), v22 = .bool x22_13 ∧ Aside0 (impl_charCuts_1.j2 kq a0 a1 a2 a3 a4 a5 a6 x22_13 = some r) ∧ Aside0 (kq ≤ kj10) ∧ Drawn0 w wc)
     case first =>
      have H := HC14.out
      clear HC14
      by_cases c15 : a3 = 3
      rotate_left
      ·rw [if_neg c15] at H
       have c15b0 : (a3 == 3) = false := beq_eq_false_iff_ne.mpr c15
       have c15b1 : (a3 != 3) = true := bne_iff_ne.mpr c15
       (first | rw [c15b0] | (simp only [i64_w, i32_w]; rw [c15b0]) | skip)
       have H' := am H
       clear H
       go_wp2
       go_meet
       case rel => exact ⟨_, (false), sr, H', ⟨kl⟩, dz⟩
      rw [if_pos c15] at H
      have c15b0 : (a3 == 3) = true := beq_iff_eq.mpr c15
      have c15b1 : (a3 != 3) = false := bne_eq_false_iff_eq.mpr c15
      clear c15
      (first | rw [c15b0] | (simp only [i64_w, i32_w]; rw [c15b0]) | skip)
      by_cases c16 : a2 = 3
      ·rw [if_pos c16] at H
       have c16b0 : (a2 == 3) = true := beq_iff_eq.mpr c16
       have c16b1 : (a2 != 3) = false := bne_eq_false_iff_eq.mpr c16
       clear c16
       have H' := am H
       clear H
       go_wp2
       go_meet
       case rel => exact ⟨_, (true), sr, H', ⟨kl⟩, dz⟩
      rw [if_neg c16] at H
      have c16b0 : (a2 == 3) = false := beq_eq_false_iff_ne.mpr c16
      have c16b1 : (a2 != 3) = true := bne_iff_ne.mpr c16
      by_cases c17 : a2 = 4
      ·rw [if_pos c17] at H
       have c17b0 : (a2 == 4) = true := beq_iff_eq.mpr c17
       have c17b1 : (a2 != 4) = false := bne_eq_false_iff_eq.mpr c17
       clear c17
       have H' := am H
       clear H
       go_wp2
       go_meet
       case rel => exact ⟨_, (true), sr, H', ⟨kl⟩, dz⟩
      rw [if_neg c17] at H
      have c17b0 : (a2 == 4) = false := beq_eq_false_iff_ne.mpr c17
      have c17b1 : (a2 != 4) = true := bne_iff_ne.mpr c17
      by_cases c18 : a2 = 6
      rotate_left
      ·rw [if_neg c18] at H
       have c18b0 : (a2 == 6) = false := beq_eq_false_iff_ne.mpr c18
       have c18b1 : (a2 != 6) = true := bne_iff_ne.mpr c18
       have H' := am H
       clear H
       go_wp2
       go_meet
       case rel => exact ⟨_, ((a2 == 7)), sr, H', ⟨kl⟩, dz⟩
      rw [if_pos c18] at H
      have c18b0 : (a2 == 6) = true := beq_iff_eq.mpr c18
      have c18b1 : (a2 != 6) = false := bne_eq_false_iff_eq.mpr c18
      clear c18
      have H' := am H
      clear H
      go_wp2
      go_meet
      case rel => exact ⟨_, (true), sr, H', ⟨kl⟩, dz⟩
     case rest =>
      clear HC14
      try clear c13
      obtain ⟨kq, x22_13, rfl, HA, HJ13, ⟨mc13, rfl⟩⟩ := hcut
      cases kq with
      | zero => exact absurd HA.out (by simp [impl_charCuts_1.j2])
      | succ kj13 =>
       have H := HA.out
       clear HA
       simp only [impl_charCuts_1.j2] at H
       by_cases c19 : x22_13 = true
       ·subst c19
        replace H := iT H
        obtain rfl := Option.some.inj H
        go_wp2
        go_ret
        exact rdd
       replace c19 := Bool.eq_false_iff.mpr c19
       subst c19
       replace H := iF H
       have HC20 := am H
       clear H
       go_upto_region 7 with (fail)
       go_cut [41] (fun v41 wc => ∃ (kq : Nat) (x41_19 : Bool), v41 = .bool x41_19 ∧ Aside0 (impl_charCuts_1.j3 kq a0 a1 a2 a3 a4 a5 a6 x41_19 = some r) ∧ Aside0 (kq ≤ kj13) ∧ Drawn0 w wc)
       case first =>
        have H := HC20.out
        clear HC20
        by_cases c21 : a3 = 4
        ·rw [if_pos c21] at H
         have c21b0 : (a3 == 4) = true := beq_iff_eq.mpr c21
         have c21b1 : (a3 != 4) = false := bne_eq_false_iff_eq.mpr c21
         clear c21
         (first | rw [c21b0] | (simp only [i64_w, i32_w]; rw [c21b0]) | skip)
         by_cases c22 : a2 = 4
         rotate_left
         ·rw [if_neg c22] at H
          have c22b0 : (a2 == 4) = false := beq_eq_false_iff_ne.mpr c22
          have c22b1 : (a2 != 4) = true := bne_iff_ne.mpr c22
          have H' := am H
          clear H
          go_wp2
          go_meet
          case rel => exact ⟨_, ((a2 == 5)), sr, H', ⟨kl⟩, dz⟩
         rw [if_pos c22] at H
         have c22b0 : (a2 == 4) = true := beq_iff_eq.mpr c22
         have c22b1 : (a2 != 4) = false := bne_eq_false_iff_eq.mpr c22
         clear c22
         have H' := am H
         clear H
         go_wp2
         go_meet
         case rel => exact ⟨_, (true), sr, H', ⟨kl⟩, dz⟩
        rw [if_neg c21] at H
        have c21b0 : (a3 == 4) = false := beq_eq_false_iff_ne.mpr c21
        have c21b1 : (a3 != 4) = true := bne_iff_ne.mpr c21
        (first | rw [c21b0] | (simp only [i64_w, i32_w]; rw [c21b0]) | skip)
        by_cases c23 : a3 = 6
        rotate_left
        ·rw [if_neg c23] at H
         have c23b0 : (a3 == 6) = false := beq_eq_false_iff_ne.mpr c23
         have c23b1 : (a3 != 6) = true := bne_iff_ne.mpr c23
         have H' := am H
         clear H
         go_wp2
         go_meet
         case rel => exact ⟨_, (false), sr, H', ⟨kl⟩, dz⟩
        rw [if_pos c23] at H
        have c23b0 : (a3 == 6) = true := beq_iff_eq.mpr c23
        have c23b1 : (a3 != 6) = false := bne_eq_false_iff_eq.mpr c23
        clear c23
        by_cases c24 : a2 = 4
        rotate_left
        ·rw [if_neg c24] at H
         have c24b0 : (a2 == 4) = false := beq_eq_false_iff_ne.mpr c24
         have c24b1 : (a2 != 4) = true := bne_iff_ne.mpr c24
         have H' := am H
         clear H
         go_wp2
         go_meet
         case rel => exact ⟨_, ((a2 == 5)), sr, H', ⟨kl⟩, dz⟩
        rw [if_pos c24] at H
        have c24b0 : (a2 == 4) = true := beq_iff_eq.mpr c24
        have c24b1 : (a2 != 4) = false := bne_eq_false_iff_eq.mpr c24
        clear c24
        have H' := am H
        clear H
        go_wp2
        go_meet
        case rel => exact ⟨_, (true), sr, H', ⟨kl⟩, dz⟩
       case rest =>
        clear HC20
        try clear c19
        obtain ⟨kq, x41_19, rfl, HA, HJ19, ⟨mc19, rfl⟩⟩ := hcut
        cases kq with
        | zero => exact absurd HA.out (by simp [impl_charCuts_1.j3])
        | succ kj19 =>
         have H := HA.out
         clear HA
         simp only [impl_charCuts_1.j3] at H
         by_cases c25 : x41_19 = true
         ·subst c25
          replace H := iT H
          obtain rfl := Option.some.inj H
          go_wp2
          go_ret
          exact rdd
         replace c25 := Bool.eq_false_iff.mpr c25
         subst c25
         replace H := iF H
         have HC26 := am H
         clear H
         go_upto_region 9 with (fail)
         go_cut [56] (fun v56 wc => ∃ (kq : Nat) (x56_25 : Bool), v56 = .bool x56_25 ∧ Aside0 (impl_charCuts_1.j4 kq a0 a1 a2 a3 a4 a5 a6 x56_25 = some r) ∧ Aside0 (kq ≤ kj19) ∧ Drawn0 w wc)
         case first =>
          have H := HC26.out
          clear HC26
          by_cases c27 : a3 = 5
          ·rw [if_pos c27] at H
           have c27b0 : (a3 == 5) = true := beq_iff_eq.mpr c27
           have c27b1 : (a3 != 5) = false := bne_eq_false_iff_eq.mpr c27
           clear c27
           (first | rw [c27b0] | (simp only [i64_w, i32_w]; rw [c27b0]) | skip)
           have H' := am H
           clear H
           go_wp2
           go_meet
           case rel => exact ⟨_, ((a2 == 5)), sr, H', ⟨kl⟩, dz⟩
          rw [if_neg c27] at H
          have c27b0 : (a3 == 5) = false := beq_eq_false_iff_ne.mpr c27
          have c27b1 : (a3 != 5) = true := bne_iff_ne.mpr c27
          (first | rw [c27b0] | (simp only [i64_w, i32_w]; rw [c27b0]) | skip)
          by_cases c28 : a3 = 7
          rotate_left
          ·rw [if_neg c28] at H
           have c28b0 : (a3 == 7) = false := beq_eq_false_iff_ne.mpr c28
           have c28b1 : (a3 != 7) = true := bne_iff_ne.mpr c28
           have H' := am H
           clear H
           go_wp2
           go_meet
           case rel => exact ⟨_, (false), sr, H', ⟨kl⟩, dz⟩
          rw [if_pos c28] at H
          have c28b0 : (a3 == 7) = true := beq_iff_eq.mpr c28
          have c28b1 : (a3 != 7) = false := bne_eq_false_iff_eq.mpr c28
          clear c28
          have H' := am H
          clear H
          go_wp2
          go_meet
          case rel => exact ⟨_, ((a2 == 5)), sr, H', ⟨kl⟩, dz⟩
         case rest =>
          clear HC26
          try clear c25
          obtain ⟨kq, x56_25, rfl, HA, HJ25, ⟨mc25, rfl⟩⟩ := hcut
          cases kq with
          | zero => exact absurd HA.out (by simp [impl_charCuts_1.j4])
          | succ kj25 =>
           have H := HA.out
           clear HA
           simp only [impl_charCuts_1.j4] at H
           by_cases c29 : x56_25 = true
           ·subst c29
            replace H := iT H
            obtain rfl := Option.some.inj H
            go_wp2
            go_ret
            exact rdd
           replace c29 := Bool.eq_false_iff.mpr c29
           subst c29
           replace H := iF H
           by_cases c30 : a2 = 2
           ·rw [if_pos c30] at H
            have c30b0 : (a2 == 2) = true := beq_iff_eq.mpr c30
            have c30b1 : (a2 != 2) = false := bne_eq_false_iff_eq.mpr c30
            clear c30
            obtain rfl := Option.some.inj H
            go_wp2
            go_ret
            exact rdd
           rw [if_neg c30] at H
           have c30b0 : (a2 == 2) = false := beq_eq_false_iff_ne.mpr c30
           have c30b1 : (a2 != 2) = true := bne_iff_ne.mpr c30
           have HC31 := am H
           clear H
           go_upto_region 13 with (fail)
           go_cut [70] (fun v70 wc => ∃ (kq : Nat) (x70_30 : Bool), v70 = .bool x70_30 ∧ Aside0 (impl_charCuts_1.j5 kq a0 a2 a3 a5 a6 x70_30 = some r) ∧ Aside0 (kq ≤ kj25) ∧ Drawn0 w wc)
           case first =>
            have H := HC31.out
            clear HC31
            obtain ⟨t421, A32, H⟩ := bb H
            by_cases c33 : t421 = true
            ·subst c33
             replace H := iT H
             have H' := am H
             clear H
             go_wp2_with (first | ((with_reducible refine gate_callee (f := 99) rfl ?_); refine gq 72 Tryd.func99 (impl_in.calls a1 1536 1567 true _ A32.out) fun nd => ?_))
             go_meet
             case rel => exact ⟨_, (a4), sr, H', ⟨kl⟩, dz⟩
            replace c33 := Bool.eq_false_iff.mpr c33
            subst c33
            replace H := iF H
            have H' := am H
            clear H
            go_wp2_with (first | ((with_reducible refine gate_callee (f := 99) rfl ?_); refine gq 72 Tryd.func99 (impl_in.calls a1 1536 1567 false _ A32.out) fun nd => ?_))
            go_meet
            case rel => exact ⟨_, (false), sr, H', ⟨kl⟩, dz⟩
           case rest =>
            clear HC31
            try clear c29
            try clear c30
            try clear c30b0
            try clear c30b1
            obtain ⟨kq, x70_30, rfl, HA, HJ30, ⟨mc30, rfl⟩⟩ := hcut
            cases kq with
            | zero => exact absurd HA.out (by simp [impl_charCuts_1.j5])
            | succ kj30 =>
             have H := HA.out
             clear HA
             simp only [impl_charCuts_1.j5] at H
             by_cases c34 : x70_30 = true
             ·subst c34
              replace H := iT H
              obtain rfl := Option.some.inj H
              go_wp2
              go_ret
              exact rdd
             replace c34 := Bool.eq_false_iff.mpr c34
             subst c34
             replace H := iF H
             have HC35 := am H
             clear H
             go_upto_region 15 with (fail)
             go_cut [76] (fun v76 wc => ∃ (kq : Nat) (x76_34 : Bool), v76 = .bool x76_34 ∧ Aside0 (impl_charCuts_1.j6 kq a2 a3 a6 x76_34 = some r) ∧ Aside0 (kq ≤ kj30) ∧ Drawn0 w wc)
             case first =>
              have H := HC35.out
              clear HC35
              by_cases c36 : a0 = 7936
              rotate_left
              ·rw [if_neg c36] at H
               have c36b0 : (a0 == 7936) = false := beq_eq_false_iff_ne.mpr c36
               have c36b1 : (a0 != 7936) = true := bne_iff_ne.mpr c36
               (first | rw [c36b0] | (simp only [i64_w, i32_w]; rw [c36b0]) | skip)
               have H' := am H
               clear H
               go_wp2
               go_meet
               case rel => exact ⟨_, (false), sr, H', ⟨kl⟩, dz⟩
              rw [if_pos c36] at H
              have c36b0 : (a0 == 7936) = true := beq_iff_eq.mpr c36
              have c36b1 : (a0 != 7936) = false := bne_eq_false_iff_eq.mpr c36
              clear c36
              (first | rw [c36b0] | (simp only [i64_w, i32_w]; rw [c36b0]) | skip)
              by_cases c37 : a2 = 8
              rotate_left
              ·rw [if_neg c37] at H
               have c37b0 : (a2 == 8) = false := beq_eq_false_iff_ne.mpr c37
               have c37b1 : (a2 != 8) = true := bne_iff_ne.mpr c37
               have H' := am H
               clear H
               go_wp2
               go_meet
               case rel => exact ⟨_, (false), sr, H', ⟨kl⟩, dz⟩
              rw [if_pos c37] at H
              have c37b0 : (a2 == 8) = true := beq_iff_eq.mpr c37
              have c37b1 : (a2 != 8) = false := bne_eq_false_iff_eq.mpr c37
              clear c37
              have H' := am H
              clear H
              go_wp2
              go_meet
              case rel => exact ⟨_, (a5), sr, H', ⟨kl⟩, dz⟩
             case rest =>
              clear HC35
              try clear c34
              obtain ⟨kq, x76_34, rfl, HA, HJ34, ⟨mc34, rfl⟩⟩ := hcut
              cases kq with
              | zero => exact absurd HA.out (by simp [impl_charCuts_1.j6])
              | succ kj34 =>
               have H := HA.out
               clear HA
               simp only [impl_charCuts_1.j6] at H
               by_cases c38 : x76_34 = true
               ·subst c38
                replace H := iT H
                obtain rfl := Option.some.inj H
                go_wp2
                go_ret
                exact rdd
               replace c38 := Bool.eq_false_iff.mpr c38
               subst c38
               replace H := iF H
               by_cases c39 : a2 = 9
               rotate_left
               ·rw [if_neg c39] at H
                have c39b0 : (a2 == 9) = false := beq_eq_false_iff_ne.mpr c39
                have c39b1 : (a2 != 9) = true := bne_iff_ne.mpr c39
                obtain rfl := Option.some.inj H
                go_wp2
                go_ret
                exact rdd
               rw [if_pos c39] at H
               have c39b0 : (a2 == 9) = true := beq_iff_eq.mpr c39
               have c39b1 : (a2 != 9) = false := bne_eq_false_iff_eq.mpr c39
               clear c39
               by_cases c40 : a3 = 9
               rotate_left
               ·rw [if_neg c40] at H
                have c40b0 : (a3 == 9) = false := beq_eq_false_iff_ne.mpr c40
                have c40b1 : (a3 != 9) = true := bne_iff_ne.mpr c40
                obtain rfl := Option.some.inj H
                go_wp2
                go_ret
                exact rdd
               rw [if_pos c40] at H
               have c40b0 : (a3 == 9) = true := beq_iff_eq.mpr c40
               have c40b1 : (a3 != 9) = false := bne_eq_false_iff_eq.mpr c40
               clear c40
               by_cases c41 : (Int.tmod a6 2) = 1
               rotate_left
               ·rw [if_neg c41] at H
                have c41b0 : ((Int.tmod a6 2) == 1) = false := beq_eq_false_iff_ne.mpr c41
                have c41b1 : ((Int.tmod a6 2) != 1) = true := bne_iff_ne.mpr c41
                obtain rfl := Option.some.inj H
                go_wp2
                go_ret
                exact rdd
               rw [if_pos c41] at H
               have c41b0 : ((Int.tmod a6 2) == 1) = true := beq_iff_eq.mpr c41
               have c41b1 : ((Int.tmod a6 2) != 1) = false := bne_eq_false_iff_eq.mpr c41
               clear c41
               obtain rfl := Option.some.inj H
               go_wp2
               go_ret
               exact rdd
end Go.Proofs.YtmlhnpggjkoinaaDoor.PFnExactWords

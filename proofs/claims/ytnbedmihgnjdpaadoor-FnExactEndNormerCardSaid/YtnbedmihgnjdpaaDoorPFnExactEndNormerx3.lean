-- Written by a program of this session (wip/tools/myprint.py) that runs the kit's print with hooks of its own. Lean checks it.
import Derived.Test.YtnbedmihgnjdpaaDoorPFnExactEndNormerx0
namespace Go.Proofs.YtnbedmihgnjdpaaDoor.PFnExactEndNormer
open Go.RowKit Go.Proofs.YtnbedmihgnjdpaaDoorW.PrintWords Go.Proofs.YtnbedmihgnjdpaaDoorW.PrintLast Go.Proofs.YtnbedmihgnjdpaaDoorW.PrintMore
attribute [local go_sem] max2_int min2_int max_two min_two max_three min_three max_four min_four   -- for this text's walks alone
set_option linter.unusedVariables false
set_option linter.unusedSimpArgs false

/-! ### spec_l01Class: function 46 -/
def spec_l01Class.j0 : Nat → Int → Bool → Option (Int)
 | 0, _, _ => none
 | k + 1, x0, x13 => if x13 = true then (some 0) else (if (wrap64 (x0 - 4096)) < 16 then (some 230) else (if (wrap64 (x0 - 4096)) < 32 then (some 220) else (if (wrap64 (x0 - 4096)) < 40 then (some 202) else (if (wrap64 (x0 - 4096)) < 48 then (some 1) else (if (wrap64 (x0 - 4096)) < 56 then (some 232) else (some 0))))))
def spec_l01Class.f (k : Nat) (a0 : Int) : Option (Int) := if a0 = 1584 then (some 9) else (if a0 = 1585 then (some 7) else (if a0 < 4096 then (spec_l01Class.j0 k a0 true) else (spec_l01Class.j0 k a0 (decide (a0 > 4159)))))
set_option maxHeartbeats 8000000 in
set_option maxRecDepth 100000 in
theorem spec_l01Class.calls (k : Nat) (a0 : Int) (r : Int) (w : World) (h : spec_l01Class.f k a0 = some r) :
  Calls Tryd.prog 46 #[.int .i64 a0] w fun e w' => e = .returned (.int .i64 r) ∧ Drawn0 w w' := by
 have H : (if a0 = 1584 then (some 9) else (if a0 = 1585 then (some 7) else (if a0 < 4096 then (spec_l01Class.j0 k a0 true) else (spec_l01Class.j0 k a0 (decide (a0 > 4159)))))) = some r := h
 clear h
 by_cases c2 : a0 = 1584
 ·rw [if_pos c2] at H
  have c2b0 : (a0 == 1584) = true := beq_iff_eq.mpr c2
  have c2b1 : (a0 != 1584) = false := bne_eq_false_iff_eq.mpr c2
  clear c2
  obtain rfl := Option.some.inj H
  go_enter Tryd.func46, Tryd.ntmps46
  go_wp2
  go_ret
  exact ⟨by first | rfl | (simp; done) | (simp [*]; done), by repeat (first | exact Drawn0.refl _ | apply Drawn0.step)⟩
 ·rw [if_neg c2] at H
  have c2b0 : (a0 == 1584) = false := beq_eq_false_iff_ne.mpr c2
  have c2b1 : (a0 != 1584) = true := bne_iff_ne.mpr c2
  by_cases c3 : a0 = 1585
  ·rw [if_pos c3] at H
   have c3b0 : (a0 == 1585) = true := beq_iff_eq.mpr c3
   have c3b1 : (a0 != 1585) = false := bne_eq_false_iff_eq.mpr c3
   clear c3
   obtain rfl := Option.some.inj H
   go_enter Tryd.func46, Tryd.ntmps46
   go_wp2
   go_ret
   exact ⟨by first | rfl | (simp; done) | (simp [*]; done), by repeat (first | exact Drawn0.refl _ | apply Drawn0.step)⟩
  ·rw [if_neg c3] at H
   have c3b0 : (a0 == 1585) = false := beq_eq_false_iff_ne.mpr c3
   have c3b1 : (a0 != 1585) = true := bne_iff_ne.mpr c3
   have HC4 := Aside0.mk H
   clear H
   go_enter Tryd.func46, Tryd.ntmps46
   go_upto_region 5 with (fail)
   go_cut [13] (fun v13 wc => ∃ (kq : Nat) (x13_3 : Bool), v13 = .bool x13_3 ∧ Aside0 (spec_l01Class.j0 kq a0 x13_3 = some r) ∧ Aside0 (kq ≤ k) ∧ Drawn0 w wc)
   case first =>
    have H := HC4.out
    clear HC4
    by_cases c5 : a0 < 4096
    ·rw [if_pos c5] at H
     have c5b0 : decide (a0 < 4096) = true := decide_eq_true c5
     clear c5
     (first | rw [c5b0] | (simp only [i64_w, i32_w]; rw [c5b0]) | skip)
     have H' := Aside0.mk H
     clear H
     go_wp2
     go_meet
     case rel => exact ⟨_, (true), (by first | rfl | (simp; done) | (simp [*]; done)), H', ⟨by first | omega | exact Nat.le_refl _⟩, by repeat (first | exact Drawn0.refl _ | apply Drawn0.step)⟩
    ·rw [if_neg c5] at H
     have c5b0 : decide (a0 < 4096) = false := decide_eq_false c5
     clear c5
     (first | rw [c5b0] | (simp only [i64_w, i32_w]; rw [c5b0]) | skip)
     have H' := Aside0.mk H
     clear H
     go_wp2
     go_meet
     case rel => exact ⟨_, (decide (a0 > 4159)), (by first | rfl | (simp; done) | (simp [*]; done)), H', ⟨by first | omega | exact Nat.le_refl _⟩, by repeat (first | exact Drawn0.refl _ | apply Drawn0.step)⟩
   case rest =>
    clear HC4
    try clear c2
    try clear c2b0
    try clear c2b1
    try clear p2
    try clear c3
    try clear c3b0
    try clear c3b1
    try clear c4
    try clear c5
    try clear c5b0
    obtain ⟨kq, x13_3, rfl, HA, HJ3, ⟨mc3, rfl⟩⟩ := hcut
    cases kq with
    | zero => exact absurd HA.out (by simp [spec_l01Class.j0])
    | succ kj3 =>
     have H := HA.out
     clear HA
     simp only [spec_l01Class.j0] at H
     by_cases c6 : x13_3 = true
     ·subst c6
      have H1 : (some 0) = some r := by rw [if_pos rfl] at H; exact H
      clear H
      have H := H1
      clear H1
      obtain rfl := Option.some.inj H
      go_wp2
      go_ret
      exact ⟨by first | rfl | (simp; done) | (simp [*]; done), by repeat (first | exact Drawn0.refl _ | apply Drawn0.step)⟩
     ·replace c6 := Bool.eq_false_iff.mpr c6
      subst c6
      have H1 : (if (wrap64 (a0 - 4096)) < 16 then (some 230) else (if (wrap64 (a0 - 4096)) < 32 then (some 220) else (if (wrap64 (a0 - 4096)) < 40 then (some 202) else (if (wrap64 (a0 - 4096)) < 48 then (some 1) else (if (wrap64 (a0 - 4096)) < 56 then (some 232) else (some 0)))))) = some r := by rw [if_neg (show ¬ (false = true) by decide)] at H; exact H
      clear H
      have H := H1
      clear H1
      by_cases c7 : (wrap64 (a0 - 4096)) < 16
      ·rw [if_pos c7] at H
       have c7b0 : decide ((wrap64 (a0 - 4096)) < 16) = true := decide_eq_true c7
       clear c7
       obtain rfl := Option.some.inj H
       go_wp2
       go_ret
       exact ⟨by first | rfl | (simp; done) | (simp [*]; done), by repeat (first | exact Drawn0.refl _ | apply Drawn0.step)⟩
      ·rw [if_neg c7] at H
       have c7b0 : decide ((wrap64 (a0 - 4096)) < 16) = false := decide_eq_false c7
       clear c7
       by_cases c8 : (wrap64 (a0 - 4096)) < 32
       ·rw [if_pos c8] at H
        have c8b0 : decide ((wrap64 (a0 - 4096)) < 32) = true := decide_eq_true c8
        clear c8
        obtain rfl := Option.some.inj H
        go_wp2
        go_ret
        exact ⟨by first | rfl | (simp; done) | (simp [*]; done), by repeat (first | exact Drawn0.refl _ | apply Drawn0.step)⟩
       ·rw [if_neg c8] at H
        have c8b0 : decide ((wrap64 (a0 - 4096)) < 32) = false := decide_eq_false c8
        clear c8
        by_cases c9 : (wrap64 (a0 - 4096)) < 40
        ·rw [if_pos c9] at H
         have c9b0 : decide ((wrap64 (a0 - 4096)) < 40) = true := decide_eq_true c9
         clear c9
         obtain rfl := Option.some.inj H
         go_wp2
         go_ret
         exact ⟨by first | rfl | (simp; done) | (simp [*]; done), by repeat (first | exact Drawn0.refl _ | apply Drawn0.step)⟩
        ·rw [if_neg c9] at H
         have c9b0 : decide ((wrap64 (a0 - 4096)) < 40) = false := decide_eq_false c9
         clear c9
         by_cases c10 : (wrap64 (a0 - 4096)) < 48
         ·rw [if_pos c10] at H
          have c10b0 : decide ((wrap64 (a0 - 4096)) < 48) = true := decide_eq_true c10
          clear c10
          obtain rfl := Option.some.inj H
          go_wp2
          go_ret
          exact ⟨by first | rfl | (simp; done) | (simp [*]; done), by repeat (first | exact Drawn0.refl _ | apply Drawn0.step)⟩
         ·rw [if_neg c10] at H
          have c10b0 : decide ((wrap64 (a0 - 4096)) < 48) = false := decide_eq_false c10
          clear c10
          by_cases c11 : (wrap64 (a0 - 4096)) < 56
          ·rw [if_pos c11] at H
           have c11b0 : decide ((wrap64 (a0 - 4096)) < 56) = true := decide_eq_true c11
           clear c11
           obtain rfl := Option.some.inj H
           go_wp2
           go_ret
           exact ⟨by first | rfl | (simp; done) | (simp [*]; done), by repeat (first | exact Drawn0.refl _ | apply Drawn0.step)⟩
          ·rw [if_neg c11] at H
           have c11b0 : decide ((wrap64 (a0 - 4096)) < 56) = false := decide_eq_false c11
           clear c11
           obtain rfl := Option.some.inj H
           go_wp2
           go_ret
           exact ⟨by first | rfl | (simp; done) | (simp [*]; done), by repeat (first | exact Drawn0.refl _ | apply Drawn0.step)⟩

/-! ### spec_l05Second: function 49 -/
def spec_l05Second.f (a0 : Int) : Option (Bool) := if a0 ≥ 4096 then (if a0 ≤ 4103 then (some true) else (if a0 ≥ 4112 then (if a0 ≤ 4119 then (some true) else (if a0 ≥ 1824 then (if a0 ≤ 1844 then (some true) else (if a0 ≥ 1857 then (some (decide (a0 ≤ 1883))) else (some false))) else (if a0 ≥ 1857 then (some (decide (a0 ≤ 1883))) else (some false)))) else (if a0 ≥ 1824 then (if a0 ≤ 1844 then (some true) else (if a0 ≥ 1857 then (some (decide (a0 ≤ 1883))) else (some false))) else (if a0 ≥ 1857 then (some (decide (a0 ≤ 1883))) else (some false))))) else (if a0 ≥ 4112 then (if a0 ≤ 4119 then (some true) else (if a0 ≥ 1824 then (if a0 ≤ 1844 then (some true) else (if a0 ≥ 1857 then (some (decide (a0 ≤ 1883))) else (some false))) else (if a0 ≥ 1857 then (some (decide (a0 ≤ 1883))) else (some false)))) else (if a0 ≥ 1824 then (if a0 ≤ 1844 then (some true) else (if a0 ≥ 1857 then (some (decide (a0 ≤ 1883))) else (some false))) else (if a0 ≥ 1857 then (some (decide (a0 ≤ 1883))) else (some false))))
set_option maxHeartbeats 8000000 in
set_option maxRecDepth 100000 in
theorem spec_l05Second.calls (a0 : Int) (r : Bool) (w : World) (h : spec_l05Second.f a0 = some r) :
  Calls Tryd.prog 49 #[.int .i64 a0] w fun e w' => e = .returned (.bool r) ∧ Drawn0 w w' := by
 have H : (if a0 ≥ 4096 then (if a0 ≤ 4103 then (some true) else (if a0 ≥ 4112 then (if a0 ≤ 4119 then (some true) else (if a0 ≥ 1824 then (if a0 ≤ 1844 then (some true) else (if a0 ≥ 1857 then (some (decide (a0 ≤ 1883))) else (some false))) else (if a0 ≥ 1857 then (some (decide (a0 ≤ 1883))) else (some false)))) else (if a0 ≥ 1824 then (if a0 ≤ 1844 then (some true) else (if a0 ≥ 1857 then (some (decide (a0 ≤ 1883))) else (some false))) else (if a0 ≥ 1857 then (some (decide (a0 ≤ 1883))) else (some false))))) else (if a0 ≥ 4112 then (if a0 ≤ 4119 then (some true) else (if a0 ≥ 1824 then (if a0 ≤ 1844 then (some true) else (if a0 ≥ 1857 then (some (decide (a0 ≤ 1883))) else (some false))) else (if a0 ≥ 1857 then (some (decide (a0 ≤ 1883))) else (some false)))) else (if a0 ≥ 1824 then (if a0 ≤ 1844 then (some true) else (if a0 ≥ 1857 then (some (decide (a0 ≤ 1883))) else (some false))) else (if a0 ≥ 1857 then (some (decide (a0 ≤ 1883))) else (some false))))) = some r := h
 clear h
 by_cases c2 : a0 ≥ 4096
 ·rw [if_pos c2] at H
  have c2b0 : decide (4096 ≤ a0) = true := decide_eq_true c2
  clear c2
  by_cases c3 : a0 ≤ 4103
  ·rw [if_pos c3] at H
   have c3b0 : decide (a0 ≤ 4103) = true := decide_eq_true c3
   clear c3
   obtain rfl := Option.some.inj H
   go_enter Tryd.func49, Tryd.ntmps49
   go_wp2
   go_ret
   exact ⟨by first | rfl | (simp; done) | (simp [*]; done), by repeat (first | exact Drawn0.refl _ | apply Drawn0.step)⟩
  ·rw [if_neg c3] at H
   have c3b0 : decide (a0 ≤ 4103) = false := decide_eq_false c3
   clear c3
   by_cases c4 : a0 ≥ 4112
   ·rw [if_pos c4] at H
    have c4b0 : decide (4112 ≤ a0) = true := decide_eq_true c4
    clear c4
    by_cases c5 : a0 ≤ 4119
    ·rw [if_pos c5] at H
     have c5b0 : decide (a0 ≤ 4119) = true := decide_eq_true c5
     clear c5
     obtain rfl := Option.some.inj H
     go_enter Tryd.func49, Tryd.ntmps49
     go_wp2
     go_ret
     exact ⟨by first | rfl | (simp; done) | (simp [*]; done), by repeat (first | exact Drawn0.refl _ | apply Drawn0.step)⟩
    ·rw [if_neg c5] at H
     have c5b0 : decide (a0 ≤ 4119) = false := decide_eq_false c5
     clear c5
     by_cases c6 : a0 ≥ 1824
     ·rw [if_pos c6] at H
      have c6b0 : decide (1824 ≤ a0) = true := decide_eq_true c6
      clear c6
      by_cases c7 : a0 ≤ 1844
      ·rw [if_pos c7] at H
       have c7b0 : decide (a0 ≤ 1844) = true := decide_eq_true c7
       clear c7
       obtain rfl := Option.some.inj H
       go_enter Tryd.func49, Tryd.ntmps49
       go_wp2
       go_ret
       exact ⟨by first | rfl | (simp; done) | (simp [*]; done), by repeat (first | exact Drawn0.refl _ | apply Drawn0.step)⟩
      ·rw [if_neg c7] at H
       have c7b0 : decide (a0 ≤ 1844) = false := decide_eq_false c7
       clear c7
       by_cases c8 : a0 ≥ 1857
       ·rw [if_pos c8] at H
        have c8b0 : decide (1857 ≤ a0) = true := decide_eq_true c8
        clear c8
        obtain rfl := Option.some.inj H
        go_enter Tryd.func49, Tryd.ntmps49
        go_wp2
        go_ret
        exact ⟨by first | rfl | (simp; done) | (simp [*]; done), by repeat (first | exact Drawn0.refl _ | apply Drawn0.step)⟩
       ·rw [if_neg c8] at H
        have c8b0 : decide (1857 ≤ a0) = false := decide_eq_false c8
        clear c8
        obtain rfl := Option.some.inj H
        go_enter Tryd.func49, Tryd.ntmps49
        go_wp2
        go_ret
        exact ⟨by first | rfl | (simp; done) | (simp [*]; done), by repeat (first | exact Drawn0.refl _ | apply Drawn0.step)⟩
     ·rw [if_neg c6] at H
      have c6b0 : decide (1824 ≤ a0) = false := decide_eq_false c6
      clear c6
      by_cases c9 : a0 ≥ 1857
      ·rw [if_pos c9] at H
       have c9b0 : decide (1857 ≤ a0) = true := decide_eq_true c9
       clear c9
       obtain rfl := Option.some.inj H
       go_enter Tryd.func49, Tryd.ntmps49
       go_wp2
       go_ret
       exact ⟨by first | rfl | (simp; done) | (simp [*]; done), by repeat (first | exact Drawn0.refl _ | apply Drawn0.step)⟩
      ·rw [if_neg c9] at H
       have c9b0 : decide (1857 ≤ a0) = false := decide_eq_false c9
       clear c9
       obtain rfl := Option.some.inj H
       go_enter Tryd.func49, Tryd.ntmps49
       go_wp2
       go_ret
       exact ⟨by first | rfl | (simp; done) | (simp [*]; done), by repeat (first | exact Drawn0.refl _ | apply Drawn0.step)⟩
   ·rw [if_neg c4] at H
    have c4b0 : decide (4112 ≤ a0) = false := decide_eq_false c4
    clear c4
    by_cases c10 : a0 ≥ 1824
    ·rw [if_pos c10] at H
     have c10b0 : decide (1824 ≤ a0) = true := decide_eq_true c10
     clear c10
     by_cases c11 : a0 ≤ 1844
     ·rw [if_pos c11] at H
      have c11b0 : decide (a0 ≤ 1844) = true := decide_eq_true c11
      clear c11
      obtain rfl := Option.some.inj H
      go_enter Tryd.func49, Tryd.ntmps49
      go_wp2
      go_ret
      exact ⟨by first | rfl | (simp; done) | (simp [*]; done), by repeat (first | exact Drawn0.refl _ | apply Drawn0.step)⟩
     ·rw [if_neg c11] at H
      have c11b0 : decide (a0 ≤ 1844) = false := decide_eq_false c11
      clear c11
      by_cases c12 : a0 ≥ 1857
      ·rw [if_pos c12] at H
       have c12b0 : decide (1857 ≤ a0) = true := decide_eq_true c12
       clear c12
       obtain rfl := Option.some.inj H
       go_enter Tryd.func49, Tryd.ntmps49
       go_wp2
       go_ret
       exact ⟨by first | rfl | (simp; done) | (simp [*]; done), by repeat (first | exact Drawn0.refl _ | apply Drawn0.step)⟩
      ·rw [if_neg c12] at H
       have c12b0 : decide (1857 ≤ a0) = false := decide_eq_false c12
       clear c12
       obtain rfl := Option.some.inj H
       go_enter Tryd.func49, Tryd.ntmps49
       go_wp2
       go_ret
       exact ⟨by first | rfl | (simp; done) | (simp [*]; done), by repeat (first | exact Drawn0.refl _ | apply Drawn0.step)⟩
    ·rw [if_neg c10] at H
     have c10b0 : decide (1824 ≤ a0) = false := decide_eq_false c10
     clear c10
     by_cases c13 : a0 ≥ 1857
     ·rw [if_pos c13] at H
      have c13b0 : decide (1857 ≤ a0) = true := decide_eq_true c13
      clear c13
      obtain rfl := Option.some.inj H
      go_enter Tryd.func49, Tryd.ntmps49
      go_wp2
      go_ret
      exact ⟨by first | rfl | (simp; done) | (simp [*]; done), by repeat (first | exact Drawn0.refl _ | apply Drawn0.step)⟩
     ·rw [if_neg c13] at H
      have c13b0 : decide (1857 ≤ a0) = false := decide_eq_false c13
      clear c13
      obtain rfl := Option.some.inj H
      go_enter Tryd.func49, Tryd.ntmps49
      go_wp2
      go_ret
      exact ⟨by first | rfl | (simp; done) | (simp [*]; done), by repeat (first | exact Drawn0.refl _ | apply Drawn0.step)⟩
 ·rw [if_neg c2] at H
  have c2b0 : decide (4096 ≤ a0) = false := decide_eq_false c2
  clear c2
  by_cases c14 : a0 ≥ 4112
  ·rw [if_pos c14] at H
   have c14b0 : decide (4112 ≤ a0) = true := decide_eq_true c14
   clear c14
   by_cases c15 : a0 ≤ 4119
   ·rw [if_pos c15] at H
    have c15b0 : decide (a0 ≤ 4119) = true := decide_eq_true c15
    clear c15
    obtain rfl := Option.some.inj H
    go_enter Tryd.func49, Tryd.ntmps49
    go_wp2
    go_ret
    exact ⟨by first | rfl | (simp; done) | (simp [*]; done), by repeat (first | exact Drawn0.refl _ | apply Drawn0.step)⟩
   ·rw [if_neg c15] at H
    have c15b0 : decide (a0 ≤ 4119) = false := decide_eq_false c15
    clear c15
    by_cases c16 : a0 ≥ 1824
    ·rw [if_pos c16] at H
     have c16b0 : decide (1824 ≤ a0) = true := decide_eq_true c16
     clear c16
     by_cases c17 : a0 ≤ 1844
     ·rw [if_pos c17] at H
      have c17b0 : decide (a0 ≤ 1844) = true := decide_eq_true c17
      clear c17
      obtain rfl := Option.some.inj H
      go_enter Tryd.func49, Tryd.ntmps49
      go_wp2
      go_ret
      exact ⟨by first | rfl | (simp; done) | (simp [*]; done), by repeat (first | exact Drawn0.refl _ | apply Drawn0.step)⟩
     ·rw [if_neg c17] at H
      have c17b0 : decide (a0 ≤ 1844) = false := decide_eq_false c17
      clear c17
      by_cases c18 : a0 ≥ 1857
      ·rw [if_pos c18] at H
       have c18b0 : decide (1857 ≤ a0) = true := decide_eq_true c18
       clear c18
       obtain rfl := Option.some.inj H
       go_enter Tryd.func49, Tryd.ntmps49
       go_wp2
       go_ret
       exact ⟨by first | rfl | (simp; done) | (simp [*]; done), by repeat (first | exact Drawn0.refl _ | apply Drawn0.step)⟩
      ·rw [if_neg c18] at H
       have c18b0 : decide (1857 ≤ a0) = false := decide_eq_false c18
       clear c18
       obtain rfl := Option.some.inj H
       go_enter Tryd.func49, Tryd.ntmps49
       go_wp2
       go_ret
       exact ⟨by first | rfl | (simp; done) | (simp [*]; done), by repeat (first | exact Drawn0.refl _ | apply Drawn0.step)⟩
    ·rw [if_neg c16] at H
     have c16b0 : decide (1824 ≤ a0) = false := decide_eq_false c16
     clear c16
     by_cases c19 : a0 ≥ 1857
     ·rw [if_pos c19] at H
      have c19b0 : decide (1857 ≤ a0) = true := decide_eq_true c19
      clear c19
      obtain rfl := Option.some.inj H
      go_enter Tryd.func49, Tryd.ntmps49
      go_wp2
      go_ret
      exact ⟨by first | rfl | (simp; done) | (simp [*]; done), by repeat (first | exact Drawn0.refl _ | apply Drawn0.step)⟩
     ·rw [if_neg c19] at H
      have c19b0 : decide (1857 ≤ a0) = false := decide_eq_false c19
      clear c19
      obtain rfl := Option.some.inj H
      go_enter Tryd.func49, Tryd.ntmps49
      go_wp2
      go_ret
      exact ⟨by first | rfl | (simp; done) | (simp [*]; done), by repeat (first | exact Drawn0.refl _ | apply Drawn0.step)⟩
  ·rw [if_neg c14] at H
   have c14b0 : decide (4112 ≤ a0) = false := decide_eq_false c14
   clear c14
   by_cases c20 : a0 ≥ 1824
   ·rw [if_pos c20] at H
    have c20b0 : decide (1824 ≤ a0) = true := decide_eq_true c20
    clear c20
    by_cases c21 : a0 ≤ 1844
    ·rw [if_pos c21] at H
     have c21b0 : decide (a0 ≤ 1844) = true := decide_eq_true c21
     clear c21
     obtain rfl := Option.some.inj H
     go_enter Tryd.func49, Tryd.ntmps49
     go_wp2
     go_ret
     exact ⟨by first | rfl | (simp; done) | (simp [*]; done), by repeat (first | exact Drawn0.refl _ | apply Drawn0.step)⟩
    ·rw [if_neg c21] at H
     have c21b0 : decide (a0 ≤ 1844) = false := decide_eq_false c21
     clear c21
     by_cases c22 : a0 ≥ 1857
     ·rw [if_pos c22] at H
      have c22b0 : decide (1857 ≤ a0) = true := decide_eq_true c22
      clear c22
      obtain rfl := Option.some.inj H
      go_enter Tryd.func49, Tryd.ntmps49
      go_wp2
      go_ret
      exact ⟨by first | rfl | (simp; done) | (simp [*]; done), by repeat (first | exact Drawn0.refl _ | apply Drawn0.step)⟩
     ·rw [if_neg c22] at H
      have c22b0 : decide (1857 ≤ a0) = false := decide_eq_false c22
      clear c22
      obtain rfl := Option.some.inj H
      go_enter Tryd.func49, Tryd.ntmps49
      go_wp2
      go_ret
      exact ⟨by first | rfl | (simp; done) | (simp [*]; done), by repeat (first | exact Drawn0.refl _ | apply Drawn0.step)⟩
   ·rw [if_neg c20] at H
    have c20b0 : decide (1824 ≤ a0) = false := decide_eq_false c20
    clear c20
    by_cases c23 : a0 ≥ 1857
    ·rw [if_pos c23] at H
     have c23b0 : decide (1857 ≤ a0) = true := decide_eq_true c23
     clear c23
     obtain rfl := Option.some.inj H
     go_enter Tryd.func49, Tryd.ntmps49
     go_wp2
     go_ret
     exact ⟨by first | rfl | (simp; done) | (simp [*]; done), by repeat (first | exact Drawn0.refl _ | apply Drawn0.step)⟩
    ·rw [if_neg c23] at H
     have c23b0 : decide (1857 ≤ a0) = false := decide_eq_false c23
     clear c23
     obtain rfl := Option.some.inj H
     go_enter Tryd.func49, Tryd.ntmps49
     go_wp2
     go_ret
     exact ⟨by first | rfl | (simp; done) | (simp [*]; done), by repeat (first | exact Drawn0.refl _ | apply Drawn0.step)⟩

/-! ### spec_l05Letter: function 97 -/
def spec_l05Letter.f (a0 : Int) : Option (Int) := if a0 < 26 then (some (wrap64 (65 + a0))) else (some (wrap64 ((wrap64 (97 + a0)) - 26)))
set_option maxHeartbeats 8000000 in
set_option maxRecDepth 100000 in
theorem spec_l05Letter.calls (a0 : Int) (r : Int) (w : World) (h : spec_l05Letter.f a0 = some r) :
  Calls Tryd.prog 97 #[.int .i64 a0] w fun e w' => e = .returned (.int .i64 r) ∧ Drawn0 w w' := by
 have H : (if a0 < 26 then (some (wrap64 (65 + a0))) else (some (wrap64 ((wrap64 (97 + a0)) - 26)))) = some r := h
 clear h
 by_cases c2 : a0 < 26
 ·rw [if_pos c2] at H
  have c2b0 : decide (a0 < 26) = true := decide_eq_true c2
  clear c2
  obtain rfl := Option.some.inj H
  go_enter Tryd.func97, Tryd.ntmps97
  go_wp2
  go_ret
  exact ⟨by first | rfl | (simp; done) | (simp [*]; done), by repeat (first | exact Drawn0.refl _ | apply Drawn0.step)⟩
 ·rw [if_neg c2] at H
  have c2b0 : decide (a0 < 26) = false := decide_eq_false c2
  clear c2
  obtain rfl := Option.some.inj H
  go_enter Tryd.func97, Tryd.ntmps97
  go_wp2
  go_ret
  exact ⟨by first | rfl | (simp; done) | (simp [*]; done), by repeat (first | exact Drawn0.refl _ | apply Drawn0.step)⟩

end Go.Proofs.YtnbedmihgnjdpaaDoor.PFnExactEndNormer

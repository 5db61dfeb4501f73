-- Written by a program of this session (wip/tools/myprint.py) that runs the kit's print with hooks of its own. Lean checks it.
import Derived.Test.YtnbedmihgnjdpaaDoorPFnExactQuickCheckx0
import Derived.Test.YtnbedmihgnjdpaaDoorPFnExactQuickCheckx1
import Derived.Test.YtnbedmihgnjdpaaDoorPFnExactQuickCheckx2
import Derived.Test.YtnbedmihgnjdpaaDoorPFnExactQuickCheckx5
namespace Go.Proofs.YtnbedmihgnjdpaaDoor.PFnExactQuickCheck
open Go.RowKit Go.Proofs.YtnbedmihgnjdpaaDoorW.PrintWords Go.Proofs.YtnbedmihgnjdpaaDoorW.PrintLast Go.Proofs.YtnbedmihgnjdpaaDoorW.PrintMore
attribute [local go_sem] max2_int min2_int max_two min_two max_three min_three max_four min_four   -- for this text's walks alone
set_option linter.unusedVariables false
set_option linter.unusedSimpArgs false

/-! ### spec_l05Second: function 49 -/
def spec_l05Second.f (a0 : Int) : Option (Bool) := if a0 ≥ 4096 then (if a0 ≤ 4103 then (some true) else (if a0 ≥ 4112 then (if a0 ≤ 4119 then (some true) else (if a0 ≥ 1824 then (if a0 ≤ 1844 then (some true) else (if a0 ≥ 1857 then (some (decide (a0 ≤ 1883))) else (some false))) else (if a0 ≥ 1857 then (some (decide (a0 ≤ 1883))) else (some false)))) else (if a0 ≥ 1824 then (if a0 ≤ 1844 then (some true) else (if a0 ≥ 1857 then (some (decide (a0 ≤ 1883))) else (some false))) else (if a0 ≥ 1857 then (some (decide (a0 ≤ 1883))) else (some false))))) else (if a0 ≥ 4112 then (if a0 ≤ 4119 then (some true) else (if a0 ≥ 1824 then (if a0 ≤ 1844 then (some true) else (if a0 ≥ 1857 then (some (decide (a0 ≤ 1883))) else (some false))) else (if a0 ≥ 1857 then (some (decide (a0 ≤ 1883))) else (some false)))) else (if a0 ≥ 1824 then (if a0 ≤ 1844 then (some true) else (if a0 ≥ 1857 then (some (decide (a0 ≤ 1883))) else (some false))) else (if a0 ≥ 1857 then (some (decide (a0 ≤ 1883))) else (some false))))
set_option maxHeartbeats 8000000 in
set_option maxRecDepth 100000 in
theorem spec_l05Second.calls (a0 : Int) (r : Bool) (w : World) (h : spec_l05Second.f a0 = some r) :
  Calls Tryd.prog 49 #[.int .i64 a0] w fun e w' => e = .returned (.bool r) ∧ Drawn0 w w' := by
 have H : (if a0 ≥ 4096 then (if a0 ≤ 4103 then (some true) else (if a0 ≥ 4112 then (if a0 ≤ 4119 then (some true) else (if a0 ≥ 1824 then (if a0 ≤ 1844 then (some true) else (if a0 ≥ 1857 then (some (decide (a0 ≤ 1883))) else (some false))) else (if a0 ≥ 1857 then (some (decide (a0 ≤ 1883))) else (some false)))) else (if a0 ≥ 1824 then (if a0 ≤ 1844 then (some true) else (if a0 ≥ 1857 then (some (decide (a0 ≤ 1883))) else (some false))) else (if a0 ≥ 1857 then (some (decide (a0 ≤ 1883))) else (some false))))) else (if a0 ≥ 4112 then (if a0 ≤ 4119 then (some true) else (if a0 ≥ 1824 then (if a0 ≤ 1844 then (some true) else (if a0 ≥ 1857 then (some (decide (a0 ≤ 1883))) else (some false))) else (if a0 ≥ 1857 then (some (decide (a0 ≤ 1883))) else (some false)))) else (if a0 ≥ 1824 then (if a0 ≤ 1844 then (some true) else (if a0 ≥ 1857 then (some (decide (a0 ≤ 1883))) else (some false))) else (if a0 ≥ 1857 then (some (decide (a0 ≤ 1883))) else (some false))))) = some r := h
 clear h
 by_cases c2 : a0 ≥ 4096
 ·rw [if_pos c2] at H
  have c2b0 : decide (4096 ≤ a0) = true := decide_eq_true c2
  clear c2
  by_cases c3 : a0 ≤ 4103
  ·rw [if_pos c3] at H
   have c3b0 : decide (a0 ≤ 4103) = true := decide_eq_true c3
   clear c3
   obtain rfl := Option.some.inj H
   go_enter Tryd.func49, Tryd.ntmps49
   go_wp2
   go_ret
   exact ⟨by first | rfl | (simp; done) | (simp [*]; done), by repeat (first | exact Drawn0.refl _ | apply Drawn0.step)⟩
  ·rw [if_neg c3] at H
   have c3b0 : decide (a0 ≤ 4103) = false := decide_eq_false c3
   clear c3
   by_cases c4 : a0 ≥ 4112
   ·rw [if_pos c4] at H
    have c4b0 : decide (4112 ≤ a0) = true := decide_eq_true c4
    clear c4
    by_cases c5 : a0 ≤ 4119
    ·rw [if_pos c5] at H
     have c5b0 : decide (a0 ≤ 4119) = true := decide_eq_true c5
     clear c5
     obtain rfl := Option.some.inj H
     go_enter Tryd.func49, Tryd.ntmps49
     go_wp2
     go_ret
     exact ⟨by first | rfl | (simp; done) | (simp [*]; done), by repeat (first | exact Drawn0.refl _ | apply Drawn0.step)⟩
    ·rw [if_neg c5] at H
     have c5b0 : decide (a0 ≤ 4119) = false := decide_eq_false c5
     clear c5
     by_cases c6 : a0 ≥ 1824
     ·rw [if_pos c6] at H
      have c6b0 : decide (1824 ≤ a0) = true := decide_eq_true c6
      clear c6
      by_cases c7 : a0 ≤ 1844
      ·rw [if_pos c7] at H
       have c7b0 : decide (a0 ≤ 1844) = true := decide_eq_true c7
       clear c7
       obtain rfl := Option.some.inj H
       go_enter Tryd.func49, Tryd.ntmps49
       go_wp2
       go_ret
       exact ⟨by first | rfl | (simp; done) | (simp [*]; done), by repeat (first | exact Drawn0.refl _ | apply Drawn0.step)⟩
      ·rw [if_neg c7] at H
       have c7b0 : decide (a0 ≤ 1844) = false := decide_eq_false c7
       clear c7
       by_cases c8 : a0 ≥ 1857
       ·rw [if_pos c8] at H
        have c8b0 : decide (1857 ≤ a0) = true := decide_eq_true c8
        clear c8
        obtain rfl := Option.some.inj H
        go_enter Tryd.func49, Tryd.ntmps49
        go_wp2
        go_ret
        exact ⟨by first | rfl | (simp; done) | (simp [*]; done), by repeat (first | exact Drawn0.refl _ | apply Drawn0.step)⟩
       ·rw [if_neg c8] at H
        have c8b0 : decide (1857 ≤ a0) = false := decide_eq_false c8
        clear c8
        obtain rfl := Option.some.inj H
        go_enter Tryd.func49, Tryd.ntmps49
        go_wp2
        go_ret
        exact ⟨by first | rfl | (simp; done) | (simp [*]; done), by repeat (first | exact Drawn0.refl _ | apply Drawn0.step)⟩
     ·rw [if_neg c6] at H
      have c6b0 : decide (1824 ≤ a0) = false := decide_eq_false c6
      clear c6
      by_cases c9 : a0 ≥ 1857
      ·rw [if_pos c9] at H
       have c9b0 : decide (1857 ≤ a0) = true := decide_eq_true c9
       clear c9
       obtain rfl := Option.some.inj H
       go_enter Tryd.func49, Tryd.ntmps49
       go_wp2
       go_ret
       exact ⟨by first | rfl | (simp; done) | (simp [*]; done), by repeat (first | exact Drawn0.refl _ | apply Drawn0.step)⟩
      ·rw [if_neg c9] at H
       have c9b0 : decide (1857 ≤ a0) = false := decide_eq_false c9
       clear c9
       obtain rfl := Option.some.inj H
       go_enter Tryd.func49, Tryd.ntmps49
       go_wp2
       go_ret
       exact ⟨by first | rfl | (simp; done) | (simp [*]; done), by repeat (first | exact Drawn0.refl _ | apply Drawn0.step)⟩
   ·rw [if_neg c4] at H
    have c4b0 : decide (4112 ≤ a0) = false := decide_eq_false c4
    clear c4
    by_cases c10 : a0 ≥ 1824
    ·rw [if_pos c10] at H
     have c10b0 : decide (1824 ≤ a0) = true := decide_eq_true c10
     clear c10
     by_cases c11 : a0 ≤ 1844
     ·rw [if_pos c11] at H
      have c11b0 : decide (a0 ≤ 1844) = true := decide_eq_true c11
      clear c11
      obtain rfl := Option.some.inj H
      go_enter Tryd.func49, Tryd.ntmps49
      go_wp2
      go_ret
      exact ⟨by first | rfl | (simp; done) | (simp [*]; done), by repeat (first | exact Drawn0.refl _ | apply Drawn0.step)⟩
     ·rw [if_neg c11] at H
      have c11b0 : decide (a0 ≤ 1844) = false := decide_eq_false c11
      clear c11
      by_cases c12 : a0 ≥ 1857
      ·rw [if_pos c12] at H
       have c12b0 : decide (1857 ≤ a0) = true := decide_eq_true c12
       clear c12
       obtain rfl := Option.some.inj H
       go_enter Tryd.func49, Tryd.ntmps49
       go_wp2
       go_ret
       exact ⟨by first | rfl | (simp; done) | (simp [*]; done), by repeat (first | exact Drawn0.refl _ | apply Drawn0.step)⟩
      ·rw [if_neg c12] at H
       have c12b0 : decide (1857 ≤ a0) = false := decide_eq_false c12
       clear c12
       obtain rfl := Option.some.inj H
       go_enter Tryd.func49, Tryd.ntmps49
       go_wp2
       go_ret
       exact ⟨by first | rfl | (simp; done) | (simp [*]; done), by repeat (first | exact Drawn0.refl _ | apply Drawn0.step)⟩
    ·rw [if_neg c10] at H
     have c10b0 : decide (1824 ≤ a0) = false := decide_eq_false c10
     clear c10
     by_cases c13 : a0 ≥ 1857
     ·rw [if_pos c13] at H
      have c13b0 : decide (1857 ≤ a0) = true := decide_eq_true c13
      clear c13
      obtain rfl := Option.some.inj H
      go_enter Tryd.func49, Tryd.ntmps49
      go_wp2
      go_ret
      exact ⟨by first | rfl | (simp; done) | (simp [*]; done), by repeat (first | exact Drawn0.refl _ | apply Drawn0.step)⟩
     ·rw [if_neg c13] at H
      have c13b0 : decide (1857 ≤ a0) = false := decide_eq_false c13
      clear c13
      obtain rfl := Option.some.inj H
      go_enter Tryd.func49, Tryd.ntmps49
      go_wp2
      go_ret
      exact ⟨by first | rfl | (simp; done) | (simp [*]; done), by repeat (first | exact Drawn0.refl _ | apply Drawn0.step)⟩
 ·rw [if_neg c2] at H
  have c2b0 : decide (4096 ≤ a0) = false := decide_eq_false c2
  clear c2
  by_cases c14 : a0 ≥ 4112
  ·rw [if_pos c14] at H
   have c14b0 : decide (4112 ≤ a0) = true := decide_eq_true c14
   clear c14
   by_cases c15 : a0 ≤ 4119
   ·rw [if_pos c15] at H
    have c15b0 : decide (a0 ≤ 4119) = true := decide_eq_true c15
    clear c15
    obtain rfl := Option.some.inj H
    go_enter Tryd.func49, Tryd.ntmps49
    go_wp2
    go_ret
    exact ⟨by first | rfl | (simp; done) | (simp [*]; done), by repeat (first | exact Drawn0.refl _ | apply Drawn0.step)⟩
   ·rw [if_neg c15] at H
    have c15b0 : decide (a0 ≤ 4119) = false := decide_eq_false c15
    clear c15
    by_cases c16 : a0 ≥ 1824
    ·rw [if_pos c16] at H
     have c16b0 : decide (1824 ≤ a0) = true := decide_eq_true c16
     clear c16
     by_cases c17 : a0 ≤ 1844
     ·rw [if_pos c17] at H
      have c17b0 : decide (a0 ≤ 1844) = true := decide_eq_true c17
      clear c17
      obtain rfl := Option.some.inj H
      go_enter Tryd.func49, Tryd.ntmps49
      go_wp2
      go_ret
      exact ⟨by first | rfl | (simp; done) | (simp [*]; done), by repeat (first | exact Drawn0.refl _ | apply Drawn0.step)⟩
     ·rw [if_neg c17] at H
      have c17b0 : decide (a0 ≤ 1844) = false := decide_eq_false c17
      clear c17
      by_cases c18 : a0 ≥ 1857
      ·rw [if_pos c18] at H
       have c18b0 : decide (1857 ≤ a0) = true := decide_eq_true c18
       clear c18
       obtain rfl := Option.some.inj H
       go_enter Tryd.func49, Tryd.ntmps49
       go_wp2
       go_ret
       exact ⟨by first | rfl | (simp; done) | (simp [*]; done), by repeat (first | exact Drawn0.refl _ | apply Drawn0.step)⟩
      ·rw [if_neg c18] at H
       have c18b0 : decide (1857 ≤ a0) = false := decide_eq_false c18
       clear c18
       obtain rfl := Option.some.inj H
       go_enter Tryd.func49, Tryd.ntmps49
       go_wp2
       go_ret
       exact ⟨by first | rfl | (simp; done) | (simp [*]; done), by repeat (first | exact Drawn0.refl _ | apply Drawn0.step)⟩
    ·rw [if_neg c16] at H
     have c16b0 : decide (1824 ≤ a0) = false := decide_eq_false c16
     clear c16
     by_cases c19 : a0 ≥ 1857
     ·rw [if_pos c19] at H
      have c19b0 : decide (1857 ≤ a0) = true := decide_eq_true c19
      clear c19
      obtain rfl := Option.some.inj H
      go_enter Tryd.func49, Tryd.ntmps49
      go_wp2
      go_ret
      exact ⟨by first | rfl | (simp; done) | (simp [*]; done), by repeat (first | exact Drawn0.refl _ | apply Drawn0.step)⟩
     ·rw [if_neg c19] at H
      have c19b0 : decide (1857 ≤ a0) = false := decide_eq_false c19
      clear c19
      obtain rfl := Option.some.inj H
      go_enter Tryd.func49, Tryd.ntmps49
      go_wp2
      go_ret
      exact ⟨by first | rfl | (simp; done) | (simp [*]; done), by repeat (first | exact Drawn0.refl _ | apply Drawn0.step)⟩
  ·rw [if_neg c14] at H
   have c14b0 : decide (4112 ≤ a0) = false := decide_eq_false c14
   clear c14
   by_cases c20 : a0 ≥ 1824
   ·rw [if_pos c20] at H
    have c20b0 : decide (1824 ≤ a0) = true := decide_eq_true c20
    clear c20
    by_cases c21 : a0 ≤ 1844
    ·rw [if_pos c21] at H
     have c21b0 : decide (a0 ≤ 1844) = true := decide_eq_true c21
     clear c21
     obtain rfl := Option.some.inj H
     go_enter Tryd.func49, Tryd.ntmps49
     go_wp2
     go_ret
     exact ⟨by first | rfl | (simp; done) | (simp [*]; done), by repeat (first | exact Drawn0.refl _ | apply Drawn0.step)⟩
    ·rw [if_neg c21] at H
     have c21b0 : decide (a0 ≤ 1844) = false := decide_eq_false c21
     clear c21
     by_cases c22 : a0 ≥ 1857
     ·rw [if_pos c22] at H
      have c22b0 : decide (1857 ≤ a0) = true := decide_eq_true c22
      clear c22
      obtain rfl := Option.some.inj H
      go_enter Tryd.func49, Tryd.ntmps49
      go_wp2
      go_ret
      exact ⟨by first | rfl | (simp; done) | (simp [*]; done), by repeat (first | exact Drawn0.refl _ | apply Drawn0.step)⟩
     ·rw [if_neg c22] at H
      have c22b0 : decide (1857 ≤ a0) = false := decide_eq_false c22
      clear c22
      obtain rfl := Option.some.inj H
      go_enter Tryd.func49, Tryd.ntmps49
      go_wp2
      go_ret
      exact ⟨by first | rfl | (simp; done) | (simp [*]; done), by repeat (first | exact Drawn0.refl _ | apply Drawn0.step)⟩
   ·rw [if_neg c20] at H
    have c20b0 : decide (1824 ≤ a0) = false := decide_eq_false c20
    clear c20
    by_cases c23 : a0 ≥ 1857
    ·rw [if_pos c23] at H
     have c23b0 : decide (1857 ≤ a0) = true := decide_eq_true c23
     clear c23
     obtain rfl := Option.some.inj H
     go_enter Tryd.func49, Tryd.ntmps49
     go_wp2
     go_ret
     exact ⟨by first | rfl | (simp; done) | (simp [*]; done), by repeat (first | exact Drawn0.refl _ | apply Drawn0.step)⟩
    ·rw [if_neg c23] at H
     have c23b0 : decide (1857 ≤ a0) = false := decide_eq_false c23
     clear c23
     obtain rfl := Option.some.inj H
     go_enter Tryd.func49, Tryd.ntmps49
     go_wp2
     go_ret
     exact ⟨by first | rfl | (simp; done) | (simp [*]; done), by repeat (first | exact Drawn0.refl _ | apply Drawn0.step)⟩

/-! ### spec_QuickCheck: function 16 -/
mutual
def spec_QuickCheck.j0 : Nat → Int → ByteArray → Bool → Option (Int)
 | 0, _, _, _ => none
 | k + 1, x0, x1, x20 => if x20 = true then (some 0) else (spec_QuickCheck.l0 k x0 x1 0 1 0)
def spec_QuickCheck.l0 : Nat → Int → ByteArray → Int → Int → Int → Option (Int)
 | 0, _, _, _, _, _ => none
 | k + 1, x0, x1, x5, x6, x7 => if x7 < (x1.size : Int) then ((spec_l01Next.f k x1 x7).bind fun bt230 => ((spec_l01Class.f k bt230.1).bind fun t233 => (if bt230.2.2 = true then (if t233 = 0 then (spec_QuickCheck.j2 k x0 x1 x6 x7 bt230.1 bt230.2.1 t233 false) else (spec_QuickCheck.j2 k x0 x1 x6 x7 bt230.1 bt230.2.1 t233 (decide (t233 < x5)))) else (spec_QuickCheck.j2 k x0 x1 x6 x7 bt230.1 bt230.2.1 t233 true)))) else (some x6)
def spec_QuickCheck.j2 : Nat → Int → ByteArray → Int → Int → Int → Int → Int → Bool → Option (Int)
 | 0, _, _, _, _, _, _, _, _ => none
 | k + 1, x0, x1, x6, x7, x8, x9, x11, x44 => if x44 = true then (some 2) else ((spec_l05Norm.f k x0 (([x8] : List Int))).bind fun t237 => (if (t237.length : Int) = 1 then (if 0 < (t237.length : Int) then (spec_QuickCheck.j3 k x0 x1 x6 x7 x8 x9 x11 ((rd t237 0) != x8)) else (none)) else (spec_QuickCheck.j3 k x0 x1 x6 x7 x8 x9 x11 true)))
def spec_QuickCheck.j3 : Nat → Int → ByteArray → Int → Int → Int → Int → Int → Bool → Option (Int)
 | 0, _, _, _, _, _, _, _, _ => none
 | k + 1, x0, x1, x6, x7, x8, x9, x11, x58 => if x58 = true then (some 2) else ((spec_l05C.f x0).bind fun t241 => (if t241 = true then ((spec_l05Second.f x8).bind fun t242 => (if t242 = true then (spec_QuickCheck.l0 k x0 x1 x11 3 (wrap64 (x7 + x9))) else (spec_QuickCheck.l0 k x0 x1 x11 x6 (wrap64 (x7 + x9))))) else (spec_QuickCheck.l0 k x0 x1 x11 x6 (wrap64 (x7 + x9)))))
end
def spec_QuickCheck.f (k : Nat) (a0 : Int) (a1 : ByteArray) : Option (Int) := if (a1.size : Int) > 65536 then (spec_QuickCheck.j0 k a0 a1 true) else ((spec_l05IsForm.f a0).bind fun t229 => (spec_QuickCheck.j0 k a0 a1 (!t229)))
set_option maxHeartbeats 8000000 in
set_option maxRecDepth 100000 in
theorem spec_QuickCheck.calls (k : Nat) (a0 : Int) (a1 : ByteArray) (r : Int) (w : World) (h : spec_QuickCheck.f k a0 a1 = some r) :
  Calls Tryd.prog 16 #[.int .i64 a0, .string a1] w fun e w' => e = .returned (.int .i64 r) ∧ Below w.heap.size w w' := by
 have HB := Aside0.mk (Below.refl w.heap.size w)
 have H : (if (a1.size : Int) > 65536 then (spec_QuickCheck.j0 k a0 a1 true) else ((spec_l05IsForm.f a0).bind fun t229 => (spec_QuickCheck.j0 k a0 a1 (!t229)))) = some r := h
 clear h
 have HC3 := Aside0.mk H
 clear H
 go_enter Tryd.func16, Tryd.ntmps16
 go_upto_region 1 with (fail)
 go_cut [20] (fun v20 wc => ∃ (kq : Nat) (x20_2 : Bool), v20 = .bool x20_2 ∧ Aside0 (spec_QuickCheck.j0 kq a0 a1 x20_2 = some r) ∧ Aside0 (kq ≤ k) ∧ Aside0 (Below w.heap.size w wc))
 case first =>
  have H := HC3.out
  clear HC3
  by_cases c4 : (a1.size : Int) > 65536
  ·rw [if_pos c4] at H
   have c4b0 : decide (65536 < (a1.size : Int)) = true := decide_eq_true c4
   have c4b1 : decide (65536 < a1.size) = true := decide_eq_true (by omega)
   clear c4
   (first | rw [c4b0] | (simp only [i64_w, i32_w]; rw [c4b0]) | skip)
   have H' := Aside0.mk H
   clear H
   go_wp2
   go_meet
   case rel => exact ⟨_, (true), (by first | rfl | (simp; done) | (simp [*]; done)), H', ⟨by first | omega | exact Nat.le_refl _⟩, ⟨by repeat (first | (with_reducible first | exact HB.out | apply below_alloc | apply pw_below_drewN | apply below_drew1) | exact HB.out)⟩⟩
  ·rw [if_neg c4] at H
   have c4b0 : decide (65536 < (a1.size : Int)) = false := decide_eq_false c4
   have c4b1 : decide (65536 < a1.size) = false := decide_eq_false (by omega)
   clear c4
   (first | rw [c4b0] | (simp only [i64_w, i32_w]; rw [c4b0]) | skip)
   replace H := Option.bind_eq_some_iff.mp H
   obtain ⟨t229, A50, H⟩ := H
   replace H : (spec_QuickCheck.j0 k a0 a1 (!t229)) = some r := H
   have A5 := Aside0.mk A50
   clear A50
   have H' := Aside0.mk H
   clear H
   go_wp2_with (first | (go_at_call 36; (with_reducible refine (spec_l05IsForm.calls a0 t229 _ A5.out).mono ?_); rintro e w' ⟨rfl, ⟨nd, rfl⟩⟩))
   go_meet
   case rel => exact ⟨_, (!t229), (by first | rfl | (simp; done) | (simp [*]; done)), H', ⟨by first | omega | exact Nat.le_refl _⟩, ⟨by repeat (first | (with_reducible first | exact HB.out | apply below_alloc | apply pw_below_drewN | apply below_drew1) | exact HB.out)⟩⟩
 case rest =>
  clear HC3
  try clear c1
  try clear p2
  try clear c4
  try clear c4b0
  try clear c4b1
  obtain ⟨kq, x20_2, rfl, HA, HJ2, HB⟩ := hcut
  cases kq with
  | zero => exact absurd HA.out (by simp [spec_QuickCheck.j0])
  | succ kj2 =>
   have H := HA.out
   clear HA
   simp only [spec_QuickCheck.j0] at H
   by_cases c6 : x20_2 = true
   ·subst c6
    have H1 : (some 0) = some r := by rw [if_pos rfl] at H; exact H
    clear H
    have H := H1
    clear H1
    obtain rfl := Option.some.inj H
    go_wp2
    go_ret
    exact ⟨by first | rfl | (simp [errW_none, errW_some] <;> rfl) | (simp [*, errW_none, errW_some] <;> rfl), by repeat (first | (with_reducible first | exact HB.out | apply below_alloc | apply pw_below_drewN | apply below_drew1) | exact HB.out)⟩
   ·replace c6 := Bool.eq_false_iff.mpr c6
    subst c6
    have H1 : (spec_QuickCheck.l0 kj2 a0 a1 0 1 0) = some r := by rw [if_neg (show ¬ (false = true) by decide)] at H; exact H
    clear H
    have H := H1
    clear H1
    have H' := Aside0.mk H
    clear H
    go_wp2
    go_loopg [5, 6, 7] kj2 (fun kq v5 v6 v7 w' => ∃ (x5_2 : Int) (x6_2 : Int) (x7_2 : Int), v5 = .int .i64 x5_2 ∧ v6 = .int .i64 x6_2 ∧ v7 = .int .i64 x7_2 ∧ Aside0 (spec_QuickCheck.l0 kq a0 a1 x5_2 x6_2 x7_2 = some r) ∧ Aside0 (kq ≤ kj2) ∧ Aside0 (Below w.heap.size w w'))
    case atStart => exact ⟨(0), (1), (0), (by first | rfl | (simp; done) | (simp [*]; done)), (by first | rfl | (simp; done) | (simp [*]; done)), (by first | rfl | (simp; done) | (simp [*]; done)), H', ⟨Nat.le_refl _⟩, ⟨by repeat (first | (with_reducible first | exact HB.out | apply below_alloc | apply pw_below_drewN | apply below_drew1) | exact HB.out)⟩⟩
    case round =>
     clear H'
     try clear c1
     try clear p2
     try clear c4
     try clear c4b0
     try clear c4b1
     try clear c6
     try clear p2
     obtain ⟨x5_2, x6_2, x7_2, rfl, rfl, rfl, HA, HK2, HB⟩ := hrel
     cases gk with
     | zero => exact absurd HA.out (by simp [spec_QuickCheck.l0])
     | succ k2 =>
      have H := HA.out
      clear HA
      simp only [spec_QuickCheck.l0] at H
      by_cases c7 : x7_2 < (a1.size : Int)
      ·rw [if_pos c7] at H
       have c7b0 : decide (x7_2 < (a1.size : Int)) = true := decide_eq_true c7
       clear c7
       replace H := Option.bind_eq_some_iff.mp H
       obtain ⟨⟨t230, t231, t232⟩, A80, H⟩ := H
       replace H : ((spec_l01Class.f k2 t230).bind fun t233 => (if t232 = true then (if t233 = 0 then (spec_QuickCheck.j2 k2 a0 a1 x6_2 x7_2 t230 t231 t233 false) else (spec_QuickCheck.j2 k2 a0 a1 x6_2 x7_2 t230 t231 t233 (decide (t233 < x5_2)))) else (spec_QuickCheck.j2 k2 a0 a1 x6_2 x7_2 t230 t231 t233 true))) = some r := H
       have A8 := Aside0.mk A80
       clear A80
       replace H := Option.bind_eq_some_iff.mp H
       obtain ⟨t233, A90, H⟩ := H
       replace H : (if t232 = true then (if t233 = 0 then (spec_QuickCheck.j2 k2 a0 a1 x6_2 x7_2 t230 t231 t233 false) else (spec_QuickCheck.j2 k2 a0 a1 x6_2 x7_2 t230 t231 t233 (decide (t233 < x5_2)))) else (spec_QuickCheck.j2 k2 a0 a1 x6_2 x7_2 t230 t231 t233 true)) = some r := H
       have A9 := Aside0.mk A90
       clear A90
       have HC10 := Aside0.mk H
       clear H
       go_upto_region 9 with (first | ((with_reducible refine gate_callee (f := 45) rfl ?_); refine goesL_ (some 28) rfl rfl Tryd.func45 (by kernel_rfl) rfl #[.string a1, .int .i64 x7_2] rfl (by (try simp only [List.map_toArray, List.map_cons, List.map_nil]); first | done | rfl | (simp only [List.length_drop, List.length_take]; rfl)) ?_; (with_reducible refine (spec_l01Next.calls k2 a1 x7_2 t230 t231 t232 _ A8.out).mono ?_); rintro e w11 ⟨rfl, hb⟩; refine ⟨_, rfl, ?_⟩; have n0_ := Aside0.mk (below_step (by repeat (first | (with_reducible first | exact HB.out | apply below_alloc | apply pw_below_drewN | apply below_drew1) | exact HB.out)) hb); clear HB; have HB := n0_; clear n0_; (try clear hb); (try clear hb2); (try clear hk); (try clear hi)) | ((with_reducible refine gate_callee (f := 46) rfl ?_); refine goesL_ (some 33) rfl rfl Tryd.func46 (by kernel_rfl) rfl #[.int .i64 t230] rfl (by (try simp only [List.map_toArray, List.map_cons, List.map_nil]); first | done | rfl | (simp only [List.length_drop, List.length_take]; rfl)) ?_; (with_reducible refine (spec_l01Class.calls k2 t230 t233 _ A9.out).mono ?_); rintro e w' ⟨rfl, ⟨nd, rfl⟩⟩; refine ⟨_, rfl, ?_⟩))
       (try simp only [Act.put, List.setIfInBounds_toArray, List.set_cons_zero, List.set_cons_succ])
       go_cut [44] (fun v44 wc => ∃ (kq : Nat) (x44_9 : Bool), v44 = .bool x44_9 ∧ Aside0 (spec_QuickCheck.j2 kq a0 a1 x6_2 x7_2 t230 t231 t233 x44_9 = some r) ∧ Aside0 (kq ≤ k2) ∧ Aside0 (Below w.heap.size w wc))
       case first =>
        have H := HC10.out
        clear HC10
        by_cases c12 : t232 = true
        ·subst c12
         have H1 : (if t233 = 0 then (spec_QuickCheck.j2 k2 a0 a1 x6_2 x7_2 t230 t231 t233 false) else (spec_QuickCheck.j2 k2 a0 a1 x6_2 x7_2 t230 t231 t233 (decide (t233 < x5_2)))) = some r := by rw [if_pos rfl] at H; exact H
         clear H
         have H := H1
         clear H1
         by_cases c13 : t233 = 0
         ·rw [if_pos c13] at H
          have c13b0 : (t233 == 0) = true := beq_iff_eq.mpr c13
          have c13b1 : (t233 != 0) = false := bne_eq_false_iff_eq.mpr c13
          clear c13
          (first | rw [c13b0] | (simp only [i64_w, i32_w]; rw [c13b0]) | skip)
          have H' := Aside0.mk H
          clear H
          go_wp2
          go_meet
          case rel => exact ⟨_, (false), (by first | rfl | (simp; done) | (simp [*]; done)), H', ⟨by have := HJ2.out; have := HK2.out; first | omega | exact Nat.le_refl _⟩, ⟨by repeat (first | (with_reducible first | exact HB.out | apply below_alloc | apply pw_below_drewN | apply below_drew1) | exact HB.out)⟩⟩
         ·rw [if_neg c13] at H
          have c13b0 : (t233 == 0) = false := beq_eq_false_iff_ne.mpr c13
          have c13b1 : (t233 != 0) = true := bne_iff_ne.mpr c13
          (first | rw [c13b0] | (simp only [i64_w, i32_w]; rw [c13b0]) | skip)
          have H' := Aside0.mk H
          clear H
          go_wp2
          go_meet
          case rel => exact ⟨_, (decide (t233 < x5_2)), (by first | rfl | (simp; done) | (simp [*]; done)), H', ⟨by have := HJ2.out; have := HK2.out; first | omega | exact Nat.le_refl _⟩, ⟨by repeat (first | (with_reducible first | exact HB.out | apply below_alloc | apply pw_below_drewN | apply below_drew1) | exact HB.out)⟩⟩
        ·replace c12 := Bool.eq_false_iff.mpr c12
         subst c12
         have H1 : (spec_QuickCheck.j2 k2 a0 a1 x6_2 x7_2 t230 t231 t233 true) = some r := by rw [if_neg (show ¬ (false = true) by decide)] at H; exact H
         clear H
         have H := H1
         clear H1
         have H' := Aside0.mk H
         clear H
         go_wp2
         go_meet
         case rel => exact ⟨_, (true), (by first | rfl | (simp; done) | (simp [*]; done)), H', ⟨by have := HJ2.out; have := HK2.out; first | omega | exact Nat.le_refl _⟩, ⟨by repeat (first | (with_reducible first | exact HB.out | apply below_alloc | apply pw_below_drewN | apply below_drew1) | exact HB.out)⟩⟩
       case rest =>
        clear HC10
        try clear c1
        try clear p2
        try clear c4
        try clear c4b0
        try clear c4b1
        try clear c6
        try clear c7
        try clear c7b0
        try clear c12
        try clear c13
        try clear c13b0
        try clear c13b1
        try clear p2
        obtain ⟨kq, x44_9, rfl, HA, HJ9, HB⟩ := hcut
        cases kq with
        | zero => exact absurd HA.out (by simp [spec_QuickCheck.j2])
        | succ kj9 =>
         have H := HA.out
         clear HA
         simp only [spec_QuickCheck.j2] at H
         by_cases c14 : x44_9 = true
         ·subst c14
          have H1 : (some 2) = some r := by rw [if_pos rfl] at H; exact H
          clear H
          have H := H1
          clear H1
          obtain rfl := Option.some.inj H
          go_wp2
          go_ret
          exact ⟨by first | rfl | (simp [errW_none, errW_some] <;> rfl) | (simp [*, errW_none, errW_some] <;> rfl), by repeat (first | (with_reducible first | exact HB.out | apply below_alloc | apply pw_below_drewN | apply below_drew1) | exact HB.out)⟩
         ·replace c14 := Bool.eq_false_iff.mpr c14
          subst c14
          have H1 : ((spec_l05Norm.f kj9 a0 (([t230] : List Int))).bind fun t237 => (if (t237.length : Int) = 1 then (if 0 < (t237.length : Int) then (spec_QuickCheck.j3 kj9 a0 a1 x6_2 x7_2 t230 t231 t233 ((rd t237 0) != t230)) else (none)) else (spec_QuickCheck.j3 kj9 a0 a1 x6_2 x7_2 t230 t231 t233 true))) = some r := by rw [if_neg (show ¬ (false = true) by decide)] at H; exact H
          clear H
          have H := H1
          clear H1
          obtain ⟨y234, hy234⟩ : ∃ y_ : List Int, y_ = (([t230] : List Int)) := ⟨_, rfl⟩
          replace H : ((spec_l05Norm.f kj9 a0 y234).bind fun t237 => (if (t237.length : Int) = 1 then (if 0 < (t237.length : Int) then (spec_QuickCheck.j3 kj9 a0 a1 x6_2 x7_2 t230 t231 t233 ((rd t237 0) != t230)) else (none)) else (spec_QuickCheck.j3 kj9 a0 a1 x6_2 x7_2 t230 t231 t233 true))) = some r := by first | (rw [hy234]; with_reducible exact H) | (have H2_ := (Option.bind_some _ _).symm.trans H; rw [hy234]; with_reducible exact H2_) | (have H2_ := (Option.bind_some _ _).symm.trans H; with_reducible exact H2_) | with_reducible exact H | (rw [hy234]; exact H) | exact H
          have Ny234 := Aside0.mk hy234
          clear hy234
          replace H := Option.bind_eq_some_iff.mp H
          obtain ⟨t237, A150, H⟩ := H
          replace H : (if (t237.length : Int) = 1 then (if 0 < (t237.length : Int) then (spec_QuickCheck.j3 kj9 a0 a1 x6_2 x7_2 t230 t231 t233 ((rd t237 0) != t230)) else (none)) else (spec_QuickCheck.j3 kj9 a0 a1 x6_2 x7_2 t230 t231 t233 true)) = some r := H
          have A15 := Aside0.mk A150
          clear A150
          have HC16 := Aside0.mk H
          clear H
          go_upto_region 12 with (first | ((with_reducible refine gate_dst (N := 47) rfl ?_); refine Kd.R_lit (Kd.int .i64) _ 2 ?hg (N := 47) ?hd (xs := ([t230] : List Int)) (inner := [.int .i64 t230]) (ok := fun _ => True) (okp := fun _ => True) ?hr ?hp (fun _ hk => hk) trivial (Below.refl _ _) (Nat.le_refl _) (by simp) ?_; (case hd => rfl); (case hg => rfl); (case hr => first | (go_simp; done) | (go_simp; rfl)); (case hp => exact (Reps.one (show Kd.M (Kd.int .i64) _ _ _ t230 [.int .i64 t230] from rfl) (Reps.none _ _))); intro v235 w17 ho18 hb hg_ hnew_; clear hg_ hnew_; (first | rw [← Ny234.out] at ho18 | (simp only [Int.reduceToNat] at ho18; rw [← Ny234.out] at ho18)); have n0_ := Aside0.mk (Kd.R_lower ho18 (below_size (by repeat (first | (with_reducible first | exact HB.out | apply below_alloc | apply pw_below_drewN | apply below_drew1) | exact HB.out)))); have n1_ := Aside0.mk (below_step (by repeat (first | (with_reducible first | exact HB.out | apply below_alloc | apply pw_below_drewN | apply below_drew1) | exact HB.out)) hb); clear HB; have HO236 := n0_; have HB := n1_; clear n0_ n1_; clear hb ho18; obtain ⟨Ao19, co19, eo19⟩ := Kd.R_slice HO236.out; subst eo19) | ((with_reducible refine gate_callee (f := 47) rfl ?_); refine goesL_ (some 48) rfl rfl Tryd.func47 (by kernel_rfl) rfl #[.int .i64 a0, .slice Ao19 y234.length co19] rfl (by (try simp only [List.map_toArray, List.map_cons, List.map_nil]); first | done | rfl | (simp only [List.length_drop, List.length_take]; rfl)) ?_; (with_reducible refine (spec_l05Norm.calls kj9 a0 _ _ y234 t237 _ ?side1 ?side2 A15.out).mono ?_); (case side1 => repeat (first | exact (Kd.R_reads' HO236.out).2.2 | (with_reducible refine Kd.C_alloc ?_ _) | (with_reducible refine Kd.C_drewN ?_ _) | (with_reducible refine Kd.C_drew ?_))); (case side2 => exact (Kd.R_reads' HO236.out).2.1); rintro e w20 ⟨v238, rfl, ho0, hb⟩; refine ⟨_, rfl, ?_⟩; have n0_ := Aside0.mk (Kd.R_elder' (by (with_reducible repeat (first | apply Kd.R_alloc | apply Kd.R_drewN | apply Kd.R_drew)); exact HO236.out) (Kd.R_base ho0) hb); have n1_ := Aside0.mk (Kd.R_lower (Kd.R_new' ho0 (Kd.R_lt (by (with_reducible repeat (first | apply Kd.R_alloc | apply Kd.R_drewN | apply Kd.R_drew)); exact HO236.out))) (below_size (by repeat (first | (with_reducible first | exact HB.out | apply below_alloc | apply pw_below_drewN | apply below_drew1) | exact HB.out)))); have n2_ := Aside0.mk (below_step (by repeat (first | (with_reducible first | exact HB.out | apply below_alloc | apply pw_below_drewN | apply below_drew1) | exact HB.out)) hb); clear HO236; clear HB; have HO236 := n0_; have HO239 := n1_; have HB := n2_; clear n0_ n1_ n2_; (try clear hb); (try clear hb2); (try clear hk); (try clear hi); (try clear ho0)))
          (try simp only [Act.put, List.setIfInBounds_toArray, List.set_cons_zero, List.set_cons_succ])
          go_cut [58] (fun v58 wc => ∃ (kq : Nat) (x58_15 : Bool), v58 = .bool x58_15 ∧ Aside0 (spec_QuickCheck.j3 kq a0 a1 x6_2 x7_2 t230 t231 t233 x58_15 = some r) ∧ Aside0 (kq ≤ kj9) ∧ Aside0 (Below w.heap.size w wc))
          case first =>
           have H := HC16.out
           clear HC16
           by_cases c21 : (t237.length : Int) = 1
           ·rw [if_pos c21] at H
            have c21b0 : ((t237.length : Int) == 1) = true := beq_iff_eq.mpr c21
            have c21b1 : ((t237.length : Int) != 1) = false := bne_eq_false_iff_eq.mpr c21
            clear c21
            (first | rw [c21b0] | (simp only [i64_w, i32_w]; rw [c21b0]) | skip)
            by_cases c22 : 0 < (t237.length : Int)
            ·rw [if_pos c22] at H
             have c22b0 : decide (0 < (t237.length : Int)) = true := decide_eq_true c22
             have c22b1 : decide (0 < t237.length) = true := decide_eq_true (by omega)
             clear c22
             have H' := Aside0.mk H
             clear H
             obtain ⟨Ao23, co23, eo23⟩ := Kd.R_slice HO239.out
             subst eo23
             have p240 : 0 ≤ (0 : Int) := (by omega)
             have q240 : 0 < (t237.length : Int) := of_decide_eq_true (by first | (with_reducible assumption) | assumption)
             obtain ⟨ad240, e240, hx240_0⟩ := Kd.at_int (Kd.R_reads' HO239.out).2.2 0 p240 q240
             cases e240
             have qi240 : (0 < t237.length) = True := eq_true (by omega)
             (try rw [show ((0 : Int)).toNat = 0 from rfl] at hx240_0)
             (try rw [Addr.add_zero'] at hx240_0)
             replace p240 := eq_true p240
             replace q240 := eq_true q240
             go_wp2
             go_meet
             case rel => exact ⟨_, (((rd t237 0) != t230)), (by first | rfl | (simp; done) | (simp [*]; done)), H', ⟨by have := HJ2.out; have := HK2.out; have := HJ9.out; first | omega | exact Nat.le_refl _⟩, ⟨by repeat (first | (with_reducible first | exact HB.out | apply below_alloc | apply pw_below_drewN | apply below_drew1) | exact HB.out)⟩⟩
            ·rw [if_neg c22] at H
             exact absurd H (by simp)
           ·rw [if_neg c21] at H
            have c21b0 : ((t237.length : Int) == 1) = false := beq_eq_false_iff_ne.mpr c21
            have c21b1 : ((t237.length : Int) != 1) = true := bne_iff_ne.mpr c21
            (first | rw [c21b0] | (simp only [i64_w, i32_w]; rw [c21b0]) | skip)
            have H' := Aside0.mk H
            clear H
            obtain ⟨Ao24, co24, eo24⟩ := Kd.R_slice HO239.out
            subst eo24
            go_wp2
            go_meet
            case rel => exact ⟨_, (true), (by first | rfl | (simp; done) | (simp [*]; done)), H', ⟨by have := HJ2.out; have := HK2.out; have := HJ9.out; first | omega | exact Nat.le_refl _⟩, ⟨by repeat (first | (with_reducible first | exact HB.out | apply below_alloc | apply pw_below_drewN | apply below_drew1) | exact HB.out)⟩⟩
          case rest =>
           clear HC16
           try clear c1
           try clear c2
           try clear p2
           try clear q2
           try clear hx2
           try clear qi2
           try clear c4
           try clear c4b0
           try clear c4b1
           try clear c6
           try clear c7
           try clear c7b0
           try clear c12
           try clear c13
           try clear c13b0
           try clear c13b1
           try clear c14
           try clear c16
           try clear c21
           try clear c21b0
           try clear c21b1
           try clear c22
           try clear c22b0
           try clear c22b1
           try clear p24
           try clear q24
           try clear hx24
           try clear qi24
           try clear hx240_0
           try clear p2
           try clear p240
           try clear q240
           obtain ⟨kq, x58_15, rfl, HA, HJ15, HB⟩ := hcut
           cases kq with
           | zero => exact absurd HA.out (by simp [spec_QuickCheck.j3])
           | succ kj15 =>
            have H := HA.out
            clear HA
            simp only [spec_QuickCheck.j3] at H
            by_cases c25 : x58_15 = true
            ·subst c25
             have H1 : (some 2) = some r := by rw [if_pos rfl] at H; exact H
             clear H
             have H := H1
             clear H1
             obtain rfl := Option.some.inj H
             go_wp2
             go_ret
             exact ⟨by first | rfl | (simp [errW_none, errW_some] <;> rfl) | (simp [*, errW_none, errW_some] <;> rfl), by repeat (first | (with_reducible first | exact HB.out | apply below_alloc | apply pw_below_drewN | apply below_drew1) | exact HB.out)⟩
            ·replace c25 := Bool.eq_false_iff.mpr c25
             subst c25
             have H1 : ((spec_l05C.f a0).bind fun t241 => (if t241 = true then ((spec_l05Second.f t230).bind fun t242 => (if t242 = true then (spec_QuickCheck.l0 kj15 a0 a1 t233 3 (wrap64 (x7_2 + t231))) else (spec_QuickCheck.l0 kj15 a0 a1 t233 x6_2 (wrap64 (x7_2 + t231))))) else (spec_QuickCheck.l0 kj15 a0 a1 t233 x6_2 (wrap64 (x7_2 + t231))))) = some r := by rw [if_neg (show ¬ (false = true) by decide)] at H; exact H
             clear H
             have H := H1
             clear H1
             replace H := Option.bind_eq_some_iff.mp H
             obtain ⟨t241, A260, H⟩ := H
             replace H : (if t241 = true then ((spec_l05Second.f t230).bind fun t242 => (if t242 = true then (spec_QuickCheck.l0 kj15 a0 a1 t233 3 (wrap64 (x7_2 + t231))) else (spec_QuickCheck.l0 kj15 a0 a1 t233 x6_2 (wrap64 (x7_2 + t231))))) else (spec_QuickCheck.l0 kj15 a0 a1 t233 x6_2 (wrap64 (x7_2 + t231)))) = some r := H
             have A26 := Aside0.mk A260
             clear A260
             by_cases c27 : t241 = true
             ·subst c27
              have H1 : ((spec_l05Second.f t230).bind fun t242 => (if t242 = true then (spec_QuickCheck.l0 kj15 a0 a1 t233 3 (wrap64 (x7_2 + t231))) else (spec_QuickCheck.l0 kj15 a0 a1 t233 x6_2 (wrap64 (x7_2 + t231))))) = some r := by rw [if_pos rfl] at H; exact H
              clear H
              have H := H1
              clear H1
              replace H := Option.bind_eq_some_iff.mp H
              obtain ⟨t242, A280, H⟩ := H
              replace H : (if t242 = true then (spec_QuickCheck.l0 kj15 a0 a1 t233 3 (wrap64 (x7_2 + t231))) else (spec_QuickCheck.l0 kj15 a0 a1 t233 x6_2 (wrap64 (x7_2 + t231)))) = some r := H
              have A28 := Aside0.mk A280
              clear A280
              by_cases c29 : t242 = true
              ·subst c29
               have H1 : (spec_QuickCheck.l0 kj15 a0 a1 t233 3 (wrap64 (x7_2 + t231))) = some r := by rw [if_pos rfl] at H; exact H
               clear H
               have H := H1
               clear H1
               have H' := Aside0.mk H
               clear H
               go_wp2_with (first | ((with_reducible refine gate_callee (f := 48) rfl ?_); refine goesL_ (some 60) rfl rfl Tryd.func48 (by kernel_rfl) rfl #[.int .i64 a0] rfl (by (try simp only [List.map_toArray, List.map_cons, List.map_nil]); first | done | rfl | (simp only [List.length_drop, List.length_take]; rfl)) ?_; (with_reducible refine (spec_l05C.calls a0 true _ A26.out).mono ?_); rintro e w' ⟨rfl, ⟨nd, rfl⟩⟩; refine ⟨_, rfl, ?_⟩) | (go_at_call 49; (with_reducible refine (spec_l05Second.calls t230 true _ A28.out).mono ?_); rintro e w' ⟨rfl, ⟨nd, rfl⟩⟩))
               go_roundg kj15
               case measure => have := HJ2.out; have := HK2.out; have := HJ9.out; have := HJ15.out; omega
               case rel => exact ⟨(t233), (3), (wrap64 (x7_2 + t231)), (by first | rfl | (simp; done) | (simp [*]; done)), (by first | rfl | (simp; done) | (simp [*]; done)), (by first | rfl | (simp; done) | (simp [*]; done)), H', ⟨by have := HJ2.out; have := HK2.out; have := HJ9.out; have := HJ15.out; omega⟩, ⟨by repeat (first | (with_reducible first | exact HB.out | apply below_alloc | apply pw_below_drewN | apply below_drew1) | exact HB.out)⟩⟩
              ·replace c29 := Bool.eq_false_iff.mpr c29
               subst c29
               have H1 : (spec_QuickCheck.l0 kj15 a0 a1 t233 x6_2 (wrap64 (x7_2 + t231))) = some r := by rw [if_neg (show ¬ (false = true) by decide)] at H; exact H
               clear H
               have H := H1
               clear H1
               have H' := Aside0.mk H
               clear H
               go_wp2_with (first | ((with_reducible refine gate_callee (f := 48) rfl ?_); refine goesL_ (some 60) rfl rfl Tryd.func48 (by kernel_rfl) rfl #[.int .i64 a0] rfl (by (try simp only [List.map_toArray, List.map_cons, List.map_nil]); first | done | rfl | (simp only [List.length_drop, List.length_take]; rfl)) ?_; (with_reducible refine (spec_l05C.calls a0 true _ A26.out).mono ?_); rintro e w' ⟨rfl, ⟨nd, rfl⟩⟩; refine ⟨_, rfl, ?_⟩) | (go_at_call 49; (with_reducible refine (spec_l05Second.calls t230 false _ A28.out).mono ?_); rintro e w' ⟨rfl, ⟨nd, rfl⟩⟩))
               go_roundg kj15
               case measure => have := HJ2.out; have := HK2.out; have := HJ9.out; have := HJ15.out; omega
               case rel => exact ⟨(t233), (x6_2), (wrap64 (x7_2 + t231)), (by first | rfl | (simp; done) | (simp [*]; done)), (by first | rfl | (simp; done) | (simp [*]; done)), (by first | rfl | (simp; done) | (simp [*]; done)), H', ⟨by have := HJ2.out; have := HK2.out; have := HJ9.out; have := HJ15.out; omega⟩, ⟨by repeat (first | (with_reducible first | exact HB.out | apply below_alloc | apply pw_below_drewN | apply below_drew1) | exact HB.out)⟩⟩
             ·replace c27 := Bool.eq_false_iff.mpr c27
              subst c27
              have H1 : (spec_QuickCheck.l0 kj15 a0 a1 t233 x6_2 (wrap64 (x7_2 + t231))) = some r := by rw [if_neg (show ¬ (false = true) by decide)] at H; exact H
              clear H
              have H := H1
              clear H1
              have H' := Aside0.mk H
              clear H
              go_wp2_with (first | ((with_reducible refine gate_callee (f := 48) rfl ?_); refine goesL_ (some 60) rfl rfl Tryd.func48 (by kernel_rfl) rfl #[.int .i64 a0] rfl (by (try simp only [List.map_toArray, List.map_cons, List.map_nil]); first | done | rfl | (simp only [List.length_drop, List.length_take]; rfl)) ?_; (with_reducible refine (spec_l05C.calls a0 false _ A26.out).mono ?_); rintro e w' ⟨rfl, ⟨nd, rfl⟩⟩; refine ⟨_, rfl, ?_⟩))
              go_roundg kj15
              case measure => have := HJ2.out; have := HK2.out; have := HJ9.out; have := HJ15.out; omega
              case rel => exact ⟨(t233), (x6_2), (wrap64 (x7_2 + t231)), (by first | rfl | (simp; done) | (simp [*]; done)), (by first | rfl | (simp; done) | (simp [*]; done)), (by first | rfl | (simp; done) | (simp [*]; done)), H', ⟨by have := HJ2.out; have := HK2.out; have := HJ9.out; have := HJ15.out; omega⟩, ⟨by repeat (first | (with_reducible first | exact HB.out | apply below_alloc | apply pw_below_drewN | apply below_drew1) | exact HB.out)⟩⟩
      ·rw [if_neg c7] at H
       have c7b0 : decide (x7_2 < (a1.size : Int)) = false := decide_eq_false c7
       clear c7
       obtain rfl := Option.some.inj H
       go_wp2
       go_ret
       exact ⟨by first | rfl | (simp [errW_none, errW_some] <;> rfl) | (simp [*, errW_none, errW_some] <;> rfl), by repeat (first | (with_reducible first | exact HB.out | apply below_alloc | apply pw_below_drewN | apply below_drew1) | exact HB.out)⟩

/-! ### impl_long: function 39 -/
def impl_long.f (a0 : ByteArray) : Option (Bool) := some (decide ((a0.size : Int) > 65536))
set_option maxHeartbeats 8000000 in
set_option maxRecDepth 100000 in
theorem impl_long.calls (a0 : ByteArray) (r : Bool) (w : World) (h : impl_long.f a0 = some r) :
  Calls Tryd.prog 39 #[.string a0] w fun e w' => e = .returned (.bool r) ∧ Drawn0 w w' := by
 have H : (some (decide ((a0.size : Int) > 65536))) = some r := h
 clear h
 obtain rfl := Option.some.inj H
 go_enter Tryd.func39, Tryd.ntmps39
 go_wp2
 go_ret
 exact ⟨by first | rfl | (simp; done) | (simp [*]; done), by repeat (first | exact Drawn0.refl _ | apply Drawn0.step)⟩

/-! ### impl_in: function 67 -/
def impl_in.f (a0 : Int) (a1 : Int) (a2 : Int) : Option (Bool) := if a0 ≥ a1 then (some (decide (a0 ≤ a2))) else (some false)
set_option maxHeartbeats 8000000 in
set_option maxRecDepth 100000 in
theorem impl_in.calls (a0 : Int) (a1 : Int) (a2 : Int) (r : Bool) (w : World) (h : impl_in.f a0 a1 a2 = some r) :
  Calls Tryd.prog 67 #[.int .i64 a0, .int .i64 a1, .int .i64 a2] w fun e w' => e = .returned (.bool r) ∧ Drawn0 w w' := by
 have H : (if a0 ≥ a1 then (some (decide (a0 ≤ a2))) else (some false)) = some r := h
 clear h
 by_cases c4 : a0 ≥ a1
 ·rw [if_pos c4] at H
  have c4b0 : decide (a1 ≤ a0) = true := decide_eq_true c4
  clear c4
  obtain rfl := Option.some.inj H
  go_enter Tryd.func67, Tryd.ntmps67
  go_wp2
  go_ret
  exact ⟨by first | rfl | (simp; done) | (simp [*]; done), by repeat (first | exact Drawn0.refl _ | apply Drawn0.step)⟩
 ·rw [if_neg c4] at H
  have c4b0 : decide (a1 ≤ a0) = false := decide_eq_false c4
  clear c4
  obtain rfl := Option.some.inj H
  go_enter Tryd.func67, Tryd.ntmps67
  go_wp2
  go_ret
  exact ⟨by first | rfl | (simp; done) | (simp [*]; done), by repeat (first | exact Drawn0.refl _ | apply Drawn0.step)⟩

/-! ### impl_isNorm: function 40 -/
def impl_isNorm.f (a0 : Int) : Option (Bool) := (impl_in.f a0 1 4).bind fun t243 => (some t243)
set_option maxHeartbeats 8000000 in
set_option maxRecDepth 100000 in
theorem impl_isNorm.calls (a0 : Int) (r : Bool) (w : World) (h : impl_isNorm.f a0 = some r) :
  Calls Tryd.prog 40 #[.int .i64 a0] w fun e w' => e = .returned (.bool r) ∧ Drawn0 w w' := by
 have H : ((impl_in.f a0 1 4).bind fun t243 => (some t243)) = some r := h
 clear h
 replace H := Option.bind_eq_some_iff.mp H
 obtain ⟨t243, A20, H⟩ := H
 replace H : (some t243) = some r := H
 have A2 := Aside0.mk A20
 clear A20
 obtain rfl := Option.some.inj H
 go_enter Tryd.func40, Tryd.ntmps40
 go_wp2_with (first | ((with_reducible refine gate_callee (f := 67) rfl ?_); refine goesL_ (some 4) rfl rfl Tryd.func67 (by kernel_rfl) rfl #[.int .i64 a0, .int .i64 1, .int .i64 4] rfl (by (try simp only [List.map_toArray, List.map_cons, List.map_nil]); first | done | rfl | (simp only [List.length_drop, List.length_take]; rfl)) ?_; (with_reducible refine (impl_in.calls a0 1 4 t243 _ A2.out).mono ?_); rintro e w' ⟨rfl, ⟨nd, rfl⟩⟩; refine ⟨_, rfl, ?_⟩))
 go_ret
 exact ⟨by first | rfl | (simp; done) | (simp [*]; done), by repeat (first | exact Drawn0.refl _ | apply Drawn0.step)⟩

-- NOT PRINTED: function 89 (utf8_decodeRuneInStringSlow)

/-! ### utf8_DecodeRuneInString: function 76 (by hand) -/
def utf8_DecodeRuneInString.f (a0 : ByteArray) : Option (Int × Int) := some (((Go.Lib.decodeGo a0).1 : Int), ((Go.Lib.decodeGo a0).2 : Int))
theorem utf8_DecodeRuneInString.calls (a0 : ByteArray) (r1 : Int) (r2 : Int) (w : World) (hG : GL w) (h : utf8_DecodeRuneInString.f a0 = some (r1, r2)) :
  Calls Tryd.prog 76 #[.string a0] w fun e w' => e = .returned (.tuple #[.int .i32 r1, .int .i64 r2]) ∧ Below w.heap.size w w' := by
 obtain ⟨rfl, rfl⟩ := Prod.mk.inj (Option.some.inj h)
 exact Go.Proofs.Any.utf8_DecodeRuneInString Tryd.lays197 a0 w hG


end Go.Proofs.YtnbedmihgnjdpaaDoor.PFnExactQuickCheck

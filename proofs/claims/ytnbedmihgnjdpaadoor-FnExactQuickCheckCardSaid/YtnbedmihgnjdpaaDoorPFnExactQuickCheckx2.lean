-- Written by a program of this session (wip/tools/myprint.py) that runs the kit's print with hooks of its own. Lean checks it.
import Derived.Test.YtnbedmihgnjdpaaDoorPFnExactQuickCheckx0
import Derived.Test.YtnbedmihgnjdpaaDoorSlimStep
namespace Go.Proofs.YtnbedmihgnjdpaaDoor.PFnExactQuickCheck
open Go.RowKit Go.Proofs.YtnbedmihgnjdpaaDoorW.PrintWords Go.Proofs.YtnbedmihgnjdpaaDoorW.PrintLast Go.Proofs.YtnbedmihgnjdpaaDoorW.PrintMore
attribute [local go_sem] max2_int min2_int max_two min_two max_three min_three max_four min_four   -- for this text's walks alone
set_option linter.unusedVariables false
set_option linter.unusedSimpArgs false

/-! ### spec_l01Class: function 46 -/
def spec_l01Class.j0 : Nat → Int → Bool → Option (Int)
 | 0, _, _ => none
 | k + 1, x0, x13 => if x13 = true then (some 0) else (if (wrap64 (x0 - 4096)) < 16 then (some 230) else (if (wrap64 (x0 - 4096)) < 32 then (some 220) else (if (wrap64 (x0 - 4096)) < 40 then (some 202) else (if (wrap64 (x0 - 4096)) < 48 then (some 1) else (if (wrap64 (x0 - 4096)) < 56 then (some 232) else (some 0))))))
def spec_l01Class.f (k : Nat) (a0 : Int) : Option (Int) := if a0 = 1584 then (some 9) else (if a0 = 1585 then (some 7) else (if a0 < 4096 then (spec_l01Class.j0 k a0 true) else (spec_l01Class.j0 k a0 (decide (a0 > 4159)))))
set_option maxHeartbeats 8000000 in
set_option maxRecDepth 100000 in
theorem spec_l01Class.calls (k : Nat) (a0 : Int) (r : Int) (w : World) (h : spec_l01Class.f k a0 = some r) :
  Calls Tryd.prog 46 #[.int .i64 a0] w fun e w' => e = .returned (.int .i64 r) ∧ Drawn0 w w' := by
 have H : (if a0 = 1584 then (some 9) else (if a0 = 1585 then (some 7) else (if a0 < 4096 then (spec_l01Class.j0 k a0 true) else (spec_l01Class.j0 k a0 (decide (a0 > 4159)))))) = some r := h
 clear h
 by_cases c2 : a0 = 1584
 ·rw [if_pos c2] at H
  have c2b0 : (a0 == 1584) = true := beq_iff_eq.mpr c2
  have c2b1 : (a0 != 1584) = false := bne_eq_false_iff_eq.mpr c2
  clear c2
  obtain rfl := Option.some.inj H
  go_enter Tryd.func46, Tryd.ntmps46
  go_wp2
  go_ret
  exact ⟨by first | rfl | (simp; done) | (simp [*]; done), by repeat (first | exact Drawn0.refl _ | apply Drawn0.step)⟩
 ·rw [if_neg c2] at H
  have c2b0 : (a0 == 1584) = false := beq_eq_false_iff_ne.mpr c2
  have c2b1 : (a0 != 1584) = true := bne_iff_ne.mpr c2
  by_cases c3 : a0 = 1585
  ·rw [if_pos c3] at H
   have c3b0 : (a0 == 1585) = true := beq_iff_eq.mpr c3
   have c3b1 : (a0 != 1585) = false := bne_eq_false_iff_eq.mpr c3
   clear c3
   obtain rfl := Option.some.inj H
   go_enter Tryd.func46, Tryd.ntmps46
   go_wp2
   go_ret
   exact ⟨by first | rfl | (simp; done) | (simp [*]; done), by repeat (first | exact Drawn0.refl _ | apply Drawn0.step)⟩
  ·rw [if_neg c3] at H
   have c3b0 : (a0 == 1585) = false := beq_eq_false_iff_ne.mpr c3
   have c3b1 : (a0 != 1585) = true := bne_iff_ne.mpr c3
   have HC4 := Aside0.mk H
   clear H
   go_enter Tryd.func46, Tryd.ntmps46
   go_upto_region 5 with (fail)
   go_cut [13] (fun v13 wc => ∃ (kq : Nat) (x13_3 : Bool), v13 = .bool x13_3 ∧ Aside0 (spec_l01Class.j0 kq a0 x13_3 = some r) ∧ Aside0 (kq ≤ k) ∧ Drawn0 w wc)
   case first =>
    have H := HC4.out
    clear HC4
    by_cases c5 : a0 < 4096
    ·rw [if_pos c5] at H
     have c5b0 : decide (a0 < 4096) = true := decide_eq_true c5
     clear c5
     (first | rw [c5b0] | (simp only [i64_w, i32_w]; rw [c5b0]) | skip)
     have H' := Aside0.mk H
     clear H
     go_wp2
     go_meet
     case rel => exact ⟨_, (true), (by first | rfl | (simp; done) | (simp [*]; done)), H', ⟨by first | omega | exact Nat.le_refl _⟩, by repeat (first | exact Drawn0.refl _ | apply Drawn0.step)⟩
    ·rw [if_neg c5] at H
     have c5b0 : decide (a0 < 4096) = false := decide_eq_false c5
     clear c5
     (first | rw [c5b0] | (simp only [i64_w, i32_w]; rw [c5b0]) | skip)
     have H' := Aside0.mk H
     clear H
     go_wp2
     go_meet
     case rel => exact ⟨_, (decide (a0 > 4159)), (by first | rfl | (simp; done) | (simp [*]; done)), H', ⟨by first | omega | exact Nat.le_refl _⟩, by repeat (first | exact Drawn0.refl _ | apply Drawn0.step)⟩
   case rest =>
    clear HC4
    try clear c2
    try clear c2b0
    try clear c2b1
    try clear p2
    try clear c3
    try clear c3b0
    try clear c3b1
    try clear c4
    try clear c5
    try clear c5b0
    obtain ⟨kq, x13_3, rfl, HA, HJ3, ⟨mc3, rfl⟩⟩ := hcut
    cases kq with
    | zero => exact absurd HA.out (by simp [spec_l01Class.j0])
    | succ kj3 =>
     have H := HA.out
     clear HA
     simp only [spec_l01Class.j0] at H
     by_cases c6 : x13_3 = true
     ·subst c6
      have H1 : (some 0) = some r := by rw [if_pos rfl] at H; exact H
      clear H
      have H := H1
      clear H1
      obtain rfl := Option.some.inj H
      go_wp2
      go_ret
      exact ⟨by first | rfl | (simp; done) | (simp [*]; done), by repeat (first | exact Drawn0.refl _ | apply Drawn0.step)⟩
     ·replace c6 := Bool.eq_false_iff.mpr c6
      subst c6
      have H1 : (if (wrap64 (a0 - 4096)) < 16 then (some 230) else (if (wrap64 (a0 - 4096)) < 32 then (some 220) else (if (wrap64 (a0 - 4096)) < 40 then (some 202) else (if (wrap64 (a0 - 4096)) < 48 then (some 1) else (if (wrap64 (a0 - 4096)) < 56 then (some 232) else (some 0)))))) = some r := by rw [if_neg (show ¬ (false = true) by decide)] at H; exact H
      clear H
      have H := H1
      clear H1
      by_cases c7 : (wrap64 (a0 - 4096)) < 16
      ·rw [if_pos c7] at H
       have c7b0 : decide ((wrap64 (a0 - 4096)) < 16) = true := decide_eq_true c7
       clear c7
       obtain rfl := Option.some.inj H
       go_wp2
       go_ret
       exact ⟨by first | rfl | (simp; done) | (simp [*]; done), by repeat (first | exact Drawn0.refl _ | apply Drawn0.step)⟩
      ·rw [if_neg c7] at H
       have c7b0 : decide ((wrap64 (a0 - 4096)) < 16) = false := decide_eq_false c7
       clear c7
       by_cases c8 : (wrap64 (a0 - 4096)) < 32
       ·rw [if_pos c8] at H
        have c8b0 : decide ((wrap64 (a0 - 4096)) < 32) = true := decide_eq_true c8
        clear c8
        obtain rfl := Option.some.inj H
        go_wp2
        go_ret
        exact ⟨by first | rfl | (simp; done) | (simp [*]; done), by repeat (first | exact Drawn0.refl _ | apply Drawn0.step)⟩
       ·rw [if_neg c8] at H
        have c8b0 : decide ((wrap64 (a0 - 4096)) < 32) = false := decide_eq_false c8
        clear c8
        by_cases c9 : (wrap64 (a0 - 4096)) < 40
        ·rw [if_pos c9] at H
         have c9b0 : decide ((wrap64 (a0 - 4096)) < 40) = true := decide_eq_true c9
         clear c9
         obtain rfl := Option.some.inj H
         go_wp2
         go_ret
         exact ⟨by first | rfl | (simp; done) | (simp [*]; done), by repeat (first | exact Drawn0.refl _ | apply Drawn0.step)⟩
        ·rw [if_neg c9] at H
         have c9b0 : decide ((wrap64 (a0 - 4096)) < 40) = false := decide_eq_false c9
         clear c9
         by_cases c10 : (wrap64 (a0 - 4096)) < 48
         ·rw [if_pos c10] at H
          have c10b0 : decide ((wrap64 (a0 - 4096)) < 48) = true := decide_eq_true c10
          clear c10
          obtain rfl := Option.some.inj H
          go_wp2
          go_ret
          exact ⟨by first | rfl | (simp; done) | (simp [*]; done), by repeat (first | exact Drawn0.refl _ | apply Drawn0.step)⟩
         ·rw [if_neg c10] at H
          have c10b0 : decide ((wrap64 (a0 - 4096)) < 48) = false := decide_eq_false c10
          clear c10
          by_cases c11 : (wrap64 (a0 - 4096)) < 56
          ·rw [if_pos c11] at H
           have c11b0 : decide ((wrap64 (a0 - 4096)) < 56) = true := decide_eq_true c11
           clear c11
           obtain rfl := Option.some.inj H
           go_wp2
           go_ret
           exact ⟨by first | rfl | (simp; done) | (simp [*]; done), by repeat (first | exact Drawn0.refl _ | apply Drawn0.step)⟩
          ·rw [if_neg c11] at H
           have c11b0 : decide ((wrap64 (a0 - 4096)) < 56) = false := decide_eq_false c11
           clear c11
           obtain rfl := Option.some.inj H
           go_wp2
           go_ret
           exact ⟨by first | rfl | (simp; done) | (simp [*]; done), by repeat (first | exact Drawn0.refl _ | apply Drawn0.step)⟩

/-! ### spec_l05C: function 48 -/
def spec_l05C.f (a0 : Int) : Option (Bool) := some ((Int.tmod a0 2) == 0)
set_option maxHeartbeats 8000000 in
set_option maxRecDepth 100000 in
theorem spec_l05C.calls (a0 : Int) (r : Bool) (w : World) (h : spec_l05C.f a0 = some r) :
  Calls Tryd.prog 48 #[.int .i64 a0] w fun e w' => e = .returned (.bool r) ∧ Drawn0 w w' := by
 have H : (some ((Int.tmod a0 2) == 0)) = some r := h
 clear h
 obtain rfl := Option.some.inj H
 go_enter Tryd.func48, Tryd.ntmps48
 go_wp2
 go_ret
 exact ⟨by first | rfl | (simp; done) | (simp [*]; done), by repeat (first | exact Drawn0.refl _ | apply Drawn0.step)⟩

/-! ### spec_l05Letter: function 97 -/
def spec_l05Letter.f (a0 : Int) : Option (Int) := if a0 < 26 then (some (wrap64 (65 + a0))) else (some (wrap64 ((wrap64 (97 + a0)) - 26)))
set_option maxHeartbeats 8000000 in
set_option maxRecDepth 100000 in
theorem spec_l05Letter.calls (a0 : Int) (r : Int) (w : World) (h : spec_l05Letter.f a0 = some r) :
  Calls Tryd.prog 97 #[.int .i64 a0] w fun e w' => e = .returned (.int .i64 r) ∧ Drawn0 w w' := by
 have H : (if a0 < 26 then (some (wrap64 (65 + a0))) else (some (wrap64 ((wrap64 (97 + a0)) - 26)))) = some r := h
 clear h
 by_cases c2 : a0 < 26
 ·rw [if_pos c2] at H
  have c2b0 : decide (a0 < 26) = true := decide_eq_true c2
  clear c2
  obtain rfl := Option.some.inj H
  go_enter Tryd.func97, Tryd.ntmps97
  go_wp2
  go_ret
  exact ⟨by first | rfl | (simp; done) | (simp [*]; done), by repeat (first | exact Drawn0.refl _ | apply Drawn0.step)⟩
 ·rw [if_neg c2] at H
  have c2b0 : decide (a0 < 26) = false := decide_eq_false c2
  clear c2
  obtain rfl := Option.some.inj H
  go_enter Tryd.func97, Tryd.ntmps97
  go_wp2
  go_ret
  exact ⟨by first | rfl | (simp; done) | (simp [*]; done), by repeat (first | exact Drawn0.refl _ | apply Drawn0.step)⟩

/-! ### spec_l05Wide: function 98 -/
mutual
def spec_l05Wide.j0 : Nat → Int → Bool → Option (List Int)
 | 0, _, _ => none
 | k + 1, x0, x4 => if x4 = true then (some (([wrap64 ((wrap64 (x0 - 9984)) + 65)] : List Int))) else (if x0 ≥ 10016 then (spec_l05Wide.j1 k x0 (decide (x0 ≤ 10025))) else (spec_l05Wide.j1 k x0 false))
def spec_l05Wide.j1 : Nat → Int → Bool → Option (List Int)
 | 0, _, _ => none
 | k + 1, x0, x15 => if x15 = true then (some (([wrap64 ((wrap64 (x0 - 10016)) + 48)] : List Int))) else (if x0 = 8064 then (spec_l05Wide.j2 k x0 true) else (spec_l05Wide.j2 k x0 (x0 == 160)))
def spec_l05Wide.j2 : Nat → Int → Bool → Option (List Int)
 | 0, _, _ => none
 | k + 1, x0, x26 => if x26 = true then (some (([32] : List Int))) else (if x0 ≥ 10032 then (if x0 ≤ 10035 then (if 0 ≤ (wrap64 (2 * (wrap64 (x0 - 10032)))) then (if (wrap64 (2 * (wrap64 (x0 - 10032)))) ≤ (wrap64 ((wrap64 (2 * (wrap64 (x0 - 10032)))) + 2)) then (if (wrap64 ((wrap64 (2 * (wrap64 (x0 - 10032)))) + 2)) ≤ 8 then (if 0 < (((⟨#[102, 102, 102, 105, 102, 108, 115, 116]⟩ : ByteArray).extract ((wrap64 (2 * (wrap64 (x0 - 10032)))) : Int).toNat ((wrap64 ((wrap64 (2 * (wrap64 (x0 - 10032)))) + 2)) : Int).toNat).size : Int) then (if 1 < (((⟨#[102, 102, 102, 105, 102, 108, 115, 116]⟩ : ByteArray).extract ((wrap64 (2 * (wrap64 (x0 - 10032)))) : Int).toNat ((wrap64 ((wrap64 (2 * (wrap64 (x0 - 10032)))) + 2)) : Int).toNat).size : Int) then (some (([wrap64 (bt ((⟨#[102, 102, 102, 105, 102, 108, 115, 116]⟩ : ByteArray).extract ((wrap64 (2 * (wrap64 (x0 - 10032)))) : Int).toNat ((wrap64 ((wrap64 (2 * (wrap64 (x0 - 10032)))) + 2)) : Int).toNat) 0), wrap64 (bt ((⟨#[102, 102, 102, 105, 102, 108, 115, 116]⟩ : ByteArray).extract ((wrap64 (2 * (wrap64 (x0 - 10032)))) : Int).toNat ((wrap64 ((wrap64 (2 * (wrap64 (x0 - 10032)))) + 2)) : Int).toNat) 1)] : List Int))) else (none)) else (none)) else (none)) else (none)) else (none)) else (some (([] : List Int)))) else (some (([] : List Int))))
end
def spec_l05Wide.f (k : Nat) (a0 : Int) : Option (List Int) := if a0 ≥ 9984 then (spec_l05Wide.j0 k a0 (decide (a0 ≤ 10009))) else (spec_l05Wide.j0 k a0 false)
def spec_l05Wide.T9 : Bool × List (List Nat × List Nat) := (true, [([], []), ([0], [0]), ([1], [1]), ([], []), ([3], [3]), ([4], [4]), ([2, 5], [2, 5]), ([6, 0, 1, 2, 3, 4, 5, 6], [6])])
def spec_l05Wide.B9 : List Nat := [0, 1, 3, 0, 8, 24, 63, 127]
theorem spec_l05Wide.tab9 : rtab .any (opsOf Tryd.f98 9) = spec_l05Wide.T9 := by kernel_rfl
theorem spec_l05Wide.bits9 : waitsOk spec_l05Wide.T9.2 spec_l05Wide.B9 = true := by kernel_rfl
set_option maxHeartbeats 8000000 in
set_option maxRecDepth 100000 in
theorem spec_l05Wide.calls (k : Nat) (a0 : Int) (r : List Int) (w : World) (h : spec_l05Wide.f k a0 = some r) :
  Calls Tryd.prog 98 #[.int .i64 a0] w fun e w' => ∃ v0_ : Value, e = .returned (v0_) ∧ Kd.R (Kd.int .i64) 2 w' w.heap.size (fun _ => True) v0_ r ∧ Below w.heap.size w w' := by
 have HB := Aside0.mk (Below.refl w.heap.size w)
 have H : (if a0 ≥ 9984 then (spec_l05Wide.j0 k a0 (decide (a0 ≤ 10009))) else (spec_l05Wide.j0 k a0 false)) = some r := h
 clear h
 have HC2 := Aside0.mk H
 clear H
 go_enter Tryd.func98, Tryd.ntmps98
 go_upto_region 1 with (fail)
 go_cut [4] (fun v4 wc => ∃ (kq : Nat) (x4_1 : Bool), v4 = .bool x4_1 ∧ Aside0 (spec_l05Wide.j0 kq a0 x4_1 = some r) ∧ Aside0 (kq ≤ k) ∧ Aside0 (Below w.heap.size w wc))
 case first =>
  have H := HC2.out
  clear HC2
  by_cases c3 : a0 ≥ 9984
  ·rw [if_pos c3] at H
   have c3b0 : decide (9984 ≤ a0) = true := decide_eq_true c3
   clear c3
   (first | rw [c3b0] | (simp only [i64_w, i32_w]; rw [c3b0]) | skip)
   have H' := Aside0.mk H
   clear H
   go_wp2
   go_meet
   case rel => exact ⟨_, (decide (a0 ≤ 10009)), (by first | rfl | (simp; done) | (simp [*]; done)), H', ⟨by first | omega | exact Nat.le_refl _⟩, ⟨by repeat (first | (with_reducible first | exact HB.out | apply below_alloc | apply pw_below_drewN | apply below_drew1) | exact HB.out)⟩⟩
  ·rw [if_neg c3] at H
   have c3b0 : decide (9984 ≤ a0) = false := decide_eq_false c3
   clear c3
   (first | rw [c3b0] | (simp only [i64_w, i32_w]; rw [c3b0]) | skip)
   have H' := Aside0.mk H
   clear H
   go_wp2
   go_meet
   case rel => exact ⟨_, (false), (by first | rfl | (simp; done) | (simp [*]; done)), H', ⟨by first | omega | exact Nat.le_refl _⟩, ⟨by repeat (first | (with_reducible first | exact HB.out | apply below_alloc | apply pw_below_drewN | apply below_drew1) | exact HB.out)⟩⟩
 case rest =>
  clear HC2
  try clear p2
  try clear c3
  try clear c3b0
  obtain ⟨kq, x4_1, rfl, HA, HJ1, HB⟩ := hcut
  cases kq with
  | zero => exact absurd HA.out (by simp [spec_l05Wide.j0])
  | succ kj1 =>
   have H := HA.out
   clear HA
   simp only [spec_l05Wide.j0] at H
   by_cases c4 : x4_1 = true
   ·subst c4
    have H1 : (some (([wrap64 ((wrap64 (a0 - 9984)) + 65)] : List Int))) = some r := by rw [if_pos rfl] at H; exact H
    clear H
    have H := H1
    clear H1
    obtain ⟨y116, hy116⟩ : ∃ y_ : List Int, y_ = (([wrap64 ((wrap64 (a0 - 9984)) + 65)] : List Int)) := ⟨_, rfl⟩
    replace H : (some y116) = some r := by first | (rw [hy116]; with_reducible exact H) | (have H2_ := (Option.bind_some _ _).symm.trans H; rw [hy116]; with_reducible exact H2_) | (have H2_ := (Option.bind_some _ _).symm.trans H; with_reducible exact H2_) | with_reducible exact H | (rw [hy116]; exact H) | exact H
    have Ny116 := Aside0.mk hy116
    clear hy116
    obtain rfl := Option.some.inj H
    go_wp2_with (first | ((with_reducible refine gate_dst (N := 14) rfl ?_); refine Kd.R_lit (Kd.int .i64) _ 2 ?hg (N := 14) ?hd (xs := ([wrap64 ((wrap64 (a0 - 9984)) + 65)] : List Int)) (inner := [.int .i64 (wrap64 ((wrap64 (a0 - 9984)) + 65))]) (ok := fun _ => True) (okp := fun _ => True) ?hr ?hp (fun _ hk => hk) trivial (Below.refl _ _) (Nat.le_refl _) (by simp) ?_; (case hd => rfl); (case hg => rfl); (case hr => first | (go_simp; done) | (go_simp; rfl)); (case hp => exact (Reps.one (show Kd.M (Kd.int .i64) _ _ _ (wrap64 ((wrap64 (a0 - 9984)) + 65)) [.int .i64 (wrap64 ((wrap64 (a0 - 9984)) + 65))] from rfl) (Reps.none _ _))); intro v117 w5 ho6 hb hg_ hnew_; clear hg_ hnew_; (first | rw [← Ny116.out] at ho6 | (simp only [Int.reduceToNat] at ho6; rw [← Ny116.out] at ho6)); have n0_ := Aside0.mk (Kd.R_lower ho6 (below_size (by repeat (first | (with_reducible first | exact HB.out | apply below_alloc | apply pw_below_drewN | apply below_drew1) | exact HB.out)))); have n1_ := Aside0.mk (below_step (by repeat (first | (with_reducible first | exact HB.out | apply below_alloc | apply pw_below_drewN | apply below_drew1) | exact HB.out)) hb); clear HB; have HO118 := n0_; have HB := n1_; clear n0_ n1_; clear hb ho6))
    go_ret
    exact ⟨_, by first | rfl | (simp [errW_none, errW_some] <;> rfl) | (simp [*, errW_none, errW_some] <;> rfl), by (with_reducible repeat (first | apply Kd.R_alloc | apply Kd.R_drewN | apply Kd.R_drew)); exact HO118.out, by repeat (first | (with_reducible first | exact HB.out | apply below_alloc | apply pw_below_drewN | apply below_drew1) | exact HB.out)⟩
   ·replace c4 := Bool.eq_false_iff.mpr c4
    subst c4
    have H1 : (if a0 ≥ 10016 then (spec_l05Wide.j1 kj1 a0 (decide (a0 ≤ 10025))) else (spec_l05Wide.j1 kj1 a0 false)) = some r := by rw [if_neg (show ¬ (false = true) by decide)] at H; exact H
    clear H
    have H := H1
    clear H1
    have HC7 := Aside0.mk H
    clear H
    go_upto_region 3 with (fail)
    go_cut [15] (fun v15 wc => ∃ (kq : Nat) (x15_6 : Bool), v15 = .bool x15_6 ∧ Aside0 (spec_l05Wide.j1 kq a0 x15_6 = some r) ∧ Aside0 (kq ≤ kj1) ∧ Aside0 (Below w.heap.size w wc))
    case first =>
     have H := HC7.out
     clear HC7
     by_cases c8 : a0 ≥ 10016
     ·rw [if_pos c8] at H
      have c8b0 : decide (10016 ≤ a0) = true := decide_eq_true c8
      clear c8
      (first | rw [c8b0] | (simp only [i64_w, i32_w]; rw [c8b0]) | skip)
      have H' := Aside0.mk H
      clear H
      go_wp2
      go_meet
      case rel => exact ⟨_, (decide (a0 ≤ 10025)), (by first | rfl | (simp; done) | (simp [*]; done)), H', ⟨by have := HJ1.out; first | omega | exact Nat.le_refl _⟩, ⟨by repeat (first | (with_reducible first | exact HB.out | apply below_alloc | apply pw_below_drewN | apply below_drew1) | exact HB.out)⟩⟩
     ·rw [if_neg c8] at H
      have c8b0 : decide (10016 ≤ a0) = false := decide_eq_false c8
      clear c8
      (first | rw [c8b0] | (simp only [i64_w, i32_w]; rw [c8b0]) | skip)
      have H' := Aside0.mk H
      clear H
      go_wp2
      go_meet
      case rel => exact ⟨_, (false), (by first | rfl | (simp; done) | (simp [*]; done)), H', ⟨by have := HJ1.out; first | omega | exact Nat.le_refl _⟩, ⟨by repeat (first | (with_reducible first | exact HB.out | apply below_alloc | apply pw_below_drewN | apply below_drew1) | exact HB.out)⟩⟩
    case rest =>
     clear HC7
     try clear p2
     try clear c3
     try clear c3b0
     try clear c4
     try clear p6
     try clear c8
     try clear c8b0
     try clear p2
     obtain ⟨kq, x15_6, rfl, HA, HJ6, HB⟩ := hcut
     cases kq with
     | zero => exact absurd HA.out (by simp [spec_l05Wide.j1])
     | succ kj6 =>
      have H := HA.out
      clear HA
      simp only [spec_l05Wide.j1] at H
      by_cases c9 : x15_6 = true
      ·subst c9
       have H1 : (some (([wrap64 ((wrap64 (a0 - 10016)) + 48)] : List Int))) = some r := by rw [if_pos rfl] at H; exact H
       clear H
       have H := H1
       clear H1
       obtain ⟨y119, hy119⟩ : ∃ y_ : List Int, y_ = (([wrap64 ((wrap64 (a0 - 10016)) + 48)] : List Int)) := ⟨_, rfl⟩
       replace H : (some y119) = some r := by first | (rw [hy119]; with_reducible exact H) | (have H2_ := (Option.bind_some _ _).symm.trans H; rw [hy119]; with_reducible exact H2_) | (have H2_ := (Option.bind_some _ _).symm.trans H; with_reducible exact H2_) | with_reducible exact H | (rw [hy119]; exact H) | exact H
       have Ny119 := Aside0.mk hy119
       clear hy119
       obtain rfl := Option.some.inj H
       go_wp2_with (first | ((with_reducible refine gate_dst (N := 25) rfl ?_); refine Kd.R_lit (Kd.int .i64) _ 2 ?hg (N := 25) ?hd (xs := ([wrap64 ((wrap64 (a0 - 10016)) + 48)] : List Int)) (inner := [.int .i64 (wrap64 ((wrap64 (a0 - 10016)) + 48))]) (ok := fun _ => True) (okp := fun _ => True) ?hr ?hp (fun _ hk => hk) trivial (Below.refl _ _) (Nat.le_refl _) (by simp) ?_; (case hd => rfl); (case hg => rfl); (case hr => first | (go_simp; done) | (go_simp; rfl)); (case hp => exact (Reps.one (show Kd.M (Kd.int .i64) _ _ _ (wrap64 ((wrap64 (a0 - 10016)) + 48)) [.int .i64 (wrap64 ((wrap64 (a0 - 10016)) + 48))] from rfl) (Reps.none _ _))); intro v120 w10 ho11 hb hg_ hnew_; clear hg_ hnew_; (first | rw [← Ny119.out] at ho11 | (simp only [Int.reduceToNat] at ho11; rw [← Ny119.out] at ho11)); have n0_ := Aside0.mk (Kd.R_lower ho11 (below_size (by repeat (first | (with_reducible first | exact HB.out | apply below_alloc | apply pw_below_drewN | apply below_drew1) | exact HB.out)))); have n1_ := Aside0.mk (below_step (by repeat (first | (with_reducible first | exact HB.out | apply below_alloc | apply pw_below_drewN | apply below_drew1) | exact HB.out)) hb); clear HB; have HO121 := n0_; have HB := n1_; clear n0_ n1_; clear hb ho11))
       go_ret
       exact ⟨_, by first | rfl | (simp [errW_none, errW_some] <;> rfl) | (simp [*, errW_none, errW_some] <;> rfl), by (with_reducible repeat (first | apply Kd.R_alloc | apply Kd.R_drewN | apply Kd.R_drew)); exact HO121.out, by repeat (first | (with_reducible first | exact HB.out | apply below_alloc | apply pw_below_drewN | apply below_drew1) | exact HB.out)⟩
      ·replace c9 := Bool.eq_false_iff.mpr c9
       subst c9
       have H1 : (if a0 = 8064 then (spec_l05Wide.j2 kj6 a0 true) else (spec_l05Wide.j2 kj6 a0 (a0 == 160))) = some r := by rw [if_neg (show ¬ (false = true) by decide)] at H; exact H
       clear H
       have H := H1
       clear H1
       have HC12 := Aside0.mk H
       clear H
       go_upto_region 5 with (fail)
       go_cut [26] (fun v26 wc => ∃ (kq : Nat) (x26_11 : Bool), v26 = .bool x26_11 ∧ Aside0 (spec_l05Wide.j2 kq a0 x26_11 = some r) ∧ Aside0 (kq ≤ kj6) ∧ Aside0 (Below w.heap.size w wc))
       case first =>
        have H := HC12.out
        clear HC12
        by_cases c13 : a0 = 8064
        ·rw [if_pos c13] at H
         have c13b0 : (a0 == 8064) = true := beq_iff_eq.mpr c13
         have c13b1 : (a0 != 8064) = false := bne_eq_false_iff_eq.mpr c13
         clear c13
         (first | rw [c13b0] | (simp only [i64_w, i32_w]; rw [c13b0]) | skip)
         have H' := Aside0.mk H
         clear H
         go_wp2
         go_meet
         case rel => exact ⟨_, (true), (by first | rfl | (simp; done) | (simp [*]; done)), H', ⟨by have := HJ1.out; have := HJ6.out; first | omega | exact Nat.le_refl _⟩, ⟨by repeat (first | (with_reducible first | exact HB.out | apply below_alloc | apply pw_below_drewN | apply below_drew1) | exact HB.out)⟩⟩
        ·rw [if_neg c13] at H
         have c13b0 : (a0 == 8064) = false := beq_eq_false_iff_ne.mpr c13
         have c13b1 : (a0 != 8064) = true := bne_iff_ne.mpr c13
         (first | rw [c13b0] | (simp only [i64_w, i32_w]; rw [c13b0]) | skip)
         have H' := Aside0.mk H
         clear H
         go_wp2
         go_meet
         case rel => exact ⟨_, ((a0 == 160)), (by first | rfl | (simp; done) | (simp [*]; done)), H', ⟨by have := HJ1.out; have := HJ6.out; first | omega | exact Nat.le_refl _⟩, ⟨by repeat (first | (with_reducible first | exact HB.out | apply below_alloc | apply pw_below_drewN | apply below_drew1) | exact HB.out)⟩⟩
       case rest =>
        clear HC12
        try clear c1
        try clear p2
        try clear c3
        try clear c3b0
        try clear c4
        try clear p6
        try clear c8
        try clear c8b0
        try clear c9
        try clear c13
        try clear c13b0
        try clear c13b1
        try clear p2
        try clear p6
        obtain ⟨kq, x26_11, rfl, HA, HJ11, HB⟩ := hcut
        cases kq with
        | zero => exact absurd HA.out (by simp [spec_l05Wide.j2])
        | succ kj11 =>
         have H := HA.out
         clear HA
         simp only [spec_l05Wide.j2] at H
         by_cases c14 : x26_11 = true
         ·subst c14
          have H1 : (some (([32] : List Int))) = some r := by rw [if_pos rfl] at H; exact H
          clear H
          have H := H1
          clear H1
          obtain ⟨y122, hy122⟩ : ∃ y_ : List Int, y_ = (([32] : List Int)) := ⟨_, rfl⟩
          replace H : (some y122) = some r := by first | (rw [hy122]; with_reducible exact H) | (have H2_ := (Option.bind_some _ _).symm.trans H; rw [hy122]; with_reducible exact H2_) | (have H2_ := (Option.bind_some _ _).symm.trans H; with_reducible exact H2_) | with_reducible exact H | (rw [hy122]; exact H) | exact H
          have Ny122 := Aside0.mk hy122
          clear hy122
          obtain rfl := Option.some.inj H
          go_wp2_with (first | ((with_reducible refine gate_dst (N := 33) rfl ?_); refine Kd.R_lit (Kd.int .i64) _ 2 ?hg (N := 33) ?hd (xs := ([32] : List Int)) (inner := [.int .i64 32]) (ok := fun _ => True) (okp := fun _ => True) ?hr ?hp (fun _ hk => hk) trivial (Below.refl _ _) (Nat.le_refl _) (by simp) ?_; (case hd => rfl); (case hg => rfl); (case hr => first | (go_simp; done) | (go_simp; rfl)); (case hp => exact (Reps.one (show Kd.M (Kd.int .i64) _ _ _ 32 [.int .i64 32] from rfl) (Reps.none _ _))); intro v123 w15 ho16 hb hg_ hnew_; clear hg_ hnew_; (first | rw [← Ny122.out] at ho16 | (simp only [Int.reduceToNat] at ho16; rw [← Ny122.out] at ho16)); have n0_ := Aside0.mk (Kd.R_lower ho16 (below_size (by repeat (first | (with_reducible first | exact HB.out | apply below_alloc | apply pw_below_drewN | apply below_drew1) | exact HB.out)))); have n1_ := Aside0.mk (below_step (by repeat (first | (with_reducible first | exact HB.out | apply below_alloc | apply pw_below_drewN | apply below_drew1) | exact HB.out)) hb); clear HB; have HO124 := n0_; have HB := n1_; clear n0_ n1_; clear hb ho16))
          go_ret
          exact ⟨_, by first | rfl | (simp [errW_none, errW_some] <;> rfl) | (simp [*, errW_none, errW_some] <;> rfl), by (with_reducible repeat (first | apply Kd.R_alloc | apply Kd.R_drewN | apply Kd.R_drew)); exact HO124.out, by repeat (first | (with_reducible first | exact HB.out | apply below_alloc | apply pw_below_drewN | apply below_drew1) | exact HB.out)⟩
         ·replace c14 := Bool.eq_false_iff.mpr c14
          subst c14
          have H1 : (if a0 ≥ 10032 then (if a0 ≤ 10035 then (if 0 ≤ (wrap64 (2 * (wrap64 (a0 - 10032)))) then (if (wrap64 (2 * (wrap64 (a0 - 10032)))) ≤ (wrap64 ((wrap64 (2 * (wrap64 (a0 - 10032)))) + 2)) then (if (wrap64 ((wrap64 (2 * (wrap64 (a0 - 10032)))) + 2)) ≤ 8 then (if 0 < (((⟨#[102, 102, 102, 105, 102, 108, 115, 116]⟩ : ByteArray).extract ((wrap64 (2 * (wrap64 (a0 - 10032)))) : Int).toNat ((wrap64 ((wrap64 (2 * (wrap64 (a0 - 10032)))) + 2)) : Int).toNat).size : Int) then (if 1 < (((⟨#[102, 102, 102, 105, 102, 108, 115, 116]⟩ : ByteArray).extract ((wrap64 (2 * (wrap64 (a0 - 10032)))) : Int).toNat ((wrap64 ((wrap64 (2 * (wrap64 (a0 - 10032)))) + 2)) : Int).toNat).size : Int) then (some (([wrap64 (bt ((⟨#[102, 102, 102, 105, 102, 108, 115, 116]⟩ : ByteArray).extract ((wrap64 (2 * (wrap64 (a0 - 10032)))) : Int).toNat ((wrap64 ((wrap64 (2 * (wrap64 (a0 - 10032)))) + 2)) : Int).toNat) 0), wrap64 (bt ((⟨#[102, 102, 102, 105, 102, 108, 115, 116]⟩ : ByteArray).extract ((wrap64 (2 * (wrap64 (a0 - 10032)))) : Int).toNat ((wrap64 ((wrap64 (2 * (wrap64 (a0 - 10032)))) + 2)) : Int).toNat) 1)] : List Int))) else (none)) else (none)) else (none)) else (none)) else (none)) else (some (([] : List Int)))) else (some (([] : List Int)))) = some r := by rw [if_neg (show ¬ (false = true) by decide)] at H; exact H
          clear H
          have H := H1
          clear H1
          by_cases c17 : a0 ≥ 10032
          ·rw [if_pos c17] at H
           have c17b0 : decide (10032 ≤ a0) = true := decide_eq_true c17
           clear c17
           by_cases c18 : a0 ≤ 10035
           ·rw [if_pos c18] at H
            have c18b0 : decide (a0 ≤ 10035) = true := decide_eq_true c18
            clear c18
            obtain ⟨ji19, hji19⟩ : ∃ j_ : Int, (wrap64 (2 * (wrap64 (a0 - 10032)))) = j_ := ⟨_, rfl⟩
            replace H : (if 0 ≤ (ji19) then (if (ji19) ≤ (wrap64 ((ji19) + 2)) then (if (wrap64 ((ji19) + 2)) ≤ 8 then (if 0 < (((⟨#[102, 102, 102, 105, 102, 108, 115, 116]⟩ : ByteArray).extract ((ji19) : Int).toNat ((wrap64 ((ji19) + 2)) : Int).toNat).size : Int) then (if 1 < (((⟨#[102, 102, 102, 105, 102, 108, 115, 116]⟩ : ByteArray).extract ((ji19) : Int).toNat ((wrap64 ((ji19) + 2)) : Int).toNat).size : Int) then (some (([wrap64 (bt ((⟨#[102, 102, 102, 105, 102, 108, 115, 116]⟩ : ByteArray).extract ((ji19) : Int).toNat ((wrap64 ((ji19) + 2)) : Int).toNat) 0), wrap64 (bt ((⟨#[102, 102, 102, 105, 102, 108, 115, 116]⟩ : ByteArray).extract ((ji19) : Int).toNat ((wrap64 ((ji19) + 2)) : Int).toNat) 1)] : List Int))) else (none)) else (none)) else (none)) else (none)) else (none)) = some r := by first | (rw [hji19] at H; exact H) | (simp only [hji19] at H ⊢; exact H)
            have hji19w : (IntKind.i64.wrap (2 * (wrap64 (a0 - 10032)))) = ji19 := (i64_w _).trans hji19
            by_cases c20 : 0 ≤ (ji19)
            ·rw [if_pos c20] at H
             have c20b0 := eq_true c20
             have c20b1 : decide (0 ≤ (ji19)) = true := decide_eq_true c20
             clear c20
             by_cases c21 : (ji19) ≤ (wrap64 ((ji19) + 2))
             ·rw [if_pos c21] at H
              have c21b0 := eq_true c21
              have c21b1 : decide ((ji19) ≤ (wrap64 ((ji19) + 2))) = true := decide_eq_true c21
              by_cases c22 : (wrap64 ((ji19) + 2)) ≤ 8
              ·rw [if_pos c22] at H
               have c22b0 := eq_true c22
               have c22b1 : decide ((wrap64 ((ji19) + 2)) ≤ 8) = true := decide_eq_true c22
               by_cases c23 : 0 < (((⟨#[102, 102, 102, 105, 102, 108, 115, 116]⟩ : ByteArray).extract ((ji19) : Int).toNat ((wrap64 ((ji19) + 2)) : Int).toNat).size : Int)
               ·rw [if_pos c23] at H
                have c23b0 : decide (0 < (((⟨#[102, 102, 102, 105, 102, 108, 115, 116]⟩ : ByteArray).extract ((ji19) : Int).toNat ((wrap64 ((ji19) + 2)) : Int).toNat).size : Int)) = true := decide_eq_true c23
                have c23b1 : decide (0 < ((⟨#[102, 102, 102, 105, 102, 108, 115, 116]⟩ : ByteArray).extract ((ji19) : Int).toNat ((wrap64 ((ji19) + 2)) : Int).toNat).size) = true := decide_eq_true (by omega)
                clear c23
                by_cases c25 : 1 < (((⟨#[102, 102, 102, 105, 102, 108, 115, 116]⟩ : ByteArray).extract ((ji19) : Int).toNat ((wrap64 ((ji19) + 2)) : Int).toNat).size : Int)
                ·rw [if_pos c25] at H
                 have c25b0 : decide (1 < (((⟨#[102, 102, 102, 105, 102, 108, 115, 116]⟩ : ByteArray).extract ((ji19) : Int).toNat ((wrap64 ((ji19) + 2)) : Int).toNat).size : Int)) = true := decide_eq_true c25
                 have c25b1 : decide (1 < ((⟨#[102, 102, 102, 105, 102, 108, 115, 116]⟩ : ByteArray).extract ((ji19) : Int).toNat ((wrap64 ((ji19) + 2)) : Int).toNat).size) = true := decide_eq_true (by omega)
                 clear c25
                 obtain ⟨y125, hy125⟩ : ∃ y_ : List Int, y_ = (([wrap64 (bt ((⟨#[102, 102, 102, 105, 102, 108, 115, 116]⟩ : ByteArray).extract ((ji19) : Int).toNat ((wrap64 ((ji19) + 2)) : Int).toNat) 0), wrap64 (bt ((⟨#[102, 102, 102, 105, 102, 108, 115, 116]⟩ : ByteArray).extract ((ji19) : Int).toNat ((wrap64 ((ji19) + 2)) : Int).toNat) 1)] : List Int)) := ⟨_, rfl⟩
                 replace H : (some y125) = some r := by first | (rw [hy125]; with_reducible exact H) | (have H2_ := (Option.bind_some _ _).symm.trans H; rw [hy125]; with_reducible exact H2_) | (have H2_ := (Option.bind_some _ _).symm.trans H; with_reducible exact H2_) | with_reducible exact H | (rw [hy125]; exact H) | exact H
                 have Ny125 := Aside0.mk hy125
                 clear hy125
                 obtain rfl := Option.some.inj H
                 try go_wp2
                 have n0_ := Aside0.mk (below_drew1 HB.out)
                 clear HB
                 have HB := n0_
                 clear n0_
                 have p24 : 0 ≤ (0 : Int) := (by omega)
                 have q24 : 0 < ((⟨#[102, 102, 102, 105, 102, 108, 115, 116]⟩ : ByteArray).extract ((ji19) : Int).toNat ((wrap64 ((ji19) + 2)) : Int).toNat).size := (by have : (0 : Int) < (((⟨#[102, 102, 102, 105, 102, 108, 115, 116]⟩ : ByteArray).extract ((ji19) : Int).toNat ((wrap64 ((ji19) + 2)) : Int).toNat).size : Int) := of_decide_eq_true (by first | (with_reducible assumption) | assumption); omega)
                 have hx24 : ∀ h : 0 < ((⟨#[102, 102, 102, 105, 102, 108, 115, 116]⟩ : ByteArray).extract ((ji19) : Int).toNat ((wrap64 ((ji19) + 2)) : Int).toNat).size, ((((⟨#[102, 102, 102, 105, 102, 108, 115, 116]⟩ : ByteArray).extract ((ji19) : Int).toNat ((wrap64 ((ji19) + 2)) : Int).toNat)[0]'h).toNat : Int) = bt ((⟨#[102, 102, 102, 105, 102, 108, 115, 116]⟩ : ByteArray).extract ((ji19) : Int).toNat ((wrap64 ((ji19) + 2)) : Int).toNat) 0 := bt_at ((⟨#[102, 102, 102, 105, 102, 108, 115, 116]⟩ : ByteArray).extract ((ji19) : Int).toNat ((wrap64 ((ji19) + 2)) : Int).toNat) 0
                 clear p24
                 have qi24 : (0 < (((⟨#[102, 102, 102, 105, 102, 108, 115, 116]⟩ : ByteArray).extract ((ji19) : Int).toNat ((wrap64 ((ji19) + 2)) : Int).toNat).size : Int)) = True := eq_true (of_decide_eq_true (by first | (with_reducible assumption) | assumption))
                 replace q24 := eq_true q24
                 have qnq24_ : (0 < ((wrap64 ((ji19) + 2)) : Int).toNat - ((ji19) : Int).toNat) = True := eq_true (by have h_ := of_eq_true q24; rw [ByteArray.size_extract] at h_; omega)
                 have qmq24_ : ((0 : Int) < ((((wrap64 ((ji19) + 2)) : Int).toNat - ((ji19) : Int).toNat : Nat) : Int)) = True := eq_true (by have h_ := of_eq_true qnq24_; omega)
                 have p26 : 0 ≤ (1 : Int) := (by omega)
                 have q26 : 1 < ((⟨#[102, 102, 102, 105, 102, 108, 115, 116]⟩ : ByteArray).extract ((ji19) : Int).toNat ((wrap64 ((ji19) + 2)) : Int).toNat).size := (by have : (1 : Int) < (((⟨#[102, 102, 102, 105, 102, 108, 115, 116]⟩ : ByteArray).extract ((ji19) : Int).toNat ((wrap64 ((ji19) + 2)) : Int).toNat).size : Int) := of_decide_eq_true (by first | (with_reducible assumption) | assumption); omega)
                 have hx26 : ∀ h : 1 < ((⟨#[102, 102, 102, 105, 102, 108, 115, 116]⟩ : ByteArray).extract ((ji19) : Int).toNat ((wrap64 ((ji19) + 2)) : Int).toNat).size, ((((⟨#[102, 102, 102, 105, 102, 108, 115, 116]⟩ : ByteArray).extract ((ji19) : Int).toNat ((wrap64 ((ji19) + 2)) : Int).toNat)[1]'h).toNat : Int) = bt ((⟨#[102, 102, 102, 105, 102, 108, 115, 116]⟩ : ByteArray).extract ((ji19) : Int).toNat ((wrap64 ((ji19) + 2)) : Int).toNat) 1 := bt_at ((⟨#[102, 102, 102, 105, 102, 108, 115, 116]⟩ : ByteArray).extract ((ji19) : Int).toNat ((wrap64 ((ji19) + 2)) : Int).toNat) 1
                 clear p26
                 have qi26 : (1 < (((⟨#[102, 102, 102, 105, 102, 108, 115, 116]⟩ : ByteArray).extract ((ji19) : Int).toNat ((wrap64 ((ji19) + 2)) : Int).toNat).size : Int)) = True := eq_true (of_decide_eq_true (by first | (with_reducible assumption) | assumption))
                 replace q26 := eq_true q26
                 have qnq26_ : (1 < ((wrap64 ((ji19) + 2)) : Int).toNat - ((ji19) : Int).toNat) = True := eq_true (by have h_ := of_eq_true q26; rw [ByteArray.size_extract] at h_; omega)
                 have qmq26_ : ((1 : Int) < ((((wrap64 ((ji19) + 2)) : Int).toNat - ((ji19) : Int).toNat : Nat) : Int)) = True := eq_true (by have h_ := of_eq_true qnq26_; omega)
                 refine start_ (n := 8) (S := fun w' => True) (ds := []) #[false, false, false, false, false, false, false, false] (by kernel_rfl) rfl rfl trivial (fun hHeld => ?_); refine with_tabW spec_l05Wide.tab9 spec_l05Wide.bits9 (fun HT_ HW_ => ?_)
                 generalize wc.drew = w27 at HB hHeld ⊢
                 refine pq 0 49 HT_.out ?_
                 refine pq 3 52 HT_.out ?_
                 refine take_ (i := 1) (N := some 50) (v := ?_) (a' := ?_) #[true, true, false, true, false, false, false, false] rfl rfl (take_ofW HT_.out HW_.out (by kernel_rfl)) (fun _ _ _ h => h) (Or.inl ⟨by rfl, ?_⟩) hHeld ?_ ?_
                 rotate_left
                 ·intro w' _
                  go_simp
                  with_reducible rfl
                 rotate_left
                 ·simp only [Act.put, List.setIfInBounds_toArray, List.set_cons_zero, List.set_cons_succ, i64_w, i32_w]
                  rfl
                 refine pq 2 51 HT_.out ?_
                 refine take_ (i := 4) (N := some 53) (v := ?_) (a' := ?_) #[true, true, true, true, true, false, false, false] rfl rfl (take_ofW HT_.out HW_.out (by kernel_rfl)) (fun _ _ _ h => h) (Or.inl ⟨by rfl, ?_⟩) hHeld ?_ ?_
                 rotate_left
                 ·intro w' _
                  go_simp
                  with_reducible rfl
                 rotate_left
                 ·simp only [Act.put, List.setIfInBounds_toArray, List.set_cons_zero, List.set_cons_succ, i64_w, i32_w]
                  rfl
                 refine pq 5 54 HT_.out ?_
                 refine one_ (i := 6) (N := some 55) #[true, true, true, true, true, true, true, false] rfl rfl (one_of HT_.out (by kernel_rfl)) (by decide) (fun K hK => ?_)
                 refine Kd.R_lit_step (Kd.int .i64) _ 2 ?hg (N := 55) ?hd (xs := ([wrap64 (bt ((⟨#[102, 102, 102, 105, 102, 108, 115, 116]⟩ : ByteArray).extract ((ji19) : Int).toNat ((wrap64 ((ji19) + 2)) : Int).toNat) 0), wrap64 (bt ((⟨#[102, 102, 102, 105, 102, 108, 115, 116]⟩ : ByteArray).extract ((ji19) : Int).toNat ((wrap64 ((ji19) + 2)) : Int).toNat) 1)] : List Int)) (inner := [.int .i64 (wrap64 (bt ((⟨#[102, 102, 102, 105, 102, 108, 115, 116]⟩ : ByteArray).extract ((ji19) : Int).toNat ((wrap64 ((ji19) + 2)) : Int).toNat) 0)), .int .i64 (wrap64 (bt ((⟨#[102, 102, 102, 105, 102, 108, 115, 116]⟩ : ByteArray).extract ((ji19) : Int).toNat ((wrap64 ((ji19) + 2)) : Int).toNat) 1))]) (ok := fun _ => True) (okp := fun _ => True) ?hr ?hp (fun _ hk => hk) trivial (Below.refl _ _) (Nat.le_refl _) (by simp) ?_; (case hd => rfl); (case hg => rfl); (case hr => first | (go_simp; done) | (go_simp; rfl)); (case hp => exact (Reps.one (show Kd.M (Kd.int .i64) _ _ _ (wrap64 (bt ((⟨#[102, 102, 102, 105, 102, 108, 115, 116]⟩ : ByteArray).extract ((ji19) : Int).toNat ((wrap64 ((ji19) + 2)) : Int).toNat) 0)) [.int .i64 (wrap64 (bt ((⟨#[102, 102, 102, 105, 102, 108, 115, 116]⟩ : ByteArray).extract ((ji19) : Int).toNat ((wrap64 ((ji19) + 2)) : Int).toNat) 0))] from rfl) (Reps.one (show Kd.M (Kd.int .i64) _ _ _ (wrap64 (bt ((⟨#[102, 102, 102, 105, 102, 108, 115, 116]⟩ : ByteArray).extract ((ji19) : Int).toNat ((wrap64 ((ji19) + 2)) : Int).toNat) 1)) [.int .i64 (wrap64 (bt ((⟨#[102, 102, 102, 105, 102, 108, 115, 116]⟩ : ByteArray).extract ((ji19) : Int).toNat ((wrap64 ((ji19) + 2)) : Int).toNat) 1))] from rfl) (Reps.none _ _))))
                 intro v126 w28 ho29 hb hg_ hnew_
                 clear hg_ hnew_
                 (first | rw [← Ny125.out] at ho29 | (simp only [Int.reduceToNat] at ho29; rw [← Ny125.out] at ho29))
                 have n0_ := Aside0.mk (Kd.R_lower ho29 (below_size (by repeat (first | (with_reducible first | exact HB.out | apply below_alloc | apply pw_below_drewN | apply below_drew1) | exact HB.out))))
                 have n1_ := Aside0.mk (below_step (by repeat (first | (with_reducible first | exact HB.out | apply below_alloc | apply pw_below_drewN | apply below_drew1) | exact HB.out)) hb)
                 clear HB
                 have HO127 := n0_
                 have HB := n1_
                 clear n0_ n1_
                 clear hb ho29
                 refine hK.out _ _ trivial (fun hHeld => ?_)
                 clear hK K
                 refine norm_ (a' := ?_) ?_ ?_
                 rotate_left
                 ·show Act.put _ (some 55) _ = _
                  simp only [Act.put, List.setIfInBounds_toArray, List.set_cons_zero, List.set_cons_succ, i64_w, i32_w]
                  rfl
                 refine pq 7 2 HT_.out ?_
                 refine done_ (done_of HT_.out (by kernel_rfl)) ?_
                 try go_wp2
                 go_ret
                 exact ⟨_, by first | rfl | (simp [errW_none, errW_some] <;> rfl) | (simp only [← hji19]; first | rfl | (simp [errW_none, errW_some] <;> rfl)) | (simp [*, errW_none, errW_some] <;> rfl), by (with_reducible repeat (first | apply Kd.R_alloc | apply Kd.R_drewN | apply Kd.R_drew)); exact HO127.out, by repeat (first | (with_reducible first | exact HB.out | apply below_alloc | apply pw_below_drewN | apply below_drew1) | exact HB.out)⟩
                ·rw [if_neg c25] at H
                 exact absurd H (by simp)
               ·rw [if_neg c23] at H
                exact absurd H (by simp)
              ·rw [if_neg c22] at H
               exact absurd H (by simp)
             ·rw [if_neg c21] at H
              exact absurd H (by simp)
            ·rw [if_neg c20] at H
             exact absurd H (by simp)
           ·rw [if_neg c18] at H
            have c18b0 : decide (a0 ≤ 10035) = false := decide_eq_false c18
            clear c18
            obtain ⟨y128, hy128⟩ : ∃ y_ : List Int, y_ = (([] : List Int)) := ⟨_, rfl⟩
            replace H : (some y128) = some r := by first | (rw [hy128]; with_reducible exact H) | (have H2_ := (Option.bind_some _ _).symm.trans H; rw [hy128]; with_reducible exact H2_) | (have H2_ := (Option.bind_some _ _).symm.trans H; with_reducible exact H2_) | with_reducible exact H | (rw [hy128]; exact H) | exact H
            have Ny128 := Aside0.mk hy128
            clear hy128
            obtain rfl := Option.some.inj H
            go_wp2_with (first | ((with_reducible refine gate_dst (N := 56) rfl ?_); refine Kd.R_lit (Kd.int .i64) _ 2 ?hg (N := 56) ?hd (xs := ([] : List Int)) (inner := []) (ok := fun _ => True) (okp := fun _ => True) ?hr ?hp (fun _ hk => hk) trivial (Below.refl _ _) (Nat.le_refl _) (by simp) ?_; (case hd => rfl); (case hg => rfl); (case hr => first | (go_simp; done) | (go_simp; rfl)); (case hp => exact (Reps.none _ _)); intro v129 w30 ho31 hb hg_ hnew_; clear hg_ hnew_; (first | rw [← Ny128.out] at ho31 | (simp only [Int.reduceToNat] at ho31; rw [← Ny128.out] at ho31)); have n0_ := Aside0.mk (Kd.R_lower ho31 (below_size (by repeat (first | (with_reducible first | exact HB.out | apply below_alloc | apply pw_below_drewN | apply below_drew1) | exact HB.out)))); have n1_ := Aside0.mk (below_step (by repeat (first | (with_reducible first | exact HB.out | apply below_alloc | apply pw_below_drewN | apply below_drew1) | exact HB.out)) hb); clear HB; have HO130 := n0_; have HB := n1_; clear n0_ n1_; clear hb ho31))
            go_ret
            exact ⟨_, by first | rfl | (simp [errW_none, errW_some] <;> rfl) | (simp [*, errW_none, errW_some] <;> rfl), by (with_reducible repeat (first | apply Kd.R_alloc | apply Kd.R_drewN | apply Kd.R_drew)); exact HO130.out, by repeat (first | (with_reducible first | exact HB.out | apply below_alloc | apply pw_below_drewN | apply below_drew1) | exact HB.out)⟩
          ·rw [if_neg c17] at H
           have c17b0 : decide (10032 ≤ a0) = false := decide_eq_false c17
           clear c17
           obtain ⟨y131, hy131⟩ : ∃ y_ : List Int, y_ = (([] : List Int)) := ⟨_, rfl⟩
           replace H : (some y131) = some r := by first | (rw [hy131]; with_reducible exact H) | (have H2_ := (Option.bind_some _ _).symm.trans H; rw [hy131]; with_reducible exact H2_) | (have H2_ := (Option.bind_some _ _).symm.trans H; with_reducible exact H2_) | with_reducible exact H | (rw [hy131]; exact H) | exact H
           have Ny131 := Aside0.mk hy131
           clear hy131
           obtain rfl := Option.some.inj H
           go_wp2_with (first | ((with_reducible refine gate_dst (N := 56) rfl ?_); refine Kd.R_lit (Kd.int .i64) _ 2 ?hg (N := 56) ?hd (xs := ([] : List Int)) (inner := []) (ok := fun _ => True) (okp := fun _ => True) ?hr ?hp (fun _ hk => hk) trivial (Below.refl _ _) (Nat.le_refl _) (by simp) ?_; (case hd => rfl); (case hg => rfl); (case hr => first | (go_simp; done) | (go_simp; rfl)); (case hp => exact (Reps.none _ _)); intro v132 w32 ho33 hb hg_ hnew_; clear hg_ hnew_; (first | rw [← Ny131.out] at ho33 | (simp only [Int.reduceToNat] at ho33; rw [← Ny131.out] at ho33)); have n0_ := Aside0.mk (Kd.R_lower ho33 (below_size (by repeat (first | (with_reducible first | exact HB.out | apply below_alloc | apply pw_below_drewN | apply below_drew1) | exact HB.out)))); have n1_ := Aside0.mk (below_step (by repeat (first | (with_reducible first | exact HB.out | apply below_alloc | apply pw_below_drewN | apply below_drew1) | exact HB.out)) hb); clear HB; have HO133 := n0_; have HB := n1_; clear n0_ n1_; clear hb ho33))
           go_ret
           exact ⟨_, by first | rfl | (simp [errW_none, errW_some] <;> rfl) | (simp [*, errW_none, errW_some] <;> rfl), by (with_reducible repeat (first | apply Kd.R_alloc | apply Kd.R_drewN | apply Kd.R_drew)); exact HO133.out, by repeat (first | (with_reducible first | exact HB.out | apply below_alloc | apply pw_below_drewN | apply below_drew1) | exact HB.out)⟩

end Go.Proofs.YtnbedmihgnjdpaaDoor.PFnExactQuickCheck

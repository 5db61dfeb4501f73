-- Written by a program of this session (wip/tools/myprint.py) that runs the kit's print with hooks of its own. Lean checks it.
import Derived.Test.YtmlhnpggjkoinaaDoorPFnExactWordsx0
import Derived.Test.YtmlhnpggjkoinaaDoorSlimMore
import Derived.Test.YtmlhnpggjkoinaaDoorPFnExactWordsx13
namespace Go.Proofs.YtmlhnpggjkoinaaDoor.PFnExactWords
open Go.RowKit Go.Proofs.YtmlhnpggjkoinaaDoorW.PrintWords Go.Proofs.YtmlhnpggjkoinaaDoorW.PrintLast Go.Proofs.YtmlhnpggjkoinaaDoorW.PrintMore
attribute [local go_sem] max2_int min2_int max_two min_two max_three min_three max_four min_four   -- for this text's walks alone
set_option linter.unusedVariables false
set_option linter.unusedSimpArgs false

/-! ### impl_kind: function 97 -/
mutual
def impl_kind.j0 : Nat → Int → Int → Bool → Option (Int × Int)
 | 0, _, _, _ => none
 | k + 1, x5, x6, x16 => if x16 = true then (some (4, x6)) else (if x5 < 64 then (impl_kind.j1 k x5 x6 true) else ((impl_in.f x5 72 75).bind fun t374 => (if t374 = true then (impl_kind.j1 k x5 x6 true) else ((impl_in.f x5 96 97).bind fun t375 => (impl_kind.j1 k x5 x6 t375)))))
def impl_kind.j1 : Nat → Int → Int → Bool → Option (Int × Int)
 | 0, _, _, _ => none
 | k + 1, x5, x6, x24 => if x24 = true then (some (5, x6)) else ((impl_in.f x5 68 71).bind fun t376 => (if t376 = true then (some (6, x6)) else ((impl_in.f x5 80 89).bind fun t377 => (if t377 = true then (some (8, x6)) else (some (0, 0))))))
def impl_kind.j2 : Nat → Int → Bool → Option (Int × Int)
 | 0, _, _ => none
 | k + 1, x0, x44 => if x44 = true then (some (1, 0)) else (if x0 = 32 then (impl_kind.j3 k x0 true) else (if x0 = 160 then (impl_kind.j3 k x0 true) else (impl_kind.j3 k x0 (x0 == 8064))))
def impl_kind.j3 : Nat → Int → Bool → Option (Int × Int)
 | 0, _, _ => none
 | k + 1, x0, x51 => if x51 = true then (some (2, 0)) else ((impl_in.f x0 48 57).bind fun t380 => (if t380 = true then (some (8, 0)) else ((impl_in.f x0 65 90).bind fun t381 => (if t381 = true then (some (4, 1)) else ((impl_in.f x0 97 122).bind fun t382 => (if t382 = true then (some (5, 1)) else ((impl_in.f x0 33 126).bind fun t383 => (if t383 = true then (some (9, 0)) else (if x0 = 173 then (some (11, 0)) else ((impl_in.f x0 161 191).bind fun t384 => (if t384 = true then (some (10, 0)) else ((impl_in.f x0 1280 1311).bind fun t385 => (if t385 = true then (some (7, 5)) else ((impl_in.f x0 1360 1369).bind fun t386 => (if t386 = true then (some (8, 5)) else ((impl_in.f x0 1536 1567).bind fun t387 => (if t387 = true then (some (7, 6)) else ((impl_in.f x0 1568 1579).bind fun t388 => (if t388 = true then (impl_kind.j4 k x0 true) else (if x0 = 1584 then (impl_kind.j4 k x0 true) else (impl_kind.j4 k x0 (x0 == 1585))))))))))))))))))))))
def impl_kind.j4 : Nat → Int → Bool → Option (Int × Int)
 | 0, _, _ => none
 | k + 1, x0, x89 => if x89 = true then (some (3, 6)) else ((impl_in.f x0 1616 1625).bind fun t389 => (if t389 = true then (some (8, 6)) else ((impl_in.f x0 1792 1810).bind fun t390 => (if t390 = true then (impl_kind.j5 k x0 true) else ((impl_in.f x0 1824 1844).bind fun t391 => (if t391 = true then (impl_kind.j5 k x0 true) else ((impl_in.f x0 1857 1883).bind fun t392 => (if t392 = true then (impl_kind.j5 k x0 true) else ((impl_in.f x0 12288 23459).bind fun t393 => (impl_kind.j5 k x0 t393))))))))))
def impl_kind.j5 : Nat → Int → Bool → Option (Int × Int)
 | 0, _, _ => none
 | k + 1, x0, x103 => if x103 = true then (some (7, 7)) else ((impl_in.f x0 2048 2095).bind fun t394 => (if t394 = true then (some (7, 8)) else ((impl_in.f x0 4096 4159).bind fun t395 => (if t395 = true then (some (3, 0)) else ((impl_in.f x0 7680 7748).bind fun t396 => (if t396 = true then (impl_kind.j6 k x0 true) else ((impl_in.f x0 7760 7785).bind fun t397 => (impl_kind.j6 k x0 t397))))))))
def impl_kind.j6 : Nat → Int → Bool → Option (Int × Int)
 | 0, _, _ => none
 | k + 1, x0, x124 => if x124 = true then (some (10, 0)) else ((impl_in.f x0 7936 7947).bind fun t398 => (if t398 = true then (impl_kind.j7 k x0 true) else (if x0 = 7953 then (impl_kind.j7 k x0 true) else (impl_kind.j7 k x0 (x0 == 7954)))))
def impl_kind.j7 : Nat → Int → Bool → Option (Int × Int)
 | 0, _, _ => none
 | k + 1, x0, x131 => if x131 = true then (some (11, 0)) else ((impl_in.f x0 8192 9631).bind fun t399 => (if t399 = true then (impl_kind.j8 k x0 (decide ((Int.tmod (wrap64 (x0 - 8192)) 512) < 416))) else (impl_kind.j8 k x0 false)))
def impl_kind.j8 : Nat → Int → Bool → Option (Int × Int)
 | 0, _, _ => none
 | k + 1, x0, x142 => if x142 = true then (if (Int.tmod (wrap64 (x0 - 8192)) 512) < 208 then (some (4, 1)) else (some (5, 1))) else ((impl_in.f x0 9728 9753).bind fun t400 => (if t400 = true then (some (4, 1)) else ((impl_in.f x0 9984 10009).bind fun t401 => (if t401 = true then (impl_kind.j9 k x0 true) else ((impl_in.f x0 10032 10035).bind fun t402 => (impl_kind.j9 k x0 t402))))))
def impl_kind.j9 : Nat → Int → Bool → Option (Int × Int)
 | 0, _, _ => none
 | k + 1, x0, x158 => if x158 = true then (some (10, 0)) else ((impl_in.f x0 10016 10025).bind fun t403 => (if t403 = true then (some (8, 0)) else ((impl_in.f x0 24576 26623).bind fun t404 => (if t404 = true then (some (7, 9)) else (some (0, 0))))))
end
def impl_kind.f (k : Nat) (a0 : Int) : Option (Int × Int) := (impl_block.f a0).bind fun bt371 => (if bt371.1 > 0 then (if bt371.2 < 32 then (impl_kind.j0 k bt371.2 (bt371.1 / 256) true) else ((impl_in.f bt371.2 64 67).bind fun t373 => (impl_kind.j0 k bt371.2 (bt371.1 / 256) t373))) else ((impl_in.f a0 0 31).bind fun t378 => (if t378 = true then (impl_kind.j2 k a0 true) else ((impl_in.f a0 127 159).bind fun t379 => (impl_kind.j2 k a0 t379)))))
set_option maxHeartbeats 8000000 in
set_option maxRecDepth 100000 in
theorem impl_kind.calls (k : Nat) (a0 : Int) (r1 : Int) (r2 : Int) (w : World) (h : impl_kind.f k a0 = some (r1, r2)) :
  Calls Tryd.prog 97 #[.int .i64 a0] w fun e w' => e = .returned (.tuple #[.int .i64 r1, .int .i64 r2]) ∧ Drawn0 w w' := by
 have H : ((impl_block.f a0).bind fun bt371 => (if bt371.1 > 0 then (if bt371.2 < 32 then (impl_kind.j0 k bt371.2 (bt371.1 / 256) true) else ((impl_in.f bt371.2 64 67).bind fun t373 => (impl_kind.j0 k bt371.2 (bt371.1 / 256) t373))) else ((impl_in.f a0 0 31).bind fun t378 => (if t378 = true then (impl_kind.j2 k a0 true) else ((impl_in.f a0 127 159).bind fun t379 => (impl_kind.j2 k a0 t379)))))) = some (r1, r2) := h
 clear h
 replace H := Option.bind_eq_some_iff.mp H
 obtain ⟨⟨t371, t372⟩, A20, H⟩ := H
 replace H : (if t371 > 0 then (if t372 < 32 then (impl_kind.j0 k t372 (t371 / 256) true) else ((impl_in.f t372 64 67).bind fun t373 => (impl_kind.j0 k t372 (t371 / 256) t373))) else ((impl_in.f a0 0 31).bind fun t378 => (if t378 = true then (impl_kind.j2 k a0 true) else ((impl_in.f a0 127 159).bind fun t379 => (impl_kind.j2 k a0 t379))))) = some (r1, r2) := H
 have A2 := am A20
 clear A20
 by_cases c3 : t371 > 0
 ·rw [if_pos c3] at H
  have c3b0 : decide (0 < t371) = true := decide_eq_true c3
  clear c3
  have HC4 := am H
  clear H
  go_enter Tryd.func97, Tryd.ntmps97
  go_upto_region 4 with (first | ((with_reducible refine gate_callee (f := 125) rfl ?_); refine gq 9 Tryd.func125 (impl_block.calls a0 t371 t372 _ A2.out) fun nd => ?_))
  (try simp only [Act.put, List.setIfInBounds_toArray, List.set_cons_zero, List.set_cons_succ])
  go_cut [16] (fun v16 wc => ∃ (kq : Nat) (x16_3 : Bool), v16 = .bool x16_3 ∧ Aside0 (impl_kind.j0 kq t372 (t371 / 256) x16_3 = some (r1, r2)) ∧ Aside0 (kq ≤ k) ∧ Drawn0 w wc)
  case first =>
   as_aux_lemma =>
    have H := HC4.out
    clear HC4
    by_cases c5 : t372 < 32
    ·rw [if_pos c5] at H
     have c5b0 := decide_eq_true c5
     clear c5
     (first | rw [c5b0] | (simp only [i64_w, i32_w]; rw [c5b0]) | skip)
     have H' := am H
     clear H
     go_wp2
     go_meet
     case rel => exact ⟨_, (true), sr, H', ⟨kl⟩, dz⟩
    rw [if_neg c5] at H
    have c5b0 := decide_eq_false c5
    clear c5
    (first | rw [c5b0] | (simp only [i64_w, i32_w]; rw [c5b0]) | skip)
    obtain ⟨t373, A6, H⟩ := bb H
    have H' := am H
    clear H
    go_wp2_with (first | (go_at_call 99; (with_reducible refine (impl_in.calls t372 64 67 t373 _ A6.out).mono ?_); rintro e w' ⟨rfl, ⟨nd, rfl⟩⟩))
    go_meet
    case rel => exact ⟨_, (t373), sr, H', ⟨kl⟩, dz⟩
  case rest =>
   as_aux_lemma =>
    clear HC4
    try clear c3b0
    obtain ⟨kq, x16_3, rfl, HA, HJ3, ⟨mc3, rfl⟩⟩ := hcut
    cases kq with
    | zero => exact absurd HA.out (by simp [impl_kind.j0])
    | succ kj3 =>
     have H := HA.out
     clear HA
     simp only [impl_kind.j0] at H
     by_cases c7 : x16_3 = true
     ·subst c7
      replace H := iT H
      simp only [Option.some.injEq, Prod.mk.injEq] at H
      obtain ⟨rfl, rfl⟩ := H
      go_wp2
      go_ret2
      exact rdd
     replace c7 := Bool.eq_false_iff.mpr c7
     subst c7
     replace H := iF H
     have HC8 := am H
     clear H
     go_upto_region 6 with (fail)
     go_cut [24] (fun v24 wc => ∃ (kq : Nat) (x24_7 : Bool), v24 = .bool x24_7 ∧ Aside0 (impl_kind.j1 kq t372 (t371 / 256) x24_7 = some (r1, r2)) ∧ Aside0 (kq ≤ kj3) ∧ Drawn0 w wc)
     case first =>
      as_aux_lemma =>
       have H := HC8.out
       clear HC8
       by_cases c9 : t372 < 64
       ·rw [if_pos c9] at H
        have c9b0 := decide_eq_true c9
        clear c9
        (first | rw [c9b0] | (simp only [i64_w, i32_w]; rw [c9b0]) | skip)
        have H' := am H
        clear H
        go_wp2
        go_meet
        case rel => exact ⟨_, (true), sr, H', ⟨kl⟩, dz⟩
       rw [if_neg c9] at H
       have c9b0 := decide_eq_false c9
       clear c9
       (first | rw [c9b0] | (simp only [i64_w, i32_w]; rw [c9b0]) | skip)
       obtain ⟨t374, A10, H⟩ := bb H
       by_cases c11 : t374 = true
       ·subst c11
        replace H := iT H
        have H' := am H
        clear H
        go_wp2_with (first | (go_at_call 99; (with_reducible refine (impl_in.calls t372 72 75 true _ A10.out).mono ?_); rintro e w' ⟨rfl, ⟨nd, rfl⟩⟩))
        go_meet
        case rel => exact ⟨_, (true), sr, H', ⟨kl⟩, dz⟩
       replace c11 := Bool.eq_false_iff.mpr c11
       subst c11
       replace H := iF H
       obtain ⟨t375, A12, H⟩ := bb H
       have H' := am H
       clear H
       go_wp2_with (first | (go_at_call 99; (with_reducible refine (impl_in.calls t372 72 75 false _ A10.out).mono ?_); rintro e w' ⟨rfl, ⟨nd, rfl⟩⟩) | (go_at_call 99; (with_reducible refine (impl_in.calls t372 96 97 t375 _ A12.out).mono ?_); rintro e w' ⟨rfl, ⟨nd, rfl⟩⟩))
       go_meet
       case rel => exact ⟨_, (t375), sr, H', ⟨kl⟩, dz⟩
     case rest =>
      as_aux_lemma =>
       clear HC8
       try clear c7
       obtain ⟨kq, x24_7, rfl, HA, HJ7, ⟨mc7, rfl⟩⟩ := hcut
       cases kq with
       | zero => exact absurd HA.out (by simp [impl_kind.j1])
       | succ kj7 =>
        have H := HA.out
        clear HA
        simp only [impl_kind.j1] at H
        by_cases c13 : x24_7 = true
        ·subst c13
         replace H := iT H
         simp only [Option.some.injEq, Prod.mk.injEq] at H
         obtain ⟨rfl, rfl⟩ := H
         go_wp2
         go_ret2
         exact rdd
        replace c13 := Bool.eq_false_iff.mpr c13
        subst c13
        replace H := iF H
        obtain ⟨t376, A14, H⟩ := bb H
        by_cases c15 : t376 = true
        ·subst c15
         replace H := iT H
         simp only [Option.some.injEq, Prod.mk.injEq] at H
         obtain ⟨rfl, rfl⟩ := H
         go_wp2_with (first | ((with_reducible refine gate_callee (f := 99) rfl ?_); refine gq 38 Tryd.func99 (impl_in.calls t372 68 71 true _ A14.out) fun nd => ?_))
         go_ret2
         exact rdd
        replace c15 := Bool.eq_false_iff.mpr c15
        subst c15
        replace H := iF H
        obtain ⟨t377, A16, H⟩ := bb H
        by_cases c17 : t377 = true
        ·subst c17
         replace H := iT H
         simp only [Option.some.injEq, Prod.mk.injEq] at H
         obtain ⟨rfl, rfl⟩ := H
         go_wp2_with (first | ((with_reducible refine gate_callee (f := 99) rfl ?_); refine gq 38 Tryd.func99 (impl_in.calls t372 68 71 false _ A14.out) fun nd => ?_) | ((with_reducible refine gate_callee (f := 99) rfl ?_); refine gq 42 Tryd.func99 (impl_in.calls t372 80 89 true _ A16.out) fun nd => ?_))
         go_ret2
         exact rdd
        replace c17 := Bool.eq_false_iff.mpr c17
        subst c17
        replace H := iF H
        simp only [Option.some.injEq, Prod.mk.injEq] at H
        obtain ⟨rfl, rfl⟩ := H
        go_wp2_with (first | ((with_reducible refine gate_callee (f := 99) rfl ?_); refine gq 38 Tryd.func99 (impl_in.calls t372 68 71 false _ A14.out) fun nd => ?_) | ((with_reducible refine gate_callee (f := 99) rfl ?_); refine gq 42 Tryd.func99 (impl_in.calls t372 80 89 false _ A16.out) fun nd => ?_))
        go_ret2
        exact rdd
 rw [if_neg c3] at H
 have c3b0 : decide (0 < t371) = false := decide_eq_false c3
 clear c3
 have HC18 := am H
 clear H
 go_enter Tryd.func97, Tryd.ntmps97
 go_upto_region 13 with (first | ((with_reducible refine gate_callee (f := 125) rfl ?_); refine gq 9 Tryd.func125 (impl_block.calls a0 t371 t372 _ A2.out) fun nd => ?_))
 (try simp only [Act.put, List.setIfInBounds_toArray, List.set_cons_zero, List.set_cons_succ])
 go_cut [44] (fun v44 wc => ∃ (kq : Nat) (x44_17 : Bool), v44 = .bool x44_17 ∧ Aside0 (impl_kind.j2 kq a0 x44_17 = some (r1, r2)) ∧ Aside0 (kq ≤ k) ∧ Drawn0 w wc)
 case first =>
  as_aux_lemma =>
   have H := HC18.out
   clear HC18
   obtain ⟨t378, A19, H⟩ := bb H
   by_cases c20 : t378 = true
   ·subst c20
    replace H := iT H
    have H' := am H
    clear H
    go_wp2_with (first | ((with_reducible refine gate_callee (f := 99) rfl ?_); refine gq 46 Tryd.func99 (impl_in.calls a0 0 31 true _ A19.out) fun nd => ?_))
    go_meet
    case rel => exact ⟨_, (true), sr, H', ⟨kl⟩, dz⟩
   replace c20 := Bool.eq_false_iff.mpr c20
   subst c20
   replace H := iF H
   obtain ⟨t379, A21, H⟩ := bb H
   have H' := am H
   clear H
   go_wp2_with (first | ((with_reducible refine gate_callee (f := 99) rfl ?_); refine gq 46 Tryd.func99 (impl_in.calls a0 0 31 false _ A19.out) fun nd => ?_) | (go_at_call 99; (with_reducible refine (impl_in.calls a0 127 159 t379 _ A21.out).mono ?_); rintro e w' ⟨rfl, ⟨nd, rfl⟩⟩))
   go_meet
   case rel => exact ⟨_, (t379), sr, H', ⟨kl⟩, dz⟩
 case rest =>
  as_aux_lemma =>
   clear HC18
   try clear c3b0
   obtain ⟨kq, x44_17, rfl, HA, HJ17, ⟨mc17, rfl⟩⟩ := hcut
   cases kq with
   | zero => exact absurd HA.out (by simp [impl_kind.j2])
   | succ kj17 =>
    have H := HA.out
    clear HA
    simp only [impl_kind.j2] at H
    by_cases c22 : x44_17 = true
    ·subst c22
     replace H := iT H
     simp only [Option.some.injEq, Prod.mk.injEq] at H
     obtain ⟨rfl, rfl⟩ := H
     go_wp2
     go_ret2
     exact rdd
    replace c22 := Bool.eq_false_iff.mpr c22
    subst c22
    replace H := iF H
    have HC23 := am H
    clear H
    go_upto_region 15 with (fail)
    go_cut [51] (fun v51 wc => ∃ (kq : Nat) (x51_22 : Bool), v51 = .bool x51_22 ∧ Aside0 (impl_kind.j3 kq a0 x51_22 = some (r1, r2)) ∧ Aside0 (kq ≤ kj17) ∧ Drawn0 w wc)
    case first =>
     as_aux_lemma =>
      have H := HC23.out
      clear HC23
      by_cases c24 : a0 = 32
      ·rw [if_pos c24] at H
       have c24b0 : (a0 == 32) = true := beq_iff_eq.mpr c24
       have c24b1 : (a0 != 32) = false := bne_eq_false_iff_eq.mpr c24
       clear c24
       (first | rw [c24b0] | (simp only [i64_w, i32_w]; rw [c24b0]) | skip)
       have H' := am H
       clear H
       go_wp2
       go_meet
       case rel => exact ⟨_, (true), sr, H', ⟨kl⟩, dz⟩
      rw [if_neg c24] at H
      have c24b0 : (a0 == 32) = false := beq_eq_false_iff_ne.mpr c24
      have c24b1 : (a0 != 32) = true := bne_iff_ne.mpr c24
      (first | rw [c24b0] | (simp only [i64_w, i32_w]; rw [c24b0]) | skip)
      by_cases c25 : a0 = 160
      rotate_left
      ·rw [if_neg c25] at H
       have c25b0 : (a0 == 160) = false := beq_eq_false_iff_ne.mpr c25
       have c25b1 : (a0 != 160) = true := bne_iff_ne.mpr c25
       have H' := am H
       clear H
       go_wp2
       go_meet
       case rel => exact ⟨_, ((a0 == 8064)), sr, H', ⟨kl⟩, dz⟩
      rw [if_pos c25] at H
      have c25b0 : (a0 == 160) = true := beq_iff_eq.mpr c25
      have c25b1 : (a0 != 160) = false := bne_eq_false_iff_eq.mpr c25
      clear c25
      have H' := am H
      clear H
      go_wp2
      go_meet
      case rel => exact ⟨_, (true), sr, H', ⟨kl⟩, dz⟩
    case rest =>
     as_aux_lemma =>
      clear HC23
      try clear c22
      obtain ⟨kq, x51_22, rfl, HA, HJ22, ⟨mc22, rfl⟩⟩ := hcut
      cases kq with
      | zero => exact absurd HA.out (by simp [impl_kind.j3])
      | succ kj22 =>
       have H := HA.out
       clear HA
       simp only [impl_kind.j3] at H
       by_cases c26 : x51_22 = true
       ·subst c26
        replace H := iT H
        simp only [Option.some.injEq, Prod.mk.injEq] at H
        obtain ⟨rfl, rfl⟩ := H
        go_wp2
        go_ret2
        exact rdd
       replace c26 := Bool.eq_false_iff.mpr c26
       subst c26
       replace H := iF H
       obtain ⟨t380, A27, H⟩ := bb H
       by_cases c28 : t380 = true
       ·subst c28
        replace H := iT H
        simp only [Option.some.injEq, Prod.mk.injEq] at H
        obtain ⟨rfl, rfl⟩ := H
        go_wp2_with (first | ((with_reducible refine gate_callee (f := 99) rfl ?_); refine gq 64 Tryd.func99 (impl_in.calls a0 48 57 true _ A27.out) fun nd => ?_))
        go_ret2
        exact rdd
       replace c28 := Bool.eq_false_iff.mpr c28
       subst c28
       replace H := iF H
       obtain ⟨t381, A29, H⟩ := bb H
       by_cases c30 : t381 = true
       ·subst c30
        replace H := iT H
        simp only [Option.some.injEq, Prod.mk.injEq] at H
        obtain ⟨rfl, rfl⟩ := H
        go_wp2_with (first | ((with_reducible refine gate_callee (f := 99) rfl ?_); refine gq 64 Tryd.func99 (impl_in.calls a0 48 57 false _ A27.out) fun nd => ?_) | ((with_reducible refine gate_callee (f := 99) rfl ?_); refine gq 67 Tryd.func99 (impl_in.calls a0 65 90 true _ A29.out) fun nd => ?_))
        go_ret2
        exact rdd
       replace c30 := Bool.eq_false_iff.mpr c30
       subst c30
       replace H := iF H
       obtain ⟨t382, A31, H⟩ := bb H
       by_cases c32 : t382 = true
       ·subst c32
        replace H := iT H
        simp only [Option.some.injEq, Prod.mk.injEq] at H
        obtain ⟨rfl, rfl⟩ := H
        go_wp2_with (first | ((with_reducible refine gate_callee (f := 99) rfl ?_); refine gq 64 Tryd.func99 (impl_in.calls a0 48 57 false _ A27.out) fun nd => ?_) | ((with_reducible refine gate_callee (f := 99) rfl ?_); refine gq 67 Tryd.func99 (impl_in.calls a0 65 90 false _ A29.out) fun nd => ?_) | ((with_reducible refine gate_callee (f := 99) rfl ?_); refine gq 70 Tryd.func99 (impl_in.calls a0 97 122 true _ A31.out) fun nd => ?_))
        go_ret2
        exact rdd
       replace c32 := Bool.eq_false_iff.mpr c32
       subst c32
       replace H := iF H
       obtain ⟨t383, A33, H⟩ := bb H
       by_cases c34 : t383 = true
       ·subst c34
        replace H := iT H
        simp only [Option.some.injEq, Prod.mk.injEq] at H
        obtain ⟨rfl, rfl⟩ := H
        go_wp2_with (first | ((with_reducible refine gate_callee (f := 99) rfl ?_); refine gq 64 Tryd.func99 (impl_in.calls a0 48 57 false _ A27.out) fun nd => ?_) | ((with_reducible refine gate_callee (f := 99) rfl ?_); refine gq 67 Tryd.func99 (impl_in.calls a0 65 90 false _ A29.out) fun nd => ?_) | ((with_reducible refine gate_callee (f := 99) rfl ?_); refine gq 70 Tryd.func99 (impl_in.calls a0 97 122 false _ A31.out) fun nd => ?_) | ((with_reducible refine gate_callee (f := 99) rfl ?_); refine gq 73 Tryd.func99 (impl_in.calls a0 33 126 true _ A33.out) fun nd => ?_))
        go_ret2
        exact rdd
       replace c34 := Bool.eq_false_iff.mpr c34
       subst c34
       replace H := iF H
       by_cases c35 : a0 = 173
       ·rw [if_pos c35] at H
        have c35b0 : (a0 == 173) = true := beq_iff_eq.mpr c35
        have c35b1 : (a0 != 173) = false := bne_eq_false_iff_eq.mpr c35
        clear c35
        simp only [Option.some.injEq, Prod.mk.injEq] at H
        obtain ⟨rfl, rfl⟩ := H
        go_wp2_with (first | ((with_reducible refine gate_callee (f := 99) rfl ?_); refine gq 64 Tryd.func99 (impl_in.calls a0 48 57 false _ A27.out) fun nd => ?_) | ((with_reducible refine gate_callee (f := 99) rfl ?_); refine gq 67 Tryd.func99 (impl_in.calls a0 65 90 false _ A29.out) fun nd => ?_) | ((with_reducible refine gate_callee (f := 99) rfl ?_); refine gq 70 Tryd.func99 (impl_in.calls a0 97 122 false _ A31.out) fun nd => ?_) | ((with_reducible refine gate_callee (f := 99) rfl ?_); refine gq 73 Tryd.func99 (impl_in.calls a0 33 126 false _ A33.out) fun nd => ?_))
        go_ret2
        exact rdd
       rw [if_neg c35] at H
       have c35b0 : (a0 == 173) = false := beq_eq_false_iff_ne.mpr c35
       have c35b1 : (a0 != 173) = true := bne_iff_ne.mpr c35
       obtain ⟨t384, A36, H⟩ := bb H
       by_cases c37 : t384 = true
       ·subst c37
        replace H := iT H
        simp only [Option.some.injEq, Prod.mk.injEq] at H
        obtain ⟨rfl, rfl⟩ := H
        go_wp2_with (first | ((with_reducible refine gate_callee (f := 99) rfl ?_); refine gq 64 Tryd.func99 (impl_in.calls a0 48 57 false _ A27.out) fun nd => ?_) | ((with_reducible refine gate_callee (f := 99) rfl ?_); refine gq 67 Tryd.func99 (impl_in.calls a0 65 90 false _ A29.out) fun nd => ?_) | ((with_reducible refine gate_callee (f := 99) rfl ?_); refine gq 70 Tryd.func99 (impl_in.calls a0 97 122 false _ A31.out) fun nd => ?_) | ((with_reducible refine gate_callee (f := 99) rfl ?_); refine gq 73 Tryd.func99 (impl_in.calls a0 33 126 false _ A33.out) fun nd => ?_) | ((with_reducible refine gate_callee (f := 99) rfl ?_); refine gq 79 Tryd.func99 (impl_in.calls a0 161 191 true _ A36.out) fun nd => ?_))
        go_ret2
        exact rdd
       replace c37 := Bool.eq_false_iff.mpr c37
       subst c37
       replace H := iF H
       obtain ⟨t385, A38, H⟩ := bb H
       by_cases c39 : t385 = true
       ·subst c39
        replace H := iT H
        simp only [Option.some.injEq, Prod.mk.injEq] at H
        obtain ⟨rfl, rfl⟩ := H
        go_wp2_with (first | ((with_reducible refine gate_callee (f := 99) rfl ?_); refine gq 64 Tryd.func99 (impl_in.calls a0 48 57 false _ A27.out) fun nd => ?_) | ((with_reducible refine gate_callee (f := 99) rfl ?_); refine gq 67 Tryd.func99 (impl_in.calls a0 65 90 false _ A29.out) fun nd => ?_) | ((with_reducible refine gate_callee (f := 99) rfl ?_); refine gq 70 Tryd.func99 (impl_in.calls a0 97 122 false _ A31.out) fun nd => ?_) | ((with_reducible refine gate_callee (f := 99) rfl ?_); refine gq 73 Tryd.func99 (impl_in.calls a0 33 126 false _ A33.out) fun nd => ?_) | ((with_reducible refine gate_callee (f := 99) rfl ?_); refine gq 79 Tryd.func99 (impl_in.calls a0 161 191 false _ A36.out) fun nd => ?_) | ((with_reducible refine gate_callee (f := 99) rfl ?_); refine gq 82 Tryd.func99 (impl_in.calls a0 1280 1311 true _ A38.out) fun nd => ?_))
        go_ret2
        exact rdd
       replace c39 := Bool.eq_false_iff.mpr c39
       subst c39
       replace H := iF H
       obtain ⟨t386, A40, H⟩ := bb H
       by_cases c41 : t386 = true
       ·subst c41
        replace H := iT H
        simp only [Option.some.injEq, Prod.mk.injEq] at H
        obtain ⟨rfl, rfl⟩ := H
        go_wp2_with (first | ((with_reducible refine gate_callee (f := 99) rfl ?_); refine gq 64 Tryd.func99 (impl_in.calls a0 48 57 false _ A27.out) fun nd => ?_) | ((with_reducible refine gate_callee (f := 99) rfl ?_); refine gq 67 Tryd.func99 (impl_in.calls a0 65 90 false _ A29.out) fun nd => ?_) | ((with_reducible refine gate_callee (f := 99) rfl ?_); refine gq 70 Tryd.func99 (impl_in.calls a0 97 122 false _ A31.out) fun nd => ?_) | ((with_reducible refine gate_callee (f := 99) rfl ?_); refine gq 73 Tryd.func99 (impl_in.calls a0 33 126 false _ A33.out) fun nd => ?_) | ((with_reducible refine gate_callee (f := 99) rfl ?_); refine gq 79 Tryd.func99 (impl_in.calls a0 161 191 false _ A36.out) fun nd => ?_) | ((with_reducible refine gate_callee (f := 99) rfl ?_); refine gq 82 Tryd.func99 (impl_in.calls a0 1280 1311 false _ A38.out) fun nd => ?_) | ((with_reducible refine gate_callee (f := 99) rfl ?_); refine gq 85 Tryd.func99 (impl_in.calls a0 1360 1369 true _ A40.out) fun nd => ?_))
        go_ret2
        exact rdd
       replace c41 := Bool.eq_false_iff.mpr c41
       subst c41
       replace H := iF H
       obtain ⟨t387, A42, H⟩ := bb H
       by_cases c43 : t387 = true
       ·subst c43
        replace H := iT H
        simp only [Option.some.injEq, Prod.mk.injEq] at H
        obtain ⟨rfl, rfl⟩ := H
        go_wp2_with (first | ((with_reducible refine gate_callee (f := 99) rfl ?_); refine gq 64 Tryd.func99 (impl_in.calls a0 48 57 false _ A27.out) fun nd => ?_) | ((with_reducible refine gate_callee (f := 99) rfl ?_); refine gq 67 Tryd.func99 (impl_in.calls a0 65 90 false _ A29.out) fun nd => ?_) | ((with_reducible refine gate_callee (f := 99) rfl ?_); refine gq 70 Tryd.func99 (impl_in.calls a0 97 122 false _ A31.out) fun nd => ?_) | ((with_reducible refine gate_callee (f := 99) rfl ?_); refine gq 73 Tryd.func99 (impl_in.calls a0 33 126 false _ A33.out) fun nd => ?_) | ((with_reducible refine gate_callee (f := 99) rfl ?_); refine gq 79 Tryd.func99 (impl_in.calls a0 161 191 false _ A36.out) fun nd => ?_) | ((with_reducible refine gate_callee (f := 99) rfl ?_); refine gq 82 Tryd.func99 (impl_in.calls a0 1280 1311 false _ A38.out) fun nd => ?_) | ((with_reducible refine gate_callee (f := 99) rfl ?_); refine gq 85 Tryd.func99 (impl_in.calls a0 1360 1369 false _ A40.out) fun nd => ?_) | ((with_reducible refine gate_callee (f := 99) rfl ?_); refine gq 88 Tryd.func99 (impl_in.calls a0 1536 1567 true _ A42.out) fun nd => ?_))
        go_ret2
        exact rdd
       replace c43 := Bool.eq_false_iff.mpr c43
       subst c43
       replace H := iF H
       have HC44 := am H
       clear H
       go_upto_region 35 with (first | ((with_reducible refine gate_callee (f := 99) rfl ?_); refine gq 64 Tryd.func99 (impl_in.calls a0 48 57 false _ A27.out) fun nd => ?_) | ((with_reducible refine gate_callee (f := 99) rfl ?_); refine gq 67 Tryd.func99 (impl_in.calls a0 65 90 false _ A29.out) fun nd => ?_) | ((with_reducible refine gate_callee (f := 99) rfl ?_); refine gq 70 Tryd.func99 (impl_in.calls a0 97 122 false _ A31.out) fun nd => ?_) | ((with_reducible refine gate_callee (f := 99) rfl ?_); refine gq 73 Tryd.func99 (impl_in.calls a0 33 126 false _ A33.out) fun nd => ?_) | ((with_reducible refine gate_callee (f := 99) rfl ?_); refine gq 79 Tryd.func99 (impl_in.calls a0 161 191 false _ A36.out) fun nd => ?_) | ((with_reducible refine gate_callee (f := 99) rfl ?_); refine gq 82 Tryd.func99 (impl_in.calls a0 1280 1311 false _ A38.out) fun nd => ?_) | ((with_reducible refine gate_callee (f := 99) rfl ?_); refine gq 85 Tryd.func99 (impl_in.calls a0 1360 1369 false _ A40.out) fun nd => ?_) | ((with_reducible refine gate_callee (f := 99) rfl ?_); refine gq 88 Tryd.func99 (impl_in.calls a0 1536 1567 false _ A42.out) fun nd => ?_))
       (try simp only [Act.put, List.setIfInBounds_toArray, List.set_cons_zero, List.set_cons_succ])
       go_cut [89] (fun v89 wc => ∃ (kq : Nat) (x89_43 : Bool), v89 = .bool x89_43 ∧ Aside0 (impl_kind.j4 kq a0 x89_43 = some (r1, r2)) ∧ Aside0 (kq ≤ kj22) ∧ Drawn0 w wc)
       case first =>
        as_aux_lemma =>
         have H := HC44.out
         clear HC44
         obtain ⟨t388, A45, H⟩ := bb H
         by_cases c46 : t388 = true
         ·subst c46
          replace H := iT H
          have H' := am H
          clear H
          go_wp2_with (first | ((with_reducible refine gate_callee (f := 99) rfl ?_); refine gq 91 Tryd.func99 (impl_in.calls a0 1568 1579 true _ A45.out) fun nd => ?_))
          go_meet
          case rel => exact ⟨_, (true), sr, H', ⟨kl⟩, dz⟩
         replace c46 := Bool.eq_false_iff.mpr c46
         subst c46
         replace H := iF H
         by_cases c47 : a0 = 1584
         rotate_left
         ·rw [if_neg c47] at H
          have c47b0 : (a0 == 1584) = false := beq_eq_false_iff_ne.mpr c47
          have c47b1 : (a0 != 1584) = true := bne_iff_ne.mpr c47
          (first | rw [c47b0] | (simp only [i64_w, i32_w]; rw [c47b0]) | skip)
          have H' := am H
          clear H
          go_wp2_with (first | ((with_reducible refine gate_callee (f := 99) rfl ?_); refine gq 91 Tryd.func99 (impl_in.calls a0 1568 1579 false _ A45.out) fun nd => ?_))
          go_meet
          case rel => exact ⟨_, ((a0 == 1585)), sr, H', ⟨kl⟩, dz⟩
         rw [if_pos c47] at H
         have c47b0 : (a0 == 1584) = true := beq_iff_eq.mpr c47
         have c47b1 : (a0 != 1584) = false := bne_eq_false_iff_eq.mpr c47
         clear c47
         (first | rw [c47b0] | (simp only [i64_w, i32_w]; rw [c47b0]) | skip)
         have H' := am H
         clear H
         go_wp2_with (first | ((with_reducible refine gate_callee (f := 99) rfl ?_); refine gq 91 Tryd.func99 (impl_in.calls a0 1568 1579 false _ A45.out) fun nd => ?_))
         go_meet
         case rel => exact ⟨_, (true), sr, H', ⟨kl⟩, dz⟩
       case rest =>
        as_aux_lemma =>
         clear HC44
         try clear c26
         try clear c28
         try clear c30
         try clear c32
         try clear c34
         try clear c35
         try clear c35b0
         try clear c35b1
         try clear c37
         try clear c39
         try clear c41
         try clear c43
         obtain ⟨kq, x89_43, rfl, HA, HJ43, ⟨mc43, rfl⟩⟩ := hcut
         cases kq with
         | zero => exact absurd HA.out (by simp [impl_kind.j4])
         | succ kj43 =>
          have H := HA.out
          clear HA
          simp only [impl_kind.j4] at H
          by_cases c48 : x89_43 = true
          ·subst c48
           replace H := iT H
           simp only [Option.some.injEq, Prod.mk.injEq] at H
           obtain ⟨rfl, rfl⟩ := H
           go_wp2
           go_ret2
           exact rdd
          replace c48 := Bool.eq_false_iff.mpr c48
          subst c48
          replace H := iF H
          obtain ⟨t389, A49, H⟩ := bb H
          by_cases c50 : t389 = true
          ·subst c50
           replace H := iT H
           simp only [Option.some.injEq, Prod.mk.injEq] at H
           obtain ⟨rfl, rfl⟩ := H
           go_wp2_with (first | ((with_reducible refine gate_callee (f := 99) rfl ?_); refine gq 102 Tryd.func99 (impl_in.calls a0 1616 1625 true _ A49.out) fun nd => ?_))
           go_ret2
           exact rdd
          replace c50 := Bool.eq_false_iff.mpr c50
          subst c50
          replace H := iF H
          have HC51 := am H
          clear H
          go_upto_region 39 with (first | ((with_reducible refine gate_callee (f := 99) rfl ?_); refine gq 102 Tryd.func99 (impl_in.calls a0 1616 1625 false _ A49.out) fun nd => ?_))
          (try simp only [Act.put, List.setIfInBounds_toArray, List.set_cons_zero, List.set_cons_succ])
          go_cut [103] (fun v103 wc => ∃ (kq : Nat) (x103_50 : Bool), v103 = .bool x103_50 ∧ Aside0 (impl_kind.j5 kq a0 x103_50 = some (r1, r2)) ∧ Aside0 (kq ≤ kj43) ∧ Drawn0 w wc)
          case first =>
           as_aux_lemma =>
            have H := HC51.out
            clear HC51
            obtain ⟨t390, A52, H⟩ := bb H
            by_cases c53 : t390 = true
            ·subst c53
             replace H := iT H
             have H' := am H
             clear H
             go_wp2_with (first | ((with_reducible refine gate_callee (f := 99) rfl ?_); refine gq 105 Tryd.func99 (impl_in.calls a0 1792 1810 true _ A52.out) fun nd => ?_))
             go_meet
             case rel => exact ⟨_, (true), sr, H', ⟨kl⟩, dz⟩
            replace c53 := Bool.eq_false_iff.mpr c53
            subst c53
            replace H := iF H
            obtain ⟨t391, A54, H⟩ := bb H
            by_cases c55 : t391 = true
            ·subst c55
             replace H := iT H
             have H' := am H
             clear H
             go_wp2_with (first | ((with_reducible refine gate_callee (f := 99) rfl ?_); refine gq 105 Tryd.func99 (impl_in.calls a0 1792 1810 false _ A52.out) fun nd => ?_) | (go_at_call 99; (with_reducible refine (impl_in.calls a0 1824 1844 true _ A54.out).mono ?_); rintro e w' ⟨rfl, ⟨nd, rfl⟩⟩))
             go_meet
             case rel => exact ⟨_, (true), sr, H', ⟨kl⟩, dz⟩
            replace c55 := Bool.eq_false_iff.mpr c55
            subst c55
            replace H := iF H
            obtain ⟨t392, A56, H⟩ := bb H
            by_cases c57 : t392 = true
            ·subst c57
             replace H := iT H
             have H' := am H
             clear H
             go_wp2_with (first | ((with_reducible refine gate_callee (f := 99) rfl ?_); refine gq 105 Tryd.func99 (impl_in.calls a0 1792 1810 false _ A52.out) fun nd => ?_) | (go_at_call 99; (with_reducible refine (impl_in.calls a0 1824 1844 false _ A54.out).mono ?_); rintro e w' ⟨rfl, ⟨nd, rfl⟩⟩) | (go_at_call 99; (with_reducible refine (impl_in.calls a0 1857 1883 true _ A56.out).mono ?_); rintro e w' ⟨rfl, ⟨nd, rfl⟩⟩))
             go_meet
             case rel => exact ⟨_, (true), sr, H', ⟨kl⟩, dz⟩
            replace c57 := Bool.eq_false_iff.mpr c57
            subst c57
            replace H := iF H
            obtain ⟨t393, A58, H⟩ := bb H
            have H' := am H
            clear H
            go_wp2_with (first | ((with_reducible refine gate_callee (f := 99) rfl ?_); refine gq 105 Tryd.func99 (impl_in.calls a0 1792 1810 false _ A52.out) fun nd => ?_) | (go_at_call 99; (with_reducible refine (impl_in.calls a0 1824 1844 false _ A54.out).mono ?_); rintro e w' ⟨rfl, ⟨nd, rfl⟩⟩) | (go_at_call 99; (with_reducible refine (impl_in.calls a0 1857 1883 false _ A56.out).mono ?_); rintro e w' ⟨rfl, ⟨nd, rfl⟩⟩) | (go_at_call 99; (with_reducible refine (impl_in.calls a0 12288 23459 t393 _ A58.out).mono ?_); rintro e w' ⟨rfl, ⟨nd, rfl⟩⟩))
            go_meet
            case rel => exact ⟨_, (t393), sr, H', ⟨kl⟩, dz⟩
          case rest =>
           as_aux_lemma =>
            clear HC51
            try clear c48
            try clear c50
            obtain ⟨kq, x103_50, rfl, HA, HJ50, ⟨mc50, rfl⟩⟩ := hcut
            cases kq with
            | zero => exact absurd HA.out (by simp [impl_kind.j5])
            | succ kj50 =>
             have H := HA.out
             clear HA
             simp only [impl_kind.j5] at H
             by_cases c59 : x103_50 = true
             ·subst c59
              replace H := iT H
              simp only [Option.some.injEq, Prod.mk.injEq] at H
              obtain ⟨rfl, rfl⟩ := H
              go_wp2
              go_ret2
              exact rdd
             replace c59 := Bool.eq_false_iff.mpr c59
             subst c59
             replace H := iF H
             obtain ⟨t394, A60, H⟩ := bb H
             by_cases c61 : t394 = true
             ·subst c61
              replace H := iT H
              simp only [Option.some.injEq, Prod.mk.injEq] at H
              obtain ⟨rfl, rfl⟩ := H
              go_wp2_with (first | ((with_reducible refine gate_callee (f := 99) rfl ?_); refine gq 120 Tryd.func99 (impl_in.calls a0 2048 2095 true _ A60.out) fun nd => ?_))
              go_ret2
              exact rdd
             replace c61 := Bool.eq_false_iff.mpr c61
             subst c61
             replace H := iF H
             obtain ⟨t395, A62, H⟩ := bb H
             by_cases c63 : t395 = true
             ·subst c63
              replace H := iT H
              simp only [Option.some.injEq, Prod.mk.injEq] at H
              obtain ⟨rfl, rfl⟩ := H
              go_wp2_with (first | ((with_reducible refine gate_callee (f := 99) rfl ?_); refine gq 120 Tryd.func99 (impl_in.calls a0 2048 2095 false _ A60.out) fun nd => ?_) | ((with_reducible refine gate_callee (f := 99) rfl ?_); refine gq 123 Tryd.func99 (impl_in.calls a0 4096 4159 true _ A62.out) fun nd => ?_))
              go_ret2
              exact rdd
             replace c63 := Bool.eq_false_iff.mpr c63
             subst c63
             replace H := iF H
             have HC64 := am H
             clear H
             go_upto_region 45 with (first | ((with_reducible refine gate_callee (f := 99) rfl ?_); refine gq 120 Tryd.func99 (impl_in.calls a0 2048 2095 false _ A60.out) fun nd => ?_) | ((with_reducible refine gate_callee (f := 99) rfl ?_); refine gq 123 Tryd.func99 (impl_in.calls a0 4096 4159 false _ A62.out) fun nd => ?_))
             (try simp only [Act.put, List.setIfInBounds_toArray, List.set_cons_zero, List.set_cons_succ])
             go_cut [124] (fun v124 wc => ∃ (kq : Nat) (x124_63 : Bool), v124 = .bool x124_63 ∧ Aside0 (impl_kind.j6 kq a0 x124_63 = some (r1, r2)) ∧ Aside0 (kq ≤ kj50) ∧ Drawn0 w wc)
             case first =>
              as_aux_lemma =>
               have H := HC64.out
               clear HC64
               obtain ⟨t396, A65, H⟩ := bb H
               by_cases c66 : t396 = true
               ·subst c66
                replace H := iT H
                have H' := am H
                clear H
                go_wp2_with (first | ((with_reducible refine gate_callee (f := 99) rfl ?_); refine gq 126 Tryd.func99 (impl_in.calls a0 7680 7748 true _ A65.out) fun nd => ?_))
                go_meet
                case rel => exact ⟨_, (true), sr, H', ⟨kl⟩, dz⟩
               replace c66 := Bool.eq_false_iff.mpr c66
               subst c66
               replace H := iF H
               obtain ⟨t397, A67, H⟩ := bb H
               have H' := am H
               clear H
               go_wp2_with (first | ((with_reducible refine gate_callee (f := 99) rfl ?_); refine gq 126 Tryd.func99 (impl_in.calls a0 7680 7748 false _ A65.out) fun nd => ?_) | (go_at_call 99; (with_reducible refine (impl_in.calls a0 7760 7785 t397 _ A67.out).mono ?_); rintro e w' ⟨rfl, ⟨nd, rfl⟩⟩))
               go_meet
               case rel => exact ⟨_, (t397), sr, H', ⟨kl⟩, dz⟩
             case rest =>
              as_aux_lemma =>
               clear HC64
               try clear c59
               try clear c61
               try clear c63
               obtain ⟨kq, x124_63, rfl, HA, HJ63, ⟨mc63, rfl⟩⟩ := hcut
               cases kq with
               | zero => exact absurd HA.out (by simp [impl_kind.j6])
               | succ kj63 =>
                have H := HA.out
                clear HA
                simp only [impl_kind.j6] at H
                by_cases c68 : x124_63 = true
                ·subst c68
                 replace H := iT H
                 simp only [Option.some.injEq, Prod.mk.injEq] at H
                 obtain ⟨rfl, rfl⟩ := H
                 go_wp2
                 go_ret2
                 exact rdd
                replace c68 := Bool.eq_false_iff.mpr c68
                subst c68
                replace H := iF H
                have HC69 := am H
                clear H
                go_upto_region 47 with (fail)
                go_cut [131] (fun v131 wc => ∃ (kq : Nat) (x131_68 : Bool), v131 = .bool x131_68 ∧ Aside0 (impl_kind.j7 kq a0 x131_68 = some (r1, r2)) ∧ Aside0 (kq ≤ kj63) ∧ Drawn0 w wc)
                case first =>
                 as_aux_lemma =>
                  have H := HC69.out
                  clear HC69
                  obtain ⟨t398, A70, H⟩ := bb H
                  by_cases c71 : t398 = true
                  ·subst c71
                   replace H := iT H
                   have H' := am H
                   clear H
                   go_wp2_with (first | ((with_reducible refine gate_callee (f := 99) rfl ?_); refine gq 133 Tryd.func99 (impl_in.calls a0 7936 7947 true _ A70.out) fun nd => ?_))
                   go_meet
                   case rel => exact ⟨_, (true), sr, H', ⟨kl⟩, dz⟩
                  replace c71 := Bool.eq_false_iff.mpr c71
                  subst c71
                  replace H := iF H
                  by_cases c72 : a0 = 7953
                  rotate_left
                  ·rw [if_neg c72] at H
                   have c72b0 : (a0 == 7953) = false := beq_eq_false_iff_ne.mpr c72
                   have c72b1 : (a0 != 7953) = true := bne_iff_ne.mpr c72
                   (first | rw [c72b0] | (simp only [i64_w, i32_w]; rw [c72b0]) | skip)
                   have H' := am H
                   clear H
                   go_wp2_with (first | ((with_reducible refine gate_callee (f := 99) rfl ?_); refine gq 133 Tryd.func99 (impl_in.calls a0 7936 7947 false _ A70.out) fun nd => ?_))
                   go_meet
                   case rel => exact ⟨_, ((a0 == 7954)), sr, H', ⟨kl⟩, dz⟩
                  rw [if_pos c72] at H
                  have c72b0 : (a0 == 7953) = true := beq_iff_eq.mpr c72
                  have c72b1 : (a0 != 7953) = false := bne_eq_false_iff_eq.mpr c72
                  clear c72
                  (first | rw [c72b0] | (simp only [i64_w, i32_w]; rw [c72b0]) | skip)
                  have H' := am H
                  clear H
                  go_wp2_with (first | ((with_reducible refine gate_callee (f := 99) rfl ?_); refine gq 133 Tryd.func99 (impl_in.calls a0 7936 7947 false _ A70.out) fun nd => ?_))
                  go_meet
                  case rel => exact ⟨_, (true), sr, H', ⟨kl⟩, dz⟩
                case rest =>
                 as_aux_lemma =>
                  clear HC69
                  try clear c68
                  obtain ⟨kq, x131_68, rfl, HA, HJ68, ⟨mc68, rfl⟩⟩ := hcut
                  cases kq with
                  | zero => exact absurd HA.out (by simp [impl_kind.j7])
                  | succ kj68 =>
                   have H := HA.out
                   clear HA
                   simp only [impl_kind.j7] at H
                   by_cases c73 : x131_68 = true
                   ·subst c73
                    replace H := iT H
                    simp only [Option.some.injEq, Prod.mk.injEq] at H
                    obtain ⟨rfl, rfl⟩ := H
                    go_wp2
                    go_ret2
                    exact rdd
                   replace c73 := Bool.eq_false_iff.mpr c73
                   subst c73
                   replace H := iF H
                   have HC74 := am H
                   clear H
                   go_upto_region 49 with (fail)
                   go_cut [142] (fun v142 wc => ∃ (kq : Nat) (x142_73 : Bool), v142 = .bool x142_73 ∧ Aside0 (impl_kind.j8 kq a0 x142_73 = some (r1, r2)) ∧ Aside0 (kq ≤ kj68) ∧ Drawn0 w wc)
                   case first =>
                    as_aux_lemma =>
                     have H := HC74.out
                     clear HC74
                     obtain ⟨t399, A75, H⟩ := bb H
                     by_cases c76 : t399 = true
                     ·subst c76
                      replace H := iT H
                      have H' := am H
                      clear H
                      go_wp2_with (first | ((with_reducible refine gate_callee (f := 99) rfl ?_); refine gq 144 Tryd.func99 (impl_in.calls a0 8192 9631 true _ A75.out) fun nd => ?_))
                      go_meet
                      case rel => exact ⟨_, (decide ((Int.tmod (wrap64 (a0 - 8192)) 512) < 416)), sr, H', ⟨kl⟩, dz⟩
                     replace c76 := Bool.eq_false_iff.mpr c76
                     subst c76
                     replace H := iF H
                     have H' := am H
                     clear H
                     go_wp2_with (first | ((with_reducible refine gate_callee (f := 99) rfl ?_); refine gq 144 Tryd.func99 (impl_in.calls a0 8192 9631 false _ A75.out) fun nd => ?_))
                     go_meet
                     case rel => exact ⟨_, (false), sr, H', ⟨kl⟩, dz⟩
                   case rest =>
                    as_aux_lemma =>
                     clear HC74
                     try clear c73
                     obtain ⟨kq, x142_73, rfl, HA, HJ73, ⟨mc73, rfl⟩⟩ := hcut
                     cases kq with
                     | zero => exact absurd HA.out (by simp [impl_kind.j8])
                     | succ kj73 =>
                      have H := HA.out
                      clear HA
                      simp only [impl_kind.j8] at H
                      by_cases c77 : x142_73 = true
                      ·subst c77
                       replace H := iT H
                       by_cases c78 : (Int.tmod (wrap64 (a0 - 8192)) 512) < 208
                       ·rw [if_pos c78] at H
                        have c78b0 := decide_eq_true c78
                        clear c78
                        simp only [Option.some.injEq, Prod.mk.injEq] at H
                        obtain ⟨rfl, rfl⟩ := H
                        go_wp2
                        go_ret2
                        exact rdd
                       rw [if_neg c78] at H
                       have c78b0 := decide_eq_false c78
                       clear c78
                       simp only [Option.some.injEq, Prod.mk.injEq] at H
                       obtain ⟨rfl, rfl⟩ := H
                       go_wp2
                       go_ret2
                       exact rdd
                      replace c77 := Bool.eq_false_iff.mpr c77
                      subst c77
                      replace H := iF H
                      obtain ⟨t400, A79, H⟩ := bb H
                      by_cases c80 : t400 = true
                      ·subst c80
                       replace H := iT H
                       simp only [Option.some.injEq, Prod.mk.injEq] at H
                       obtain ⟨rfl, rfl⟩ := H
                       go_wp2_with (first | ((with_reducible refine gate_callee (f := 99) rfl ?_); refine gq 157 Tryd.func99 (impl_in.calls a0 9728 9753 true _ A79.out) fun nd => ?_))
                       go_ret2
                       exact rdd
                      replace c80 := Bool.eq_false_iff.mpr c80
                      subst c80
                      replace H := iF H
                      have HC81 := am H
                      clear H
                      go_upto_region 55 with (first | ((with_reducible refine gate_callee (f := 99) rfl ?_); refine gq 157 Tryd.func99 (impl_in.calls a0 9728 9753 false _ A79.out) fun nd => ?_))
                      (try simp only [Act.put, List.setIfInBounds_toArray, List.set_cons_zero, List.set_cons_succ])
                      go_cut [158] (fun v158 wc => ∃ (kq : Nat) (x158_80 : Bool), v158 = .bool x158_80 ∧ Aside0 (impl_kind.j9 kq a0 x158_80 = some (r1, r2)) ∧ Aside0 (kq ≤ kj73) ∧ Drawn0 w wc)
                      case first =>
                       as_aux_lemma =>
                        have H := HC81.out
                        clear HC81
                        obtain ⟨t401, A82, H⟩ := bb H
                        by_cases c83 : t401 = true
                        ·subst c83
                         replace H := iT H
                         have H' := am H
                         clear H
                         go_wp2_with (first | ((with_reducible refine gate_callee (f := 99) rfl ?_); refine gq 160 Tryd.func99 (impl_in.calls a0 9984 10009 true _ A82.out) fun nd => ?_))
                         go_meet
                         case rel => exact ⟨_, (true), sr, H', ⟨kl⟩, dz⟩
                        replace c83 := Bool.eq_false_iff.mpr c83
                        subst c83
                        replace H := iF H
                        obtain ⟨t402, A84, H⟩ := bb H
                        have H' := am H
                        clear H
                        go_wp2_with (first | ((with_reducible refine gate_callee (f := 99) rfl ?_); refine gq 160 Tryd.func99 (impl_in.calls a0 9984 10009 false _ A82.out) fun nd => ?_) | (go_at_call 99; (with_reducible refine (impl_in.calls a0 10032 10035 t402 _ A84.out).mono ?_); rintro e w' ⟨rfl, ⟨nd, rfl⟩⟩))
                        go_meet
                        case rel => exact ⟨_, (t402), sr, H', ⟨kl⟩, dz⟩
                      case rest =>
                       as_aux_lemma =>
                        clear HC81
                        try clear c77
                        try clear c80
                        obtain ⟨kq, x158_80, rfl, HA, HJ80, ⟨mc80, rfl⟩⟩ := hcut
                        cases kq with
                        | zero => exact absurd HA.out (by simp [impl_kind.j9])
                        | succ kj80 =>
                         have H := HA.out
                         clear HA
                         simp only [impl_kind.j9] at H
                         by_cases c85 : x158_80 = true
                         ·subst c85
                          replace H := iT H
                          simp only [Option.some.injEq, Prod.mk.injEq] at H
                          obtain ⟨rfl, rfl⟩ := H
                          go_wp2
                          go_ret2
                          exact rdd
                         replace c85 := Bool.eq_false_iff.mpr c85
                         subst c85
                         replace H := iF H
                         obtain ⟨t403, A86, H⟩ := bb H
                         by_cases c87 : t403 = true
                         ·subst c87
                          replace H := iT H
                          simp only [Option.some.injEq, Prod.mk.injEq] at H
                          obtain ⟨rfl, rfl⟩ := H
                          go_wp2_with (first | ((with_reducible refine gate_callee (f := 99) rfl ?_); refine gq 167 Tryd.func99 (impl_in.calls a0 10016 10025 true _ A86.out) fun nd => ?_))
                          go_ret2
                          exact rdd
                         replace c87 := Bool.eq_false_iff.mpr c87
                         subst c87
                         replace H := iF H
                         obtain ⟨t404, A88, H⟩ := bb H
                         by_cases c89 : t404 = true
                         ·subst c89
                          replace H := iT H
                          simp only [Option.some.injEq, Prod.mk.injEq] at H
                          obtain ⟨rfl, rfl⟩ := H
                          go_wp2_with (first | ((with_reducible refine gate_callee (f := 99) rfl ?_); refine gq 167 Tryd.func99 (impl_in.calls a0 10016 10025 false _ A86.out) fun nd => ?_) | ((with_reducible refine gate_callee (f := 99) rfl ?_); refine gq 170 Tryd.func99 (impl_in.calls a0 24576 26623 true _ A88.out) fun nd => ?_))
                          go_ret2
                          exact rdd
                         replace c89 := Bool.eq_false_iff.mpr c89
                         subst c89
                         replace H := iF H
                         simp only [Option.some.injEq, Prod.mk.injEq] at H
                         obtain ⟨rfl, rfl⟩ := H
                         go_wp2_with (first | ((with_reducible refine gate_callee (f := 99) rfl ?_); refine gq 167 Tryd.func99 (impl_in.calls a0 10016 10025 false _ A86.out) fun nd => ?_) | ((with_reducible refine gate_callee (f := 99) rfl ?_); refine gq 170 Tryd.func99 (impl_in.calls a0 24576 26623 false _ A88.out) fun nd => ?_))
                         go_ret2
                         exact rdd
end Go.Proofs.YtmlhnpggjkoinaaDoor.PFnExactWords

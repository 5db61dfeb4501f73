-- Written by a program of this session (wip/tools/myprint.py) that runs the kit's print with hooks of its own. Lean checks it.
import Derived.Test.YtmlhnpggjkoinaaDoorPFnExactWordsx0
import Derived.Test.YtmlhnpggjkoinaaDoorSlimMore
import Derived.Test.YtmlhnpggjkoinaaDoorPFnExactWordsx2
namespace Go.Proofs.YtmlhnpggjkoinaaDoor.PFnExactWords
open Go.RowKit Go.Proofs.YtmlhnpggjkoinaaDoorW.PrintWords Go.Proofs.YtmlhnpggjkoinaaDoorW.PrintLast Go.Proofs.YtmlhnpggjkoinaaDoorW.PrintMore
attribute [local go_sem] max2_int min2_int max_two min_two max_three min_three max_four min_four   -- for this text's walks alone
set_option linter.unusedVariables false
set_option linter.unusedSimpArgs false

/-! ### spec_l01Next: function 93 -/
mutual
def spec_l01Next.j2 : Nat → ByteArray → Int → Int → Int → Option (Int × Int × Bool)
 | 0, _, _, _, _ => none
 | k + 1, x0, x1, x8, x9 => if (wrap64 (x1 + x8)) ≥ (x0.size : Int) then (some (65533, 1, false)) else (spec_l01Next.l0 k x0 x1 x8 x9 1)
def spec_l01Next.l0 : Nat → ByteArray → Int → Int → Int → Int → Option (Int × Int × Bool)
 | 0, _, _, _, _, _ => none
 | k + 1, x0, x1, x8, x9, x10 => if x10 ≤ x8 then (if 0 ≤ (wrap64 (x1 + x10)) then (if (wrap64 (x1 + x10)) < (x0.size : Int) then (if (wrap64 (bt x0 (wrap64 (x1 + x10)))) < 128 then (some (65533, 1, false)) else (if (wrap64 (bt x0 (wrap64 (x1 + x10)))) > 191 then (some (65533, 1, false)) else (spec_l01Next.l0 k x0 x1 x8 (wrap64 ((wrap64 (x9 * 64)) + (Int.tmod (wrap64 (bt x0 (wrap64 (x1 + x10)))) 64))) (wrap64 (x10 + 1))))) else (none)) else (none)) else ((spec_l01IsPoint.f x9).bind fun t142 => (if t142 = true then ((spec_l01Write.f k x9).bind fun t143 => (if (t143.size : Int) = (wrap64 (x8 + 1)) then (some (x9, wrap64 (x8 + 1), true)) else (some (65533, 1, false)))) else (some (65533, 1, false))))
def spec_l01Next.j0 : Nat → ByteArray → Int → Int → Bool → Option (Int × Int × Bool)
 | 0, _, _, _, _ => none
 | k + 1, x0, x1, x7, x21 => if x21 = true then (spec_l01Next.j2 k x0 x1 1 (Int.tmod x7 32)) else (if x7 ≥ 224 then (spec_l01Next.j1 k x0 x1 x7 (decide (x7 < 240))) else (spec_l01Next.j1 k x0 x1 x7 false))
def spec_l01Next.j1 : Nat → ByteArray → Int → Int → Bool → Option (Int × Int × Bool)
 | 0, _, _, _, _ => none
 | k + 1, x0, x1, x7, x30 => if x30 = true then (spec_l01Next.j2 k x0 x1 2 (Int.tmod x7 16)) else (if x7 ≥ 240 then (if x7 < 245 then (spec_l01Next.j2 k x0 x1 3 (Int.tmod x7 8)) else (some (65533, 1, false))) else (some (65533, 1, false)))
end
def spec_l01Next.f (k : Nat) (a0 : ByteArray) (a1 : Int) : Option (Int × Int × Bool) := if 0 ≤ a1 then (if a1 < (a0.size : Int) then (if (wrap64 (bt a0 a1)) < 128 then (some (wrap64 (bt a0 a1), 1, true)) else (if (wrap64 (bt a0 a1)) ≥ 194 then (spec_l01Next.j0 k a0 a1 (wrap64 (bt a0 a1)) (decide ((wrap64 (bt a0 a1)) < 224))) else (spec_l01Next.j0 k a0 a1 (wrap64 (bt a0 a1)) false))) else (none)) else (none)
set_option maxHeartbeats 8000000 in
set_option maxRecDepth 100000 in
theorem spec_l01Next.calls (k : Nat) (a0 : ByteArray) (a1 : Int) (r1 : Int) (r2 : Int) (r3 : Bool) (w : World) (h : spec_l01Next.f k a0 a1 = some (r1, r2, r3)) :
  Calls Tryd.prog 93 #[.string a0, .int .i64 a1] w fun e w' => e = .returned (.tuple #[.int .i64 r1, .int .i64 r2, .bool r3]) ∧ Below w.heap.size w w' := by
 have HB := am (Below.refl w.heap.size w)
 have H : (if 0 ≤ a1 then (if a1 < (a0.size : Int) then (if (wrap64 (bt a0 a1)) < 128 then (some (wrap64 (bt a0 a1), 1, true)) else (if (wrap64 (bt a0 a1)) ≥ 194 then (spec_l01Next.j0 k a0 a1 (wrap64 (bt a0 a1)) (decide ((wrap64 (bt a0 a1)) < 224))) else (spec_l01Next.j0 k a0 a1 (wrap64 (bt a0 a1)) false))) else (none)) else (none)) = some (r1, r2, r3) := h
 clear h
 replace H := iteN H
 obtain ⟨c3, H⟩ := H
 have c3b0 := decide_eq_true c3
 clear c3
 replace H := iteN H
 obtain ⟨c4, H⟩ := H
 have c4b0 := decide_eq_true c4
 clear c4
 have HC6 := am H
 clear H
 have p5 : 0 ≤ (a1 : Int) := od
 have q5 : a1 < (a0.size : Int) := od
 have hx5 := bt_at a0 a1
 replace p5 := eq_true p5; replace q5 := eq_true q5
 go_enter Tryd.func93, Tryd.ntmps93
 go_upto_block 0 with (fail)
 go_cut [8, 9] (fun v8 v9 wc => ∃ (kq : Nat) (x8_5 : Int) (x9_5 : Int), v8 = .int .i64 x8_5 ∧ v9 = .int .i64 x9_5 ∧ Aside0 (spec_l01Next.j2 kq a0 a1 x8_5 x9_5 = some (r1, r2, r3)) ∧ Aside0 (kq ≤ k) ∧ Aside0 (Below w.heap.size w wc))
 case first =>
  have H := HC6.out
  clear HC6
  by_cases c7 : (wrap64 (bt a0 a1)) < 128
  ·rw [if_pos c7] at H
   have c7b0 := decide_eq_true c7
   clear c7
   (first | rw [c7b0] | (simp only [i64_w, i32_w]; rw [c7b0]) | skip)
   simp only [Option.some.injEq, Prod.mk.injEq] at H
   obtain ⟨rfl, rfl, rfl⟩ := H
   go_wp2
   go_ret3
   exact ⟨rv, bB⟩
  rw [if_neg c7] at H
  have c7b0 := decide_eq_false c7
  clear c7
  (first | rw [c7b0] | (simp only [i64_w, i32_w]; rw [c7b0]) | skip)
  have HC8 := am H
  clear H
  go_upto_region 7 with (fail)
  go_cut [21] (fun v21 wc => ∃ (kq : Nat) (x21_7 : Bool), v21 = .bool x21_7 ∧ Aside0 (spec_l01Next.j0 kq a0 a1 (wrap64 (bt a0 a1)) x21_7 = some (r1, r2, r3)) ∧ Aside0 (kq ≤ k) ∧ Aside0 (Below w.heap.size w wc))
  case first =>
   have H := HC8.out
   clear HC8
   by_cases c9 : (wrap64 (bt a0 a1)) ≥ 194
   ·rw [if_pos c9] at H
    have c9b0 : decide (194 ≤ (wrap64 (bt a0 a1))) = true := decide_eq_true c9
    clear c9
    (first | rw [c9b0] | (simp only [i64_w, i32_w]; rw [c9b0]) | skip)
    have H' := am H
    clear H
    go_wp2
    go_meet
    case rel => exact ⟨_, (decide ((wrap64 (bt a0 a1)) < 224)), sr, H', ⟨kl⟩, ⟨bB⟩⟩
   rw [if_neg c9] at H
   have c9b0 : decide (194 ≤ (wrap64 (bt a0 a1))) = false := decide_eq_false c9
   clear c9
   (first | rw [c9b0] | (simp only [i64_w, i32_w]; rw [c9b0]) | skip)
   have H' := am H
   clear H
   go_wp2
   go_meet
   case rel => exact ⟨_, (false), sr, H', ⟨kl⟩, ⟨bB⟩⟩
  case rest =>
   clear HC8
   try clear c3b0
   try clear c4b0
   try clear p5
   try clear q5
   try clear hx5
   try clear c7b0
   obtain ⟨kq, x21_7, rfl, HA, HJ7, HB⟩ := hcut
   cases kq with
   | zero => exact absurd HA.out (by simp [spec_l01Next.j0])
   | succ kj7 =>
    have H := HA.out
    clear HA
    simp only [spec_l01Next.j0] at H
    by_cases c10 : x21_7 = true
    ·subst c10
     replace H := iT H
     have H' := am H
     clear H
     go_wp2
     go_meet
     case rel => exact ⟨_, (1), (Int.tmod (wrap64 (bt a0 a1)) 32), sr, sr, H', ⟨kl⟩, ⟨bB⟩⟩
    replace c10 := Bool.eq_false_iff.mpr c10
    subst c10
    replace H := iF H
    have HC11 := am H
    clear H
    go_upto_region 10 with (fail)
    go_cut [30] (fun v30 wc => ∃ (kq : Nat) (x30_10 : Bool), v30 = .bool x30_10 ∧ Aside0 (spec_l01Next.j1 kq a0 a1 (wrap64 (bt a0 a1)) x30_10 = some (r1, r2, r3)) ∧ Aside0 (kq ≤ kj7) ∧ Aside0 (Below w.heap.size w wc))
    case first =>
     have H := HC11.out
     clear HC11
     by_cases c12 : (wrap64 (bt a0 a1)) ≥ 224
     ·rw [if_pos c12] at H
      have c12b0 : decide (224 ≤ (wrap64 (bt a0 a1))) = true := decide_eq_true c12
      clear c12
      (first | rw [c12b0] | (simp only [i64_w, i32_w]; rw [c12b0]) | skip)
      have H' := am H
      clear H
      go_wp2
      go_meet
      case rel => exact ⟨_, (decide ((wrap64 (bt a0 a1)) < 240)), sr, H', ⟨kl⟩, ⟨bB⟩⟩
     rw [if_neg c12] at H
     have c12b0 : decide (224 ≤ (wrap64 (bt a0 a1))) = false := decide_eq_false c12
     clear c12
     (first | rw [c12b0] | (simp only [i64_w, i32_w]; rw [c12b0]) | skip)
     have H' := am H
     clear H
     go_wp2
     go_meet
     case rel => exact ⟨_, (false), sr, H', ⟨kl⟩, ⟨bB⟩⟩
    case rest =>
     clear HC11
     try clear c10
     obtain ⟨kq, x30_10, rfl, HA, HJ10, HB⟩ := hcut
     cases kq with
     | zero => exact absurd HA.out (by simp [spec_l01Next.j1])
     | succ kj10 =>
      have H := HA.out
      clear HA
      simp only [spec_l01Next.j1] at H
      by_cases c13 : x30_10 = true
      ·subst c13
       replace H := iT H
       have H' := am H
       clear H
       go_wp2
       go_meet
       case rel => exact ⟨_, (2), (Int.tmod (wrap64 (bt a0 a1)) 16), sr, sr, H', ⟨kl⟩, ⟨bB⟩⟩
      replace c13 := Bool.eq_false_iff.mpr c13
      subst c13
      replace H := iF H
      by_cases c14 : (wrap64 (bt a0 a1)) ≥ 240
      rotate_left
      ·rw [if_neg c14] at H
       have c14b0 : decide (240 ≤ (wrap64 (bt a0 a1))) = false := decide_eq_false c14
       clear c14
       simp only [Option.some.injEq, Prod.mk.injEq] at H
       obtain ⟨rfl, rfl, rfl⟩ := H
       go_wp2
       go_ret3
       exact ⟨rv, bB⟩
      rw [if_pos c14] at H
      have c14b0 : decide (240 ≤ (wrap64 (bt a0 a1))) = true := decide_eq_true c14
      clear c14
      by_cases c15 : (wrap64 (bt a0 a1)) < 245
      ·rw [if_pos c15] at H
       have c15b0 := decide_eq_true c15
       clear c15
       have H' := am H
       clear H
       go_wp2
       go_meet
       case rel => exact ⟨_, (3), (Int.tmod (wrap64 (bt a0 a1)) 8), sr, sr, H', ⟨kl⟩, ⟨bB⟩⟩
      rw [if_neg c15] at H
      have c15b0 := decide_eq_false c15
      clear c15
      simp only [Option.some.injEq, Prod.mk.injEq] at H
      obtain ⟨rfl, rfl, rfl⟩ := H
      go_wp2
      go_ret3
      exact ⟨rv, bB⟩
 case rest =>
  clear HC6
  try clear c3b0
  try clear c4b0
  try clear p5
  try clear q5
  try clear hx5
  obtain ⟨kq, x8_5, x9_5, rfl, rfl, HA, HJ5, HB⟩ := hcut
  cases kq with
  | zero => exact absurd HA.out (by simp [spec_l01Next.j2])
  | succ kj5 =>
   have H := HA.out
   clear HA
   simp only [spec_l01Next.j2] at H
   by_cases c16 : (wrap64 (a1 + x8_5)) ≥ (a0.size : Int)
   ·rw [if_pos c16] at H
    have c16b0 : decide ((a0.size : Int) ≤ (wrap64 (a1 + x8_5))) = true := decide_eq_true c16
    clear c16
    simp only [Option.some.injEq, Prod.mk.injEq] at H
    obtain ⟨rfl, rfl, rfl⟩ := H
    go_wp2
    go_ret3
    exact ⟨rv, bB⟩
   rw [if_neg c16] at H
   have c16b0 : decide ((a0.size : Int) ≤ (wrap64 (a1 + x8_5))) = false := decide_eq_false c16
   clear c16
   have H' := am H
   clear H
   go_wp2
   go_loopg [9, 10] kj5 (fun kq v9 v10 w' => ∃ (x9_2 : Int) (x10_2 : Int), v9 = .int .i64 x9_2 ∧ v10 = .int .i64 x10_2 ∧ Aside0 (spec_l01Next.l0 kq a0 a1 x8_5 x9_2 x10_2 = some (r1, r2, r3)) ∧ Aside0 (kq ≤ kj5) ∧ Aside0 (Below w.heap.size w w'))
   case atStart => exact ⟨(x9_5), (1), sr, sr, H', ⟨Nat.le_refl _⟩, ⟨bB⟩⟩
   case round =>
    clear H'
    try clear c16b0
    obtain ⟨x9_2, x10_2, rfl, rfl, HA, HK2, HB⟩ := hrel
    cases gk with
    | zero => exact absurd HA.out (by simp [spec_l01Next.l0])
    | succ k2 =>
     have H := HA.out
     clear HA
     simp only [spec_l01Next.l0] at H
     by_cases c17 : x10_2 ≤ x8_5
     rotate_left
     ·rw [if_neg c17] at H
      have c17b0 := decide_eq_false c17
      clear c17
      obtain ⟨t142, A24, H⟩ := bb H
      by_cases c25 : t142 = true
      rotate_left
      ·replace c25 := Bool.eq_false_iff.mpr c25
       subst c25
       replace H := iF H
       simp only [Option.some.injEq, Prod.mk.injEq] at H
       obtain ⟨rfl, rfl, rfl⟩ := H
       go_wp2_with (first | ((with_reducible refine gate_callee (f := 122) rfl ?_); refine gq 77 Tryd.func122 (spec_l01IsPoint.calls x9_2 false _ A24.out) fun nd => ?_))
       go_ret3
       exact ⟨rv, bB⟩
      subst c25
      replace H := iT H
      obtain ⟨t143, A26, H⟩ := bb H
      by_cases c27 : (t143.size : Int) = (wrap64 (x8_5 + 1))
      rotate_left
      ·rw [if_neg c27] at H
       have c27b0 : ((t143.size : Int) == (wrap64 (x8_5 + 1))) = false := beq_eq_false_iff_ne.mpr c27
       have c27b1 : ((t143.size : Int) != (wrap64 (x8_5 + 1))) = true := bne_iff_ne.mpr c27
       simp only [Option.some.injEq, Prod.mk.injEq] at H
       obtain ⟨rfl, rfl, rfl⟩ := H
       go_wp2_with (first | ((with_reducible refine gate_callee (f := 122) rfl ?_); refine gq 77 Tryd.func122 (spec_l01IsPoint.calls x9_2 true _ A24.out) fun nd => ?_) | (go_at_call 105; (with_reducible refine (spec_l01Write.calls k2 x9_2 t143 _ A26.out).mono ?_); rintro e w29 ⟨rfl, hb⟩; replace HB := am (below_step bB hb); (try clear hb)))
       go_ret3
       exact ⟨rv, bB⟩
      rw [if_pos c27] at H
      have c27b0 : ((t143.size : Int) == (wrap64 (x8_5 + 1))) = true := beq_iff_eq.mpr c27
      have c27b1 : ((t143.size : Int) != (wrap64 (x8_5 + 1))) = false := bne_eq_false_iff_eq.mpr c27
      clear c27
      simp only [Option.some.injEq, Prod.mk.injEq] at H
      obtain ⟨rfl, rfl, rfl⟩ := H
      go_wp2_with (first | ((with_reducible refine gate_callee (f := 122) rfl ?_); refine gq 77 Tryd.func122 (spec_l01IsPoint.calls x9_2 true _ A24.out) fun nd => ?_) | (go_at_call 105; (with_reducible refine (spec_l01Write.calls k2 x9_2 t143 _ A26.out).mono ?_); rintro e w28 ⟨rfl, hb⟩; replace HB := am (below_step bB hb); (try clear hb)))
      go_ret3
      exact ⟨rv, bB⟩
     rw [if_pos c17] at H
     have c17b0 := decide_eq_true c17
     clear c17
     obtain ⟨ji18, hji18⟩ : ∃ j_ : Int, (wrap64 (a1 + x10_2)) = j_ := ⟨_, rfl⟩
     replace H : (if 0 ≤ (ji18) then (if (ji18) < (a0.size : Int) then (if (wrap64 (bt a0 (ji18))) < 128 then (some (65533, 1, false)) else (if (wrap64 (bt a0 (ji18))) > 191 then (some (65533, 1, false)) else (spec_l01Next.l0 k2 a0 a1 x8_5 (wrap64 ((wrap64 (x9_2 * 64)) + (Int.tmod (wrap64 (bt a0 (ji18))) 64))) (wrap64 (x10_2 + 1))))) else (none)) else (none)) = some (r1, r2, r3) := by first | (rw [hji18] at H; exact H) | (simp only [hji18] at H ⊢; exact H)
     have hji18w : (IntKind.i64.wrap (a1 + x10_2)) = ji18 := (i64_w _).trans hji18
     replace H := iteN H
     obtain ⟨c19, H⟩ := H
     have c19b0 := decide_eq_true c19
     clear c19
     replace H := iteN H
     obtain ⟨c20, H⟩ := H
     have c20b0 := decide_eq_true c20
     clear c20
     by_cases c22 : (wrap64 (bt a0 (ji18))) < 128
     ·rw [if_pos c22] at H
      have c22b0 := decide_eq_true c22
      clear c22
      simp only [Option.some.injEq, Prod.mk.injEq] at H
      obtain ⟨rfl, rfl, rfl⟩ := H
      have p21 : 0 ≤ ((ji18) : Int) := od
      have q21 : (ji18) < (a0.size : Int) := od
      have hx21 := bt_at a0 (ji18)
      replace p21 := eq_true p21; replace q21 := eq_true q21
      go_wp2
      go_ret3
      exact ⟨by first | rfl | (simp [errW_none, errW_some] <;> rfl) | (simp only [← hji18]; first | rfl | (simp [errW_none, errW_some] <;> rfl)) | (simp [*, errW_none, errW_some] <;> rfl), bB⟩
     rw [if_neg c22] at H
     have c22b0 := decide_eq_false c22
     clear c22
     by_cases c23 : (wrap64 (bt a0 (ji18))) > 191
     ·rw [if_pos c23] at H
      have c23b0 : decide (191 < (wrap64 (bt a0 (ji18)))) = true := decide_eq_true c23
      clear c23
      simp only [Option.some.injEq, Prod.mk.injEq] at H
      obtain ⟨rfl, rfl, rfl⟩ := H
      have p21 : 0 ≤ ((ji18) : Int) := od
      have q21 : (ji18) < (a0.size : Int) := od
      have hx21 := bt_at a0 (ji18)
      replace p21 := eq_true p21; replace q21 := eq_true q21
      go_wp2
      go_ret3
      exact ⟨by first | rfl | (simp [errW_none, errW_some] <;> rfl) | (simp only [← hji18]; first | rfl | (simp [errW_none, errW_some] <;> rfl)) | (simp [*, errW_none, errW_some] <;> rfl), bB⟩
     rw [if_neg c23] at H
     have c23b0 : decide (191 < (wrap64 (bt a0 (ji18)))) = false := decide_eq_false c23
     clear c23
     have H' := am H
     clear H
     have p21 : 0 ≤ ((ji18) : Int) := od
     have q21 : (ji18) < (a0.size : Int) := od
     have hx21 := bt_at a0 (ji18)
     replace p21 := eq_true p21; replace q21 := eq_true q21
     go_wp2
     go_roundg k2
     case measure => have := HJ5.out; have := HK2.out; omega
     case rel => exact ⟨(wrap64 ((wrap64 (x9_2 * 64)) + (Int.tmod (wrap64 (bt a0 (ji18))) 64))), (wrap64 (x10_2 + 1)), (by first | rfl | (simp; done) | (simp only [← hji18] <;> (first | rfl | simp)) | (simp [*]; done)), sr, H', ⟨kl⟩, ⟨bB⟩⟩
/-! ### spec_l07RowOf: function 79 -/
def spec_l07RowOf.l0 : Nat → ByteArray → Int → List Int → List Int → Option (List Int × List Int)
 | 0, _, _, _, _ => none
 | k + 1, x0, x4, x146000, x146001 => if x4 < (x0.size : Int) then ((spec_l01Next.f k x0 x4).bind fun bt146 => (if x146000.length < 17592186044416 then (if x146001.length < 17592186044416 then (spec_l07RowOf.l0 k x0 (wrap64 (x4 + bt146.2.1)) (x146000 ++ [bt146.1]) (x146001 ++ [x4])) else (none)) else (none))) else (if x146001.length < 17592186044416 then (some (x146000, (x146001 ++ [(x0.size : Int)]))) else (none))
def spec_l07RowOf.f (k : Nat) (a0 : ByteArray) : Option (List Int × List Int) := spec_l07RowOf.l0 k a0 0 ([] : List Int) ([] : List Int)
set_option maxHeartbeats 8000000 in
set_option maxRecDepth 100000 in
theorem spec_l07RowOf.calls (k : Nat) (a0 : ByteArray) (r1 : List Int) (r2 : List Int) (w : World) (h : spec_l07RowOf.f k a0 = some (r1, r2)) :
  Calls Tryd.prog 79 #[.string a0] w fun e w' => ∃ v0_ v1_ : Value, e = .returned (.agg #[v0_, v1_]) ∧ Kd.R (Kd.int .i64) 2 w' w.heap.size (fun k_ => some k_ ≠ (v1_ : Value).ownBlock) v0_ r1 ∧ Kd.R (Kd.int .i64) 2 w' w.heap.size (fun k_ => some k_ ≠ (v0_ : Value).ownBlock) v1_ r2 ∧ Below w.heap.size w w' := by
 have hu76 := Tryd.underlying76
 have HB := am (Below.refl w.heap.size w)
 have H : (spec_l07RowOf.l0 k a0 0 ([] : List Int) ([] : List Int)) = some (r1, r2) := h
 clear h
 have H' := am H
 clear H
 go_enter Tryd.func79, Tryd.ntmps79
 go_wp2_with (first | ((with_reducible refine gate_dst (N := 2) rfl ?_); refine bx 2 #[.slice none 0 0, .slice none 0 0] 76 ?_; intro gb144 hg w2 hbox hb; have BK144 := am (hbox); have GW144 := am ((by rw [hg]; exact (below_size bB) : w.heap.size ≤ gb144)); have GE144 := am ((by rw [hg]; exact (below_size bB) : w.heap.size ≤ gb144)); replace HB := am (below_step bB hb); clear hb hbox hg) | ((with_reducible refine gate_dst (N := 3) rfl ?_); refine bx 3 #[.slice none 0 0, .slice none 0 0] 76 ?_; intro gb145 hg w3 hbox hb; have BK145 := am (hbox); have GW145 := am ((by rw [hg]; exact (below_size bS) : w.heap.size ≤ gb145)); have GE145 := am ((by rw [hg]; exact (below_size bS) : w.heap.size ≤ gb145)); replace HB := am (below_step bS hb); have NB144_145 := am (nl hg BK144.out); have NB145_144 := am NB144_145.out.symm; replace BK144 := am (blk_below (g := gb144) (o := .cells #[.slice none 0 0, .slice none 0 0] 76 (0, 0)) (bk BK144.out) hb); clear hb hbox hg; have hnb4 := NB145_144.out; have hnc4 := NB144_145.out; have hcz5_0 := bc BK145.out 0 (.slice none 0 0); have hcz5_1 := bc BK145.out 1 (.slice none 0 0); have hfz5_0 := blk_frozen BK145.out 0; have hfz5_1 := blk_frozen BK145.out 1))
 go_loopg [4] k (fun kq v4 w' => ∃ (x4_1 : Int) (x146000_1 : List Int) (x146001_1 : List Int) (u146000 : Value) (u146001 : Value), v4 = .int .i64 x4_1 ∧ Aside0 (spec_l07RowOf.l0 kq a0 x4_1 x146000_1 x146001_1 = some (r1, r2)) ∧ Aside0 (kq ≤ k) ∧ Aside0 (Kd.R (Kd.int .i64) 2 w' w.heap.size (fun k_ => some k_ ≠ (u146001 : Value).ownBlock) u146000 x146000_1) ∧ Aside0 (Kd.R (Kd.int .i64) 2 w' w.heap.size (fun k_ => some k_ ≠ (u146000 : Value).ownBlock) u146001 x146001_1) ∧ Aside0 (w'.heap[gb144]? = some (.cells #[(.slice none 0 0), (.slice none 0 0)] 76 (0, 0))) ∧ Aside0 (w'.heap[gb145]? = some (.cells #[u146000, u146001] 76 (0, 0))) ∧ Aside0 (Below w.heap.size w w'))
 case atStart => exact ⟨(0), (([] : List Int)), (([] : List Int)), (.slice none 0 0), (.slice none 0 0), sr, H', ⟨Nat.le_refl _⟩, ⟨by first | exact Kd.R_nil _ _ _ _ _ | exact Kd.N_nil _ _ _ _ _ | exact Kd.V_nil _ _ _ _ _ | exact Kd.Q_nil _ _ _ _ _ | exact Kd.S_nil _ _ _ _ _⟩, ⟨by first | exact Kd.R_nil _ _ _ _ _ | exact Kd.N_nil _ _ _ _ _ | exact Kd.V_nil _ _ _ _ _ | exact Kd.Q_nil _ _ _ _ _ | exact Kd.S_nil _ _ _ _ _⟩, ⟨by (with_reducible repeat (first | refine blk_drewN ?_ _ | refine blk_drew ?_ | refine blk_alloc ?_ _)); refine blk_far ?_ NB144_145.out _; (with_reducible repeat (first | refine blk_drewN ?_ _ | refine blk_drew ?_ | refine blk_alloc ?_ _)); refine blk_far ?_ NB144_145.out _; (with_reducible repeat (first | refine blk_drewN ?_ _ | refine blk_drew ?_ | refine blk_alloc ?_ _)); exact BK144.out⟩, ⟨by (with_reducible repeat (first | refine blk_drewN ?_ _ | refine blk_drew ?_ | refine blk_alloc ?_ _)); refine blk_put (cs := #[.slice none 0 0, .slice none 0 0]) ?_ 1 _ rfl; (with_reducible repeat (first | refine blk_drewN ?_ _ | refine blk_drew ?_ | refine blk_alloc ?_ _)); refine blk_put (cs := #[.slice none 0 0, .slice none 0 0]) ?_ 0 _ rfl; (with_reducible repeat (first | refine blk_drewN ?_ _ | refine blk_drew ?_ | refine blk_alloc ?_ _)); exact BK145.out⟩, ⟨bS⟩⟩
 case round =>
  clear H'
  try clear hcz5_0
  try clear hcz5_1
  try clear hfz5_0
  try clear hfz5_1
  obtain ⟨x4_1, x146000_1, x146001_1, u146000, u146001, rfl, HA, HK1, HO_146000, HO_146001, BK144, BK145, HB⟩ := hrel
  cases gk with
  | zero => exact absurd HA.out (by simp [spec_l07RowOf.l0])
  | succ k1 =>
   have H := HA.out
   clear HA
   simp only [spec_l07RowOf.l0] at H
   by_cases c6 : x4_1 < (a0.size : Int)
   rotate_left
   ·rw [if_neg c6] at H
    have c6b0 := decide_eq_false c6
    clear c6
    replace H := iteN H
    obtain ⟨c19, H⟩ := H
    have LMc19 := am c19
    clear c19
    obtain ⟨y155, hy155⟩ : ∃ y_ : List Int, y_ = (x146001_1 ++ [(a0.size : Int)]) := ⟨_, rfl⟩
    replace H : (some (x146000_1, y155)) = some (r1, r2) := rY hy155
    have Ny155 := am hy155
    clear hy155
    simp only [Option.some.injEq, Prod.mk.injEq] at H
    obtain ⟨rfl, rfl⟩ := H
    have hnb20 := NB145_144.out
    have hnc20 := NB144_145.out
    have hcz21_0 := bc BK145.out 0 (u146000)
    have hcz21_1 := bc BK145.out 1 (u146001)
    have hfz21_0 := blk_frozen BK145.out 0
    have hfz21_1 := blk_frozen BK145.out 1
    go_wp2_with (first | ((with_reducible refine gate_builtin (b := .append) (xs := #[.tmp 36, .tmp 39]) rfl ?_); at_builtin; refine Kd.R_append (Kd.int .i64) (w0 := w) w.heap.size rfl (.tmp 36) (.tmp 39) 22 2 (.int .i64 0) 8 rfl Tryd.underlying22 info2 rfl (by decide) (by omega) u146001 x146001_1 (a0.size : Int) [.int .i64 (a0.size : Int)] (fun k_ => some k_ ≠ (u146000 : Value).ownBlock) (fun _ => False) rfl rfl ?aP (fun _ hk => hk.elim) ?aF ?aO ?aB ?aS ?aL ?_; (case aP => exact rfl); (case aB => exact bS); (case aF => exact (fun k_ hk => Kd.fresh' (Kd.R_lt (kR HO_146000.out)) k_ hk)); (case aO => exact (kR HO_146001.out)); (case aS => exact (below_size bS)); (case aL => have := LMc19.out; omega); intro v156 w22 ho hb hg hat; rw [← Ny155.out] at ho; replace HO_146000 := am (Kd.R_after (ok := (fun _ => True)) (kR (Kd.R_mono HO_146000.out (fun _ hk => ⟨trivial, hk⟩))) hg hat); replace BK144 := am (blk_grown (g := gb144) (o := .cells #[.slice none 0 0, .slice none 0 0] 76 (0, 0)) (bk BK144.out) hg (Kd.R_ne HO_146001.out BK144.out (by decide))); replace BK145 := am (blk_grown (g := gb145) (o := .cells #[u146000, u146001] 76 (0, 0)) (bk BK145.out) hg (Kd.R_ne HO_146001.out BK145.out (by decide))); replace HB := am (hb); have HO157 := am (ho); clear HO_146001; clear ho hb hg hat; obtain ⟨Ao23, co23, eo23⟩ := Kd.R_slice HO157.out; subst eo23; have hcz24_0 := bc BK145.out 0 (u146000); have hcz24_1 := bc BK145.out 1 (u146001); have hfz24_0 := blk_frozen BK145.out 0; have hfz24_1 := blk_frozen BK145.out 1; obtain ⟨Ao25, co25, eo25⟩ := Kd.R_slice HO_146000.out; subst eo25; have hcz26_0 := bc BK144.out 0 (.slice none 0 0); have hcz26_1 := bc BK144.out 1 (.slice none 0 0); have hfz26_0 := blk_frozen BK144.out 0; have hfz26_1 := blk_frozen BK144.out 1))
    refine bodyPost_ret (results_cell_row rfl _ _ gb144 76 #[.slice Ao25 x146000_1.length co25, .slice Ao23 y155.length co23] (0, 0) _ rfl (by (with_reducible repeat (first | refine blk_drewN ?_ _ | refine blk_drew ?_ | refine blk_alloc ?_ _)); refine blk_put (cs := #[.slice Ao25 x146000_1.length co25, .slice none 0 0]) ?_ 1 _ rfl; (with_reducible repeat (first | refine blk_drewN ?_ _ | refine blk_drew ?_ | refine blk_alloc ?_ _)); refine blk_put (cs := #[.slice none 0 0, .slice none 0 0]) ?_ 0 _ rfl; (with_reducible repeat (first | refine blk_drewN ?_ _ | refine blk_drew ?_ | refine blk_alloc ?_ _)); refine blk_far ?_ NB144_145.out _; (with_reducible repeat (first | refine blk_drewN ?_ _ | refine blk_drew ?_ | refine blk_alloc ?_ _)); exact BK144.out) Tryd.underlying76 rfl (by kernel_rfl)) rfl ?_
    exact ⟨_, _, rv, by (with_reducible repeat (first | apply Kd.R_alloc | apply Kd.R_drewN | apply Kd.R_drew)); exact Kd.R_mono (Kd.R_far (p := ⟨gb144, 1, none⟩) (Kd.R_far (p := ⟨gb144, 0, none⟩) (Kd.R_far (p := ⟨gb145, 1, none⟩) (Kd.R_types (Kd.R_types HO_146000.out BK145.out (by decide)) BK144.out (by decide)) (fun _ hk => hk.1.2) (.slice Ao23 y155.length co23)) (fun _ hk => hk.2) (.slice Ao25 x146000_1.length co25)) (fun _ hk => hk.2) (.slice Ao23 y155.length co23)) (fun _ hk => hk.1.1.2), by (with_reducible repeat (first | apply Kd.R_alloc | apply Kd.R_drewN | apply Kd.R_drew)); exact Kd.R_mono (Kd.R_far (p := ⟨gb144, 1, none⟩) (Kd.R_far (p := ⟨gb144, 0, none⟩) (Kd.R_far (p := ⟨gb145, 1, none⟩) (Kd.R_types (Kd.R_types HO157.out BK145.out (by decide)) BK144.out (by decide)) (fun _ hk => hk.1.2) (.slice Ao23 y155.length co23)) (fun _ hk => hk.2) (.slice Ao25 x146000_1.length co25)) (fun _ hk => hk.2) (.slice Ao23 y155.length co23)) (fun _ hk => hk.1.1), bS⟩
   rw [if_pos c6] at H
   have c6b0 := decide_eq_true c6
   clear c6
   replace H := Option.bind_eq_some_iff.mp H
   obtain ⟨⟨t146, t147, t148⟩, A70, H⟩ := H
   replace H : (if x146000_1.length < 17592186044416 then (if x146001_1.length < 17592186044416 then (spec_l07RowOf.l0 k1 a0 (wrap64 (x4_1 + t147)) (x146000_1 ++ [t146]) (x146001_1 ++ [x4_1])) else (none)) else (none)) = some (r1, r2) := H
   have A7 := am A70
   clear A70
   replace H := iteN H
   obtain ⟨c8, H⟩ := H
   have LMc8 := am c8
   clear c8
   obtain ⟨y149, hy149⟩ : ∃ y_ : List Int, y_ = (x146000_1 ++ [t146]) := ⟨_, rfl⟩
   replace H : (if x146001_1.length < 17592186044416 then (spec_l07RowOf.l0 k1 a0 (wrap64 (x4_1 + t147)) y149 (x146001_1 ++ [x4_1])) else (none)) = some (r1, r2) := rY hy149
   have Ny149 := am hy149
   clear hy149
   replace H := iteN H
   obtain ⟨c9, H⟩ := H
   have LMc9 := am c9
   clear c9
   obtain ⟨y152, hy152⟩ : ∃ y_ : List Int, y_ = (x146001_1 ++ [x4_1]) := ⟨_, rfl⟩
   replace H : (spec_l07RowOf.l0 k1 a0 (wrap64 (x4_1 + t147)) y149 y152) = some (r1, r2) := rY hy152
   have Ny152 := am hy152
   clear hy152
   have H' := am H
   clear H
   go_wp2_with (first | ((with_reducible refine gate_callee (f := 93) rfl ?_); refine gl 16 Tryd.func93 #[.string a0, .int .i64 x4_1] ?_; (with_reducible refine (spec_l01Next.calls k1 a0 x4_1 t146 t147 t148 _ A7.out).mono ?_); rintro e w10 ⟨rfl, hb⟩; refine ⟨_, rfl, ?_⟩; replace HO_146000 := am (Kd.R_below (kR HO_146000.out) hb); replace HO_146001 := am (Kd.R_below (kR HO_146001.out) hb); replace BK144 := am (blk_below (g := gb144) (o := .cells #[.slice none 0 0, .slice none 0 0] 76 (0, 0)) (bk BK144.out) hb); replace BK145 := am (blk_below (g := gb145) (o := .cells #[u146000, u146001] 76 (0, 0)) (bk BK145.out) hb); replace HB := am (below_step bS hb); (try clear hb); have hnb11 := NB145_144.out; have hnc11 := NB144_145.out; have hcz12_0 := bc BK145.out 0 (u146000); have hcz12_1 := bc BK145.out 1 (u146001); have hfz12_0 := blk_frozen BK145.out 0; have hfz12_1 := blk_frozen BK145.out 1) | ((with_reducible refine gate_builtin (b := .append) (xs := #[.tmp 21, .tmp 23]) rfl ?_); at_builtin; refine Kd.R_append (Kd.int .i64) (w0 := w) w.heap.size rfl (.tmp 21) (.tmp 23) 22 2 (.int .i64 0) 8 rfl Tryd.underlying22 info2 rfl (by decide) (by omega) u146000 x146000_1 t146 [.int .i64 t146] (fun k_ => some k_ ≠ (u146001 : Value).ownBlock) (fun _ => False) rfl rfl ?aP (fun _ hk => hk.elim) ?aF ?aO ?aB ?aS ?aL ?_; (case aP => exact rfl); (case aB => exact bS); (case aF => exact (fun k_ hk => Kd.fresh' (Kd.R_lt (kR HO_146001.out)) k_ hk)); (case aO => exact (kR HO_146000.out)); (case aS => exact (below_size bS)); (case aL => have := LMc8.out; omega); intro v150 w13 ho hb hg hat; rw [← Ny149.out] at ho; replace HO_146001 := am (Kd.R_after (ok := (fun _ => True)) (kR (Kd.R_mono HO_146001.out (fun _ hk => ⟨trivial, hk⟩))) hg hat); replace BK144 := am (blk_grown (g := gb144) (o := .cells #[.slice none 0 0, .slice none 0 0] 76 (0, 0)) (bk BK144.out) hg (Kd.R_ne HO_146000.out BK144.out (by decide))); replace BK145 := am (blk_grown (g := gb145) (o := .cells #[u146000, u146001] 76 (0, 0)) (bk BK145.out) hg (Kd.R_ne HO_146000.out BK145.out (by decide))); replace HB := am (hb); have HO151 := am (ho); clear HO_146000; clear ho hb hg hat; obtain ⟨Ao14, co14, eo14⟩ := Kd.R_slice HO151.out; subst eo14; have hcz15_0 := bc BK145.out 0 (u146000); have hcz15_1 := bc BK145.out 1 (u146001); have hfz15_0 := blk_frozen BK145.out 0; have hfz15_1 := blk_frozen BK145.out 1) | ((with_reducible refine gate_builtin (b := .append) (xs := #[.tmp 27, .tmp 29]) rfl ?_); at_builtin; refine Kd.R_append (Kd.int .i64) (w0 := w) w.heap.size rfl (.tmp 27) (.tmp 29) 22 2 (.int .i64 0) 8 rfl Tryd.underlying22 info2 rfl (by decide) (by omega) u146001 x146001_1 x4_1 [.int .i64 x4_1] (fun k_ => some k_ ≠ (.slice Ao14 y149.length co14 : Value).ownBlock) (fun _ => False) rfl (by first | (go_simp; done) | (go_simp; rfl)) ?aP (fun _ hk => hk.elim) ?aF ?aO ?aB ?aS ?aL ?_; (case aP => exact rfl); (case aB => exact bS); (case aF => exact (fun k_ hk => Kd.fresh' (Kd.R_lt (kR ((Kd.R_mono (Kd.R_far (p := ⟨gb145, 0, none⟩) (Kd.R_types HO151.out BK145.out (by decide)) (fun _ hk => hk.2) (.slice Ao14 y149.length co14)) (fun _ h_ => h_.1))))) k_ hk)); (case aO => exact (kR (Kd.R_mono (Kd.R_far (p := ⟨gb145, 0, none⟩) (Kd.R_types HO_146001.out BK145.out (by decide)) (fun _ hk => hk.2) (.slice Ao14 y149.length co14)) (fun _ hk => hk.1.2)))); (case aS => exact (below_size bS)); (case aL => have := LMc9.out; omega); intro v153 w16 ho hb hg hat; rw [← Ny152.out] at ho; replace BK144 := am (blk_grown (g := gb144) (o := .cells #[.slice none 0 0, .slice none 0 0] 76 (0, 0)) (bf BK144.out) hg (Kd.R_ne HO_146001.out BK144.out (by decide))); replace HO151 := am (Kd.R_after (ok := (fun _ => True)) (kR (Kd.R_mono (Kd.R_far (p := ⟨gb145, 0, none⟩) (Kd.R_types HO151.out BK145.out (by decide)) (fun _ hk => hk.2) (.slice Ao14 y149.length co14)) (fun _ hk => ⟨trivial, hk.1⟩))) hg hat); replace BK145 := am (blk_grown (g := gb145) (o := .cells #[.slice Ao14 y149.length co14, u146001] 76 (0, 0)) (by (with_reducible repeat (first | refine blk_drewN ?_ _ | refine blk_drew ?_ | refine blk_alloc ?_ _)); refine blk_put (cs := #[u146000, u146001]) ?_ 0 _ rfl; (with_reducible repeat (first | refine blk_drewN ?_ _ | refine blk_drew ?_ | refine blk_alloc ?_ _)); exact BK145.out) hg (Kd.R_ne HO_146001.out BK145.out (by decide))); replace HB := am (hb); have HO154 := am (ho); clear HO_146001; clear ho hb hg hat; obtain ⟨Ao17, co17, eo17⟩ := Kd.R_slice HO154.out; subst eo17; have hcz18_0 := bc BK145.out 0 (.slice Ao14 y149.length co14); have hcz18_1 := bc BK145.out 1 (u146001); have hfz18_0 := blk_frozen BK145.out 0; have hfz18_1 := blk_frozen BK145.out 1))
   go_roundg k1
   case measure => have := HK1.out; omega
   case rel => exact ⟨(wrap64 (x4_1 + t147)), (y149), (y152), (.slice Ao14 y149.length co14), (.slice Ao17 y152.length co17), sr, H', ⟨kl⟩, ⟨kR (Kd.R_mono (Kd.R_far (p := ⟨gb145, 1, none⟩) (Kd.R_types HO151.out BK145.out (by decide)) (fun _ hk => hk.2) (.slice Ao17 y152.length co17)) (fun _ hk => hk.1.2))⟩, ⟨kR (Kd.R_mono (Kd.R_far (p := ⟨gb145, 1, none⟩) (Kd.R_types HO154.out BK145.out (by decide)) (fun _ hk => hk.2) (.slice Ao17 y152.length co17)) (fun _ hk => hk.1))⟩, ⟨by (with_reducible repeat (first | refine blk_drewN ?_ _ | refine blk_drew ?_ | refine blk_alloc ?_ _)); refine blk_far ?_ NB144_145.out _; (with_reducible repeat (first | refine blk_drewN ?_ _ | refine blk_drew ?_ | refine blk_alloc ?_ _)); exact BK144.out⟩, ⟨by (with_reducible repeat (first | refine blk_drewN ?_ _ | refine blk_drew ?_ | refine blk_alloc ?_ _)); refine blk_put (cs := #[.slice Ao14 y149.length co14, u146001]) ?_ 1 _ rfl; (with_reducible repeat (first | refine blk_drewN ?_ _ | refine blk_drew ?_ | refine blk_alloc ?_ _)); exact BK145.out⟩, ⟨bS⟩⟩
/-! ### spec_l01Cased: function 123 -/
def spec_l01Cased.f  : Option ((List (S100))) := some (([(⟨0, 31, 4, 0⟩ : S100), (⟨32, 63, 5, 0⟩ : S100), (⟨64, 67, 4, 0⟩ : S100), (⟨68, 71, 6, 0⟩ : S100), (⟨72, 75, 5, 0⟩ : S100), (⟨80, 89, 8, 0⟩ : S100), (⟨96, 97, 5, 0⟩ : S100)] : List (S100)))
set_option maxHeartbeats 8000000 in
set_option maxRecDepth 100000 in
theorem spec_l01Cased.calls  (r : List (S100)) (w : World) (h : spec_l01Cased.f  = some r) :
  Calls Tryd.prog 123 #[] w fun e w' => ∃ v0_ : Value, e = .returned (v0_) ∧ Kd.R k100 100 w' w.heap.size (fun _ => True) v0_ r ∧ Below w.heap.size w w' := by
 have hu100 := Tryd.underlying100
 have HB := am (Below.refl w.heap.size w)
 have H : (some (([(⟨0, 31, 4, 0⟩ : S100), (⟨32, 63, 5, 0⟩ : S100), (⟨64, 67, 4, 0⟩ : S100), (⟨68, 71, 6, 0⟩ : S100), (⟨72, 75, 5, 0⟩ : S100), (⟨80, 89, 8, 0⟩ : S100), (⟨96, 97, 5, 0⟩ : S100)] : List (S100)))) = some r := h
 clear h
 obtain ⟨y158, hy158⟩ : ∃ y_ : List (S100), y_ = (([(⟨0, 31, 4, 0⟩ : S100), (⟨32, 63, 5, 0⟩ : S100), (⟨64, 67, 4, 0⟩ : S100), (⟨68, 71, 6, 0⟩ : S100), (⟨72, 75, 5, 0⟩ : S100), (⟨80, 89, 8, 0⟩ : S100), (⟨96, 97, 5, 0⟩ : S100)] : List (S100))) := ⟨_, rfl⟩
 replace H : (some y158) = some r := rY hy158
 have Ny158 := am hy158
 clear hy158
 obtain rfl := Option.some.inj H
 go_enter Tryd.func123, Tryd.ntmps123
 go_wp2_with (first | ((with_reducible refine gate_dst (N := 8) rfl ?_); refine Kd.R_lit k100 _ 100 ?hg (N := 8) ?hd (xs := ([(⟨0, 31, 4, 0⟩ : S100), (⟨32, 63, 5, 0⟩ : S100), (⟨64, 67, 4, 0⟩ : S100), (⟨68, 71, 6, 0⟩ : S100), (⟨72, 75, 5, 0⟩ : S100), (⟨80, 89, 8, 0⟩ : S100), (⟨96, 97, 5, 0⟩ : S100)] : List (S100))) (inner := [.int .i64 0, .int .i64 31, .int .i64 4, .int .i64 0, .int .i64 32, .int .i64 63, .int .i64 5, .int .i64 0, .int .i64 64, .int .i64 67, .int .i64 4, .int .i64 0, .int .i64 68, .int .i64 71, .int .i64 6, .int .i64 0, .int .i64 72, .int .i64 75, .int .i64 5, .int .i64 0, .int .i64 80, .int .i64 89, .int .i64 8, .int .i64 0, .int .i64 96, .int .i64 97, .int .i64 5, .int .i64 0]) (ok := fun _ => True) (okp := fun _ => True) ?hr ?hp (fun _ hk => hk) trivial (Below.refl _ _) (Nat.le_refl _) (by simp) ?_; (case hd => rfl); (case hg => rfl); (case hr => first | (go_simp; done) | (go_simp; rfl)); (case hp => exact (Reps.c4 (show Kd.M k100 _ _ _ (⟨0, 31, 4, 0⟩ : S100) [.int .i64 0, .int .i64 31, .int .i64 4, .int .i64 0] from (k100_mkM _ _ _ (⟨0, 31, 4, 0⟩ : S100) )) (Reps.c4 (show Kd.M k100 _ _ _ (⟨32, 63, 5, 0⟩ : S100) [.int .i64 32, .int .i64 63, .int .i64 5, .int .i64 0] from (k100_mkM _ _ _ (⟨32, 63, 5, 0⟩ : S100) )) (Reps.c4 (show Kd.M k100 _ _ _ (⟨64, 67, 4, 0⟩ : S100) [.int .i64 64, .int .i64 67, .int .i64 4, .int .i64 0] from (k100_mkM _ _ _ (⟨64, 67, 4, 0⟩ : S100) )) (Reps.c4 (show Kd.M k100 _ _ _ (⟨68, 71, 6, 0⟩ : S100) [.int .i64 68, .int .i64 71, .int .i64 6, .int .i64 0] from (k100_mkM _ _ _ (⟨68, 71, 6, 0⟩ : S100) )) (Reps.c4 (show Kd.M k100 _ _ _ (⟨72, 75, 5, 0⟩ : S100) [.int .i64 72, .int .i64 75, .int .i64 5, .int .i64 0] from (k100_mkM _ _ _ (⟨72, 75, 5, 0⟩ : S100) )) (Reps.c4 (show Kd.M k100 _ _ _ (⟨80, 89, 8, 0⟩ : S100) [.int .i64 80, .int .i64 89, .int .i64 8, .int .i64 0] from (k100_mkM _ _ _ (⟨80, 89, 8, 0⟩ : S100) )) (Reps.c4 (show Kd.M k100 _ _ _ (⟨96, 97, 5, 0⟩ : S100) [.int .i64 96, .int .i64 97, .int .i64 5, .int .i64 0] from (k100_mkM _ _ _ (⟨96, 97, 5, 0⟩ : S100) )) (Reps.none _ _))))))))); intro v159 w1 ho2 hb hg_ hnew_; clear hg_ hnew_; (first | rw [← Ny158.out] at ho2 | (simp only [Int.reduceToNat] at ho2; rw [← Ny158.out] at ho2)); have HO160 := am (Kd.R_lower ho2 (below_size bB)); replace HB := am (below_step bB hb); clear hb ho2))
 go_ret
 exact ⟨_, rv, kR HO160.out, bB⟩
/-! ### spec_l01Rows: function 124 -/
def spec_l01Rows.f  : Option ((List (S100))) := some (([(⟨0, 31, 1, 0⟩ : S100), (⟨32, 32, 2, 0⟩ : S100), (⟨48, 57, 8, 0⟩ : S100), (⟨65, 90, 4, 1⟩ : S100), (⟨97, 122, 5, 1⟩ : S100), (⟨33, 126, 9, 0⟩ : S100), (⟨127, 159, 1, 0⟩ : S100), (⟨160, 160, 2, 0⟩ : S100), (⟨173, 173, 11, 0⟩ : S100), (⟨161, 191, 10, 0⟩ : S100), (⟨1280, 1311, 7, 5⟩ : S100), (⟨1360, 1369, 8, 5⟩ : S100), (⟨1536, 1567, 7, 6⟩ : S100), (⟨1568, 1579, 3, 6⟩ : S100), (⟨1584, 1585, 3, 6⟩ : S100), (⟨1616, 1625, 8, 6⟩ : S100), (⟨1792, 1810, 7, 7⟩ : S100), (⟨1824, 1844, 7, 7⟩ : S100), (⟨1857, 1883, 7, 7⟩ : S100), (⟨2048, 2095, 7, 8⟩ : S100), (⟨4096, 4159, 3, 0⟩ : S100), (⟨7680, 7748, 10, 0⟩ : S100), (⟨7760, 7785, 10, 0⟩ : S100), (⟨7936, 7947, 11, 0⟩ : S100), (⟨7953, 7954, 11, 0⟩ : S100), (⟨8064, 8064, 2, 0⟩ : S100), (⟨9728, 9753, 4, 1⟩ : S100), (⟨9984, 10009, 10, 0⟩ : S100), (⟨10016, 10025, 8, 0⟩ : S100), (⟨10032, 10035, 10, 0⟩ : S100), (⟨12288, 23459, 7, 7⟩ : S100), (⟨24576, 26623, 7, 9⟩ : S100)] : List (S100)))
set_option maxHeartbeats 8000000 in
set_option maxRecDepth 100000 in
theorem spec_l01Rows.calls  (r : List (S100)) (w : World) (h : spec_l01Rows.f  = some r) :
  Calls Tryd.prog 124 #[] w fun e w' => ∃ v0_ : Value, e = .returned (v0_) ∧ Kd.R k100 100 w' w.heap.size (fun _ => True) v0_ r ∧ Below w.heap.size w w' := by
 have hu100 := Tryd.underlying100
 have HB := am (Below.refl w.heap.size w)
 have H : (some (([(⟨0, 31, 1, 0⟩ : S100), (⟨32, 32, 2, 0⟩ : S100), (⟨48, 57, 8, 0⟩ : S100), (⟨65, 90, 4, 1⟩ : S100), (⟨97, 122, 5, 1⟩ : S100), (⟨33, 126, 9, 0⟩ : S100), (⟨127, 159, 1, 0⟩ : S100), (⟨160, 160, 2, 0⟩ : S100), (⟨173, 173, 11, 0⟩ : S100), (⟨161, 191, 10, 0⟩ : S100), (⟨1280, 1311, 7, 5⟩ : S100), (⟨1360, 1369, 8, 5⟩ : S100), (⟨1536, 1567, 7, 6⟩ : S100), (⟨1568, 1579, 3, 6⟩ : S100), (⟨1584, 1585, 3, 6⟩ : S100), (⟨1616, 1625, 8, 6⟩ : S100), (⟨1792, 1810, 7, 7⟩ : S100), (⟨1824, 1844, 7, 7⟩ : S100), (⟨1857, 1883, 7, 7⟩ : S100), (⟨2048, 2095, 7, 8⟩ : S100), (⟨4096, 4159, 3, 0⟩ : S100), (⟨7680, 7748, 10, 0⟩ : S100), (⟨7760, 7785, 10, 0⟩ : S100), (⟨7936, 7947, 11, 0⟩ : S100), (⟨7953, 7954, 11, 0⟩ : S100), (⟨8064, 8064, 2, 0⟩ : S100), (⟨9728, 9753, 4, 1⟩ : S100), (⟨9984, 10009, 10, 0⟩ : S100), (⟨10016, 10025, 8, 0⟩ : S100), (⟨10032, 10035, 10, 0⟩ : S100), (⟨12288, 23459, 7, 7⟩ : S100), (⟨24576, 26623, 7, 9⟩ : S100)] : List (S100)))) = some r := h
 clear h
 obtain ⟨y161, hy161⟩ : ∃ y_ : List (S100), y_ = (([(⟨0, 31, 1, 0⟩ : S100), (⟨32, 32, 2, 0⟩ : S100), (⟨48, 57, 8, 0⟩ : S100), (⟨65, 90, 4, 1⟩ : S100), (⟨97, 122, 5, 1⟩ : S100), (⟨33, 126, 9, 0⟩ : S100), (⟨127, 159, 1, 0⟩ : S100), (⟨160, 160, 2, 0⟩ : S100), (⟨173, 173, 11, 0⟩ : S100), (⟨161, 191, 10, 0⟩ : S100), (⟨1280, 1311, 7, 5⟩ : S100), (⟨1360, 1369, 8, 5⟩ : S100), (⟨1536, 1567, 7, 6⟩ : S100), (⟨1568, 1579, 3, 6⟩ : S100), (⟨1584, 1585, 3, 6⟩ : S100), (⟨1616, 1625, 8, 6⟩ : S100), (⟨1792, 1810, 7, 7⟩ : S100), (⟨1824, 1844, 7, 7⟩ : S100), (⟨1857, 1883, 7, 7⟩ : S100), (⟨2048, 2095, 7, 8⟩ : S100), (⟨4096, 4159, 3, 0⟩ : S100), (⟨7680, 7748, 10, 0⟩ : S100), (⟨7760, 7785, 10, 0⟩ : S100), (⟨7936, 7947, 11, 0⟩ : S100), (⟨7953, 7954, 11, 0⟩ : S100), (⟨8064, 8064, 2, 0⟩ : S100), (⟨9728, 9753, 4, 1⟩ : S100), (⟨9984, 10009, 10, 0⟩ : S100), (⟨10016, 10025, 8, 0⟩ : S100), (⟨10032, 10035, 10, 0⟩ : S100), (⟨12288, 23459, 7, 7⟩ : S100), (⟨24576, 26623, 7, 9⟩ : S100)] : List (S100))) := ⟨_, rfl⟩
 replace H : (some y161) = some r := rY hy161
 have Ny161 := am hy161
 clear hy161
 obtain rfl := Option.some.inj H
 go_enter Tryd.func124, Tryd.ntmps124
 go_wp2_with (first | ((with_reducible refine gate_dst (N := 33) rfl ?_); refine Kd.R_lit k100 _ 100 ?hg (N := 33) ?hd (xs := ([(⟨0, 31, 1, 0⟩ : S100), (⟨32, 32, 2, 0⟩ : S100), (⟨48, 57, 8, 0⟩ : S100), (⟨65, 90, 4, 1⟩ : S100), (⟨97, 122, 5, 1⟩ : S100), (⟨33, 126, 9, 0⟩ : S100), (⟨127, 159, 1, 0⟩ : S100), (⟨160, 160, 2, 0⟩ : S100), (⟨173, 173, 11, 0⟩ : S100), (⟨161, 191, 10, 0⟩ : S100), (⟨1280, 1311, 7, 5⟩ : S100), (⟨1360, 1369, 8, 5⟩ : S100), (⟨1536, 1567, 7, 6⟩ : S100), (⟨1568, 1579, 3, 6⟩ : S100), (⟨1584, 1585, 3, 6⟩ : S100), (⟨1616, 1625, 8, 6⟩ : S100), (⟨1792, 1810, 7, 7⟩ : S100), (⟨1824, 1844, 7, 7⟩ : S100), (⟨1857, 1883, 7, 7⟩ : S100), (⟨2048, 2095, 7, 8⟩ : S100), (⟨4096, 4159, 3, 0⟩ : S100), (⟨7680, 7748, 10, 0⟩ : S100), (⟨7760, 7785, 10, 0⟩ : S100), (⟨7936, 7947, 11, 0⟩ : S100), (⟨7953, 7954, 11, 0⟩ : S100), (⟨8064, 8064, 2, 0⟩ : S100), (⟨9728, 9753, 4, 1⟩ : S100), (⟨9984, 10009, 10, 0⟩ : S100), (⟨10016, 10025, 8, 0⟩ : S100), (⟨10032, 10035, 10, 0⟩ : S100), (⟨12288, 23459, 7, 7⟩ : S100), (⟨24576, 26623, 7, 9⟩ : S100)] : List (S100))) (inner := [.int .i64 0, .int .i64 31, .int .i64 1, .int .i64 0, .int .i64 32, .int .i64 32, .int .i64 2, .int .i64 0, .int .i64 48, .int .i64 57, .int .i64 8, .int .i64 0, .int .i64 65, .int .i64 90, .int .i64 4, .int .i64 1, .int .i64 97, .int .i64 122, .int .i64 5, .int .i64 1, .int .i64 33, .int .i64 126, .int .i64 9, .int .i64 0, .int .i64 127, .int .i64 159, .int .i64 1, .int .i64 0, .int .i64 160, .int .i64 160, .int .i64 2, .int .i64 0, .int .i64 173, .int .i64 173, .int .i64 11, .int .i64 0, .int .i64 161, .int .i64 191, .int .i64 10, .int .i64 0, .int .i64 1280, .int .i64 1311, .int .i64 7, .int .i64 5, .int .i64 1360, .int .i64 1369, .int .i64 8, .int .i64 5, .int .i64 1536, .int .i64 1567, .int .i64 7, .int .i64 6, .int .i64 1568, .int .i64 1579, .int .i64 3, .int .i64 6, .int .i64 1584, .int .i64 1585, .int .i64 3, .int .i64 6, .int .i64 1616, .int .i64 1625, .int .i64 8, .int .i64 6, .int .i64 1792, .int .i64 1810, .int .i64 7, .int .i64 7, .int .i64 1824, .int .i64 1844, .int .i64 7, .int .i64 7, .int .i64 1857, .int .i64 1883, .int .i64 7, .int .i64 7, .int .i64 2048, .int .i64 2095, .int .i64 7, .int .i64 8, .int .i64 4096, .int .i64 4159, .int .i64 3, .int .i64 0, .int .i64 7680, .int .i64 7748, .int .i64 10, .int .i64 0, .int .i64 7760, .int .i64 7785, .int .i64 10, .int .i64 0, .int .i64 7936, .int .i64 7947, .int .i64 11, .int .i64 0, .int .i64 7953, .int .i64 7954, .int .i64 11, .int .i64 0, .int .i64 8064, .int .i64 8064, .int .i64 2, .int .i64 0, .int .i64 9728, .int .i64 9753, .int .i64 4, .int .i64 1, .int .i64 9984, .int .i64 10009, .int .i64 10, .int .i64 0, .int .i64 10016, .int .i64 10025, .int .i64 8, .int .i64 0, .int .i64 10032, .int .i64 10035, .int .i64 10, .int .i64 0, .int .i64 12288, .int .i64 23459, .int .i64 7, .int .i64 7, .int .i64 24576, .int .i64 26623, .int .i64 7, .int .i64 9]) (ok := fun _ => True) (okp := fun _ => True) ?hr ?hp (fun _ hk => hk) trivial (Below.refl _ _) (Nat.le_refl _) (by simp) ?_; (case hd => rfl); (case hg => rfl); (case hr => first | (go_simp; done) | (go_simp; rfl)); (case hp => exact (Reps.c4 (show Kd.M k100 _ _ _ (⟨0, 31, 1, 0⟩ : S100) [.int .i64 0, .int .i64 31, .int .i64 1, .int .i64 0] from (k100_mkM _ _ _ (⟨0, 31, 1, 0⟩ : S100) )) (Reps.c4 (show Kd.M k100 _ _ _ (⟨32, 32, 2, 0⟩ : S100) [.int .i64 32, .int .i64 32, .int .i64 2, .int .i64 0] from (k100_mkM _ _ _ (⟨32, 32, 2, 0⟩ : S100) )) (Reps.c4 (show Kd.M k100 _ _ _ (⟨48, 57, 8, 0⟩ : S100) [.int .i64 48, .int .i64 57, .int .i64 8, .int .i64 0] from (k100_mkM _ _ _ (⟨48, 57, 8, 0⟩ : S100) )) (Reps.c4 (show Kd.M k100 _ _ _ (⟨65, 90, 4, 1⟩ : S100) [.int .i64 65, .int .i64 90, .int .i64 4, .int .i64 1] from (k100_mkM _ _ _ (⟨65, 90, 4, 1⟩ : S100) )) (Reps.c4 (show Kd.M k100 _ _ _ (⟨97, 122, 5, 1⟩ : S100) [.int .i64 97, .int .i64 122, .int .i64 5, .int .i64 1] from (k100_mkM _ _ _ (⟨97, 122, 5, 1⟩ : S100) )) (Reps.c4 (show Kd.M k100 _ _ _ (⟨33, 126, 9, 0⟩ : S100) [.int .i64 33, .int .i64 126, .int .i64 9, .int .i64 0] from (k100_mkM _ _ _ (⟨33, 126, 9, 0⟩ : S100) )) (Reps.c4 (show Kd.M k100 _ _ _ (⟨127, 159, 1, 0⟩ : S100) [.int .i64 127, .int .i64 159, .int .i64 1, .int .i64 0] from (k100_mkM _ _ _ (⟨127, 159, 1, 0⟩ : S100) )) (Reps.c4 (show Kd.M k100 _ _ _ (⟨160, 160, 2, 0⟩ : S100) [.int .i64 160, .int .i64 160, .int .i64 2, .int .i64 0] from (k100_mkM _ _ _ (⟨160, 160, 2, 0⟩ : S100) )) (Reps.c4 (show Kd.M k100 _ _ _ (⟨173, 173, 11, 0⟩ : S100) [.int .i64 173, .int .i64 173, .int .i64 11, .int .i64 0] from (k100_mkM _ _ _ (⟨173, 173, 11, 0⟩ : S100) )) (Reps.c4 (show Kd.M k100 _ _ _ (⟨161, 191, 10, 0⟩ : S100) [.int .i64 161, .int .i64 191, .int .i64 10, .int .i64 0] from (k100_mkM _ _ _ (⟨161, 191, 10, 0⟩ : S100) )) (Reps.c4 (show Kd.M k100 _ _ _ (⟨1280, 1311, 7, 5⟩ : S100) [.int .i64 1280, .int .i64 1311, .int .i64 7, .int .i64 5] from (k100_mkM _ _ _ (⟨1280, 1311, 7, 5⟩ : S100) )) (Reps.c4 (show Kd.M k100 _ _ _ (⟨1360, 1369, 8, 5⟩ : S100) [.int .i64 1360, .int .i64 1369, .int .i64 8, .int .i64 5] from (k100_mkM _ _ _ (⟨1360, 1369, 8, 5⟩ : S100) )) (Reps.c4 (show Kd.M k100 _ _ _ (⟨1536, 1567, 7, 6⟩ : S100) [.int .i64 1536, .int .i64 1567, .int .i64 7, .int .i64 6] from (k100_mkM _ _ _ (⟨1536, 1567, 7, 6⟩ : S100) )) (Reps.c4 (show Kd.M k100 _ _ _ (⟨1568, 1579, 3, 6⟩ : S100) [.int .i64 1568, .int .i64 1579, .int .i64 3, .int .i64 6] from (k100_mkM _ _ _ (⟨1568, 1579, 3, 6⟩ : S100) )) (Reps.c4 (show Kd.M k100 _ _ _ (⟨1584, 1585, 3, 6⟩ : S100) [.int .i64 1584, .int .i64 1585, .int .i64 3, .int .i64 6] from (k100_mkM _ _ _ (⟨1584, 1585, 3, 6⟩ : S100) )) (Reps.c4 (show Kd.M k100 _ _ _ (⟨1616, 1625, 8, 6⟩ : S100) [.int .i64 1616, .int .i64 1625, .int .i64 8, .int .i64 6] from (k100_mkM _ _ _ (⟨1616, 1625, 8, 6⟩ : S100) )) (Reps.c4 (show Kd.M k100 _ _ _ (⟨1792, 1810, 7, 7⟩ : S100) [.int .i64 1792, .int .i64 1810, .int .i64 7, .int .i64 7] from (k100_mkM _ _ _ (⟨1792, 1810, 7, 7⟩ : S100) )) (Reps.c4 (show Kd.M k100 _ _ _ (⟨1824, 1844, 7, 7⟩ : S100) [.int .i64 1824, .int .i64 1844, .int .i64 7, .int .i64 7] from (k100_mkM _ _ _ (⟨1824, 1844, 7, 7⟩ : S100) )) (Reps.c4 (show Kd.M k100 _ _ _ (⟨1857, 1883, 7, 7⟩ : S100) [.int .i64 1857, .int .i64 1883, .int .i64 7, .int .i64 7] from (k100_mkM _ _ _ (⟨1857, 1883, 7, 7⟩ : S100) )) (Reps.c4 (show Kd.M k100 _ _ _ (⟨2048, 2095, 7, 8⟩ : S100) [.int .i64 2048, .int .i64 2095, .int .i64 7, .int .i64 8] from (k100_mkM _ _ _ (⟨2048, 2095, 7, 8⟩ : S100) )) (Reps.c4 (show Kd.M k100 _ _ _ (⟨4096, 4159, 3, 0⟩ : S100) [.int .i64 4096, .int .i64 4159, .int .i64 3, .int .i64 0] from (k100_mkM _ _ _ (⟨4096, 4159, 3, 0⟩ : S100) )) (Reps.c4 (show Kd.M k100 _ _ _ (⟨7680, 7748, 10, 0⟩ : S100) [.int .i64 7680, .int .i64 7748, .int .i64 10, .int .i64 0] from (k100_mkM _ _ _ (⟨7680, 7748, 10, 0⟩ : S100) )) (Reps.c4 (show Kd.M k100 _ _ _ (⟨7760, 7785, 10, 0⟩ : S100) [.int .i64 7760, .int .i64 7785, .int .i64 10, .int .i64 0] from (k100_mkM _ _ _ (⟨7760, 7785, 10, 0⟩ : S100) )) (Reps.c4 (show Kd.M k100 _ _ _ (⟨7936, 7947, 11, 0⟩ : S100) [.int .i64 7936, .int .i64 7947, .int .i64 11, .int .i64 0] from (k100_mkM _ _ _ (⟨7936, 7947, 11, 0⟩ : S100) )) (Reps.c4 (show Kd.M k100 _ _ _ (⟨7953, 7954, 11, 0⟩ : S100) [.int .i64 7953, .int .i64 7954, .int .i64 11, .int .i64 0] from (k100_mkM _ _ _ (⟨7953, 7954, 11, 0⟩ : S100) )) (Reps.c4 (show Kd.M k100 _ _ _ (⟨8064, 8064, 2, 0⟩ : S100) [.int .i64 8064, .int .i64 8064, .int .i64 2, .int .i64 0] from (k100_mkM _ _ _ (⟨8064, 8064, 2, 0⟩ : S100) )) (Reps.c4 (show Kd.M k100 _ _ _ (⟨9728, 9753, 4, 1⟩ : S100) [.int .i64 9728, .int .i64 9753, .int .i64 4, .int .i64 1] from (k100_mkM _ _ _ (⟨9728, 9753, 4, 1⟩ : S100) )) (Reps.c4 (show Kd.M k100 _ _ _ (⟨9984, 10009, 10, 0⟩ : S100) [.int .i64 9984, .int .i64 10009, .int .i64 10, .int .i64 0] from (k100_mkM _ _ _ (⟨9984, 10009, 10, 0⟩ : S100) )) (Reps.c4 (show Kd.M k100 _ _ _ (⟨10016, 10025, 8, 0⟩ : S100) [.int .i64 10016, .int .i64 10025, .int .i64 8, .int .i64 0] from (k100_mkM _ _ _ (⟨10016, 10025, 8, 0⟩ : S100) )) (Reps.c4 (show Kd.M k100 _ _ _ (⟨10032, 10035, 10, 0⟩ : S100) [.int .i64 10032, .int .i64 10035, .int .i64 10, .int .i64 0] from (k100_mkM _ _ _ (⟨10032, 10035, 10, 0⟩ : S100) )) (Reps.c4 (show Kd.M k100 _ _ _ (⟨12288, 23459, 7, 7⟩ : S100) [.int .i64 12288, .int .i64 23459, .int .i64 7, .int .i64 7] from (k100_mkM _ _ _ (⟨12288, 23459, 7, 7⟩ : S100) )) (Reps.c4 (show Kd.M k100 _ _ _ (⟨24576, 26623, 7, 9⟩ : S100) [.int .i64 24576, .int .i64 26623, .int .i64 7, .int .i64 9] from (k100_mkM _ _ _ (⟨24576, 26623, 7, 9⟩ : S100) )) (Reps.none _ _)))))))))))))))))))))))))))))))))); intro v162 w1 ho2 hb hg_ hnew_; clear hg_ hnew_; (first | rw [← Ny161.out] at ho2 | (simp only [Int.reduceToNat] at ho2; rw [← Ny161.out] at ho2)); have HO163 := am (Kd.R_lower ho2 (below_size bB)); replace HB := am (below_step bB hb); clear hb ho2))
 go_ret
 exact ⟨_, rv, kR HO163.out, bB⟩
end Go.Proofs.YtmlhnpggjkoinaaDoor.PFnExactWords

-- Written by a program of this session (wip/tools/myprint.py) that runs the kit's print with hooks of its own. Lean checks it.
import Derived.Test.YtmlhnpggjkoinaaDoorPFnExactWordsx0
import Derived.Test.YtmlhnpggjkoinaaDoorSlimMore
import Derived.Test.YtmlhnpggjkoinaaDoorPFnExactWordsx4
import Derived.Test.YtmlhnpggjkoinaaDoorPFnExactWordsx5
import Derived.Test.YtmlhnpggjkoinaaDoorPFnExactWordsx6
namespace Go.Proofs.YtmlhnpggjkoinaaDoor.PFnExactWords
open Go.RowKit Go.Proofs.YtmlhnpggjkoinaaDoorW.PrintWords Go.Proofs.YtmlhnpggjkoinaaDoorW.PrintLast Go.Proofs.YtmlhnpggjkoinaaDoorW.PrintMore
attribute [local go_sem] max2_int min2_int max_two min_two max_three min_three max_four min_four   -- for this text's walks alone
set_option linter.unusedVariables false
set_option linter.unusedSimpArgs false

/-! ### spec_l07Char: function 80 -/
mutual
def spec_l07Char.j0 : Nat → List Int → Int → Int → Int → Bool → Option (Bool)
 | 0, _, _, _, _, _ => none
 | k + 1, x0, x1, x5, x6, x17 => if x17 = true then (some false) else ((spec_l07Control.f k x5).bind fun t190 => (if t190 = true then (spec_l07Char.j1 k x0 x1 x5 x6 true) else ((spec_l07Control.f k x6).bind fun t191 => (spec_l07Char.j1 k x0 x1 x5 x6 t191))))
def spec_l07Char.j1 : Nat → List Int → Int → Int → Int → Bool → Option (Bool)
 | 0, _, _, _, _, _ => none
 | k + 1, x0, x1, x5, x6, x24 => if x24 = true then (some true) else ((spec_l07Syllable.f k x5 x6).bind fun t192 => (if t192 = true then (spec_l07Char.j2 k x0 x1 x5 x6 true) else ((spec_l07Mark.f k x6).bind fun t193 => (spec_l07Char.j2 k x0 x1 x5 x6 t193))))
def spec_l07Char.j2 : Nat → List Int → Int → Int → Int → Bool → Option (Bool)
 | 0, _, _, _, _, _ => none
 | k + 1, x0, x1, x5, x6, x31 => if x31 = true then (some false) else (if x6 ≥ 1536 then (if x6 ≤ 1567 then ((spec_l07Bound.f k x0 (wrap64 (x1 - 1))).bind fun t194 => (spec_l07Char.j3 k x0 x1 x5 x6 t194)) else (spec_l07Char.j3 k x0 x1 x5 x6 false)) else (spec_l07Char.j3 k x0 x1 x5 x6 false))
def spec_l07Char.j3 : Nat → List Int → Int → Int → Int → Bool → Option (Bool)
 | 0, _, _, _, _, _ => none
 | k + 1, x0, x1, x5, x6, x39 => if x39 = true then (some false) else (if x5 = 7936 then ((spec_l07Picture.f x6).bind fun t195 => (spec_l07Char.j4 k x0 x1 x5 x6 t195)) else (spec_l07Char.j4 k x0 x1 x5 x6 false))
def spec_l07Char.j4 : Nat → List Int → Int → Int → Int → Bool → Option (Bool)
 | 0, _, _, _, _, _ => none
 | k + 1, x0, x1, x5, x6, x52 => if x52 = true then (spec_l07Char.l0 k x0 (wrap64 (x1 - 2))) else ((spec_l07Flag.f x5).bind fun t202 => (if t202 = true then ((spec_l07Flag.f x6).bind fun t203 => (if t203 = true then ((spec_l07Flags.f k x0 (wrap64 (x1 - 1))).bind fun t204 => (some ((Int.tmod t204 2) == 0))) else (some true))) else (some true)))
def spec_l07Char.l0 : Nat → List Int → Int → Option (Bool)
 | 0, _, _ => none
 | k + 1, x0, x7 => if x7 ≥ 0 then (if 0 ≤ x7 then (if x7 < (x0.length : Int) then ((spec_l07Mark.f k (rd x0 x7)).bind fun t197 => (if t197 = true then (spec_l07Char.l0 k x0 (wrap64 (x7 - 1))) else (if x7 < 0 then (some true) else ((spec_l07Picture.f (rd x0 x7)).bind fun t199 => (some (!t199)))))) else (none)) else (none)) else (if x7 < 0 then (some true) else (if 0 ≤ x7 then (if x7 < (x0.length : Int) then ((spec_l07Picture.f (rd x0 x7)).bind fun t201 => (some (!t201))) else (none)) else (none)))
end
def spec_l07Char.f (k : Nat) (l0 : List Int) (a1 : Int) : Option (Bool) := if 0 ≤ (wrap64 (a1 - 1)) then (if (wrap64 (a1 - 1)) < (l0.length : Int) then (if 0 ≤ a1 then (if a1 < (l0.length : Int) then (if (rd l0 (wrap64 (a1 - 1))) = 13 then (spec_l07Char.j0 k l0 a1 (rd l0 (wrap64 (a1 - 1))) (rd l0 a1) ((rd l0 a1) == 10)) else (spec_l07Char.j0 k l0 a1 (rd l0 (wrap64 (a1 - 1))) (rd l0 a1) false)) else (none)) else (none)) else (none)) else (none)
set_option maxHeartbeats 8000000 in
set_option maxRecDepth 100000 in
theorem spec_l07Char.calls (k : Nat) (A0 : Option Addr) (c0 : Nat) (l0 : List Int) (a1 : Int) (r : Bool) (w : World) (hr0 : Kd.C (Kd.int .i64) w A0 l0.length l0) (hc0 : l0.length ≤ c0) (h : spec_l07Char.f k l0 a1 = some r) :
  Calls Tryd.prog 80 #[.slice A0 l0.length c0, .int .i64 a1] w fun e w' => e = .returned (.bool r) ∧ Below w.heap.size w w' := by
 have HR0 := am hr0
 have HC0 := am hc0
 clear hr0 hc0
 have HB := am (Below.refl w.heap.size w)
 have H : (if 0 ≤ (wrap64 (a1 - 1)) then (if (wrap64 (a1 - 1)) < (l0.length : Int) then (if 0 ≤ a1 then (if a1 < (l0.length : Int) then (if (rd l0 (wrap64 (a1 - 1))) = 13 then (spec_l07Char.j0 k l0 a1 (rd l0 (wrap64 (a1 - 1))) (rd l0 a1) ((rd l0 a1) == 10)) else (spec_l07Char.j0 k l0 a1 (rd l0 (wrap64 (a1 - 1))) (rd l0 a1) false)) else (none)) else (none)) else (none)) else (none)) = some r := h
 clear h
 obtain ⟨ji3, hji3⟩ : ∃ j_ : Int, (wrap64 (a1 - 1)) = j_ := ⟨_, rfl⟩
 replace H : (if 0 ≤ (ji3) then (if (ji3) < (l0.length : Int) then (if 0 ≤ a1 then (if a1 < (l0.length : Int) then (if (rd l0 (ji3)) = 13 then (spec_l07Char.j0 k l0 a1 (rd l0 (ji3)) (rd l0 a1) ((rd l0 a1) == 10)) else (spec_l07Char.j0 k l0 a1 (rd l0 (ji3)) (rd l0 a1) false)) else (none)) else (none)) else (none)) else (none)) = some r := by first | (rw [hji3] at H; exact H) | (simp only [hji3] at H ⊢; exact H)
 have hji3w : (IntKind.i64.wrap (a1 - 1)) = ji3 := (i64_w _).trans hji3
 replace H := iteN H
 obtain ⟨c4, H⟩ := H
 have c4b0 := decide_eq_true c4
 clear c4
 replace H := iteN H
 obtain ⟨c5, H⟩ := H
 have c5b0 := decide_eq_true c5
 clear c5
 replace H := iteN H
 obtain ⟨c6, H⟩ := H
 have c6b0 := decide_eq_true c6
 clear c6
 replace H := iteN H
 obtain ⟨c7, H⟩ := H
 have c7b0 := decide_eq_true c7
 clear c7
 have HC8 := am H
 clear H
 have p188 : 0 ≤ ((ji3) : Int) := od
 have q188 : (ji3) < (l0.length : Int) := od
 obtain ⟨ad188, e188, hx188_0⟩ := Kd.at_int HR0.out (ji3) p188 q188
 cases e188
 replace p188 := eq_true p188; replace q188 := eq_true q188
 have p189 : 0 ≤ (a1 : Int) := od
 have q189 : a1 < (l0.length : Int) := od
 obtain ⟨ad189, e189, hx189_0⟩ := Kd.at_int HR0.out a1 p189 q189
 obtain rfl : ad188 = ad189 := (by injection e189)
 replace p189 := eq_true p189; replace q189 := eq_true q189
 go_enter Tryd.func80, Tryd.ntmps80
 go_upto_region 3 with (fail)
 go_cut [17] (fun v17 wc => ∃ (kq : Nat) (x17_7 : Bool), v17 = .bool x17_7 ∧ Aside0 (spec_l07Char.j0 kq l0 a1 (rd l0 (ji3)) (rd l0 a1) x17_7 = some r) ∧ Aside0 (kq ≤ k) ∧ Aside0 (Below w.heap.size w wc))
 case first =>
  have H := HC8.out
  clear HC8
  by_cases c9 : (rd l0 (ji3)) = 13
  rotate_left
  ·rw [if_neg c9] at H
   have c9b0 : ((rd l0 (ji3)) == 13) = false := beq_eq_false_iff_ne.mpr c9
   have c9b1 : ((rd l0 (ji3)) != 13) = true := bne_iff_ne.mpr c9
   (first | rw [c9b0] | (simp only [i64_w, i32_w]; rw [c9b0]) | skip)
   have H' := am H
   clear H
   go_wp2
   go_meet
   case rel => exact ⟨_, (false), sr, H', ⟨kl⟩, ⟨bB⟩⟩
  rw [if_pos c9] at H
  have c9b0 : ((rd l0 (ji3)) == 13) = true := beq_iff_eq.mpr c9
  have c9b1 : ((rd l0 (ji3)) != 13) = false := bne_eq_false_iff_eq.mpr c9
  clear c9
  (first | rw [c9b0] | (simp only [i64_w, i32_w]; rw [c9b0]) | skip)
  have H' := am H
  clear H
  go_wp2
  go_meet
  case rel => exact ⟨_, (((rd l0 a1) == 10)), sr, H', ⟨kl⟩, ⟨bB⟩⟩
 case rest =>
  clear HC8
  try clear c4b0
  try clear c5b0
  try clear c6b0
  try clear c7b0
  try clear hx188_0
  try clear hx189_0
  try clear p188
  try clear p189
  try clear q188
  try clear q189
  obtain ⟨kq, x17_7, rfl, HA, HJ7, HB⟩ := hcut
  cases kq with
  | zero => exact absurd HA.out (by simp [spec_l07Char.j0])
  | succ kj7 =>
   have H := HA.out
   clear HA
   simp only [spec_l07Char.j0] at H
   by_cases c10 : x17_7 = true
   ·subst c10
    replace H := iT H
    obtain rfl := Option.some.inj H
    go_wp2
    go_ret
    exact ⟨by first | rfl | (simp [errW_none, errW_some] <;> rfl) | (simp only [← hji3]; first | rfl | (simp [errW_none, errW_some] <;> rfl)) | (simp [*, errW_none, errW_some] <;> rfl), bB⟩
   replace c10 := Bool.eq_false_iff.mpr c10
   subst c10
   replace H := iF H
   have HC11 := am H
   clear H
   go_upto_region 5 with (fail)
   go_cut [24] (fun v24 wc => ∃ (kq : Nat) (x24_10 : Bool), v24 = .bool x24_10 ∧ Aside0 (spec_l07Char.j1 kq l0 a1 (rd l0 (ji3)) (rd l0 a1) x24_10 = some r) ∧ Aside0 (kq ≤ kj7) ∧ Aside0 (Below w.heap.size w wc))
   case first =>
    have H := HC11.out
    clear HC11
    obtain ⟨t190, A12, H⟩ := bb H
    by_cases c13 : t190 = true
    ·subst c13
     replace H := iT H
     have H' := am H
     clear H
     go_wp2_with (first | ((with_reducible refine gate_callee (f := 108) rfl ?_); refine goesL_ (some 26) rfl rfl Tryd.func108 (by kernel_rfl) rfl #[.int .i64 (rd l0 (ji3))] rfl (by (try simp only [List.map_toArray, List.map_cons, List.map_nil]); first | done | (simp only [hji3]; rfl) | rfl | (simp only [List.length_drop, List.length_take]; rfl)) ?_; (with_reducible refine (spec_l07Control.calls kj7 (rd l0 (ji3)) true _ A12.out).mono ?_); rintro e w14 ⟨rfl, hb⟩; refine ⟨_, rfl, ?_⟩; replace HB := am (below_step bB hb); (try clear hb)))
     go_meet
     case rel => exact ⟨_, (true), sr, H', ⟨kl⟩, ⟨bB⟩⟩
    replace c13 := Bool.eq_false_iff.mpr c13
    subst c13
    replace H := iF H
    obtain ⟨t191, A15, H⟩ := bb H
    have H' := am H
    clear H
    go_wp2_with (first | ((with_reducible refine gate_callee (f := 108) rfl ?_); refine goesL_ (some 26) rfl rfl Tryd.func108 (by kernel_rfl) rfl #[.int .i64 (rd l0 (ji3))] rfl (by (try simp only [List.map_toArray, List.map_cons, List.map_nil]); first | done | (simp only [hji3]; rfl) | rfl | (simp only [List.length_drop, List.length_take]; rfl)) ?_; (with_reducible refine (spec_l07Control.calls kj7 (rd l0 (ji3)) false _ A12.out).mono ?_); rintro e w16 ⟨rfl, hb⟩; refine ⟨_, rfl, ?_⟩; replace HB := am (below_step bB hb); (try clear hb)) | (go_at_call 108; (with_reducible refine (spec_l07Control.calls kj7 (rd l0 a1) t191 _ A15.out).mono ?_); rintro e w17 ⟨rfl, hb⟩; replace HB := am (below_step bB hb); (try clear hb)))
    go_meet
    case rel => exact ⟨_, (t191), sr, H', ⟨kl⟩, ⟨bB⟩⟩
   case rest =>
    clear HC11
    try clear c10
    obtain ⟨kq, x24_10, rfl, HA, HJ10, HB⟩ := hcut
    cases kq with
    | zero => exact absurd HA.out (by simp [spec_l07Char.j1])
    | succ kj10 =>
     have H := HA.out
     clear HA
     simp only [spec_l07Char.j1] at H
     by_cases c18 : x24_10 = true
     ·subst c18
      replace H := iT H
      obtain rfl := Option.some.inj H
      go_wp2
      go_ret
      exact ⟨by first | rfl | (simp [errW_none, errW_some] <;> rfl) | (simp only [← hji3]; first | rfl | (simp [errW_none, errW_some] <;> rfl)) | (simp [*, errW_none, errW_some] <;> rfl), bB⟩
     replace c18 := Bool.eq_false_iff.mpr c18
     subst c18
     replace H := iF H
     have HC19 := am H
     clear H
     go_upto_region 7 with (fail)
     go_cut [31] (fun v31 wc => ∃ (kq : Nat) (x31_18 : Bool), v31 = .bool x31_18 ∧ Aside0 (spec_l07Char.j2 kq l0 a1 (rd l0 (ji3)) (rd l0 a1) x31_18 = some r) ∧ Aside0 (kq ≤ kj10) ∧ Aside0 (Below w.heap.size w wc))
     case first =>
      have H := HC19.out
      clear HC19
      obtain ⟨t192, A20, H⟩ := bb H
      by_cases c21 : t192 = true
      ·subst c21
       replace H := iT H
       have H' := am H
       clear H
       go_wp2_with (first | ((with_reducible refine gate_callee (f := 109) rfl ?_); refine goesL_ (some 34) rfl rfl Tryd.func109 (by kernel_rfl) rfl #[.int .i64 (rd l0 (ji3)), .int .i64 (rd l0 a1)] rfl (by (try simp only [List.map_toArray, List.map_cons, List.map_nil]); first | done | (simp only [hji3]; rfl) | rfl | (simp only [List.length_drop, List.length_take]; rfl)) ?_; (with_reducible refine (spec_l07Syllable.calls kj10 (rd l0 (ji3)) (rd l0 a1) true _ A20.out).mono ?_); rintro e w' ⟨rfl, ⟨nd, rfl⟩⟩; refine ⟨_, rfl, ?_⟩))
       go_meet
       case rel => exact ⟨_, (true), sr, H', ⟨kl⟩, ⟨bB⟩⟩
      replace c21 := Bool.eq_false_iff.mpr c21
      subst c21
      replace H := iF H
      obtain ⟨t193, A22, H⟩ := bb H
      have H' := am H
      clear H
      go_wp2_with (first | ((with_reducible refine gate_callee (f := 109) rfl ?_); refine goesL_ (some 34) rfl rfl Tryd.func109 (by kernel_rfl) rfl #[.int .i64 (rd l0 (ji3)), .int .i64 (rd l0 a1)] rfl (by (try simp only [List.map_toArray, List.map_cons, List.map_nil]); first | done | (simp only [hji3]; rfl) | rfl | (simp only [List.length_drop, List.length_take]; rfl)) ?_; (with_reducible refine (spec_l07Syllable.calls kj10 (rd l0 (ji3)) (rd l0 a1) false _ A20.out).mono ?_); rintro e w' ⟨rfl, ⟨nd, rfl⟩⟩; refine ⟨_, rfl, ?_⟩) | (go_at_call 110; (with_reducible refine (spec_l07Mark.calls kj10 (rd l0 a1) t193 _ A22.out).mono ?_); rintro e w23 ⟨rfl, hb⟩; replace HB := am (below_step bB hb); (try clear hb)))
      go_meet
      case rel => exact ⟨_, (t193), sr, H', ⟨kl⟩, ⟨bB⟩⟩
     case rest =>
      clear HC19
      try clear c18
      obtain ⟨kq, x31_18, rfl, HA, HJ18, HB⟩ := hcut
      cases kq with
      | zero => exact absurd HA.out (by simp [spec_l07Char.j2])
      | succ kj18 =>
       have H := HA.out
       clear HA
       simp only [spec_l07Char.j2] at H
       by_cases c24 : x31_18 = true
       ·subst c24
        replace H := iT H
        obtain rfl := Option.some.inj H
        go_wp2
        go_ret
        exact ⟨by first | rfl | (simp [errW_none, errW_some] <;> rfl) | (simp only [← hji3]; first | rfl | (simp [errW_none, errW_some] <;> rfl)) | (simp [*, errW_none, errW_some] <;> rfl), bB⟩
       replace c24 := Bool.eq_false_iff.mpr c24
       subst c24
       replace H := iF H
       have HC25 := am H
       clear H
       go_upto_region 9 with (fail)
       go_cut [39] (fun v39 wc => ∃ (kq : Nat) (x39_24 : Bool), v39 = .bool x39_24 ∧ Aside0 (spec_l07Char.j3 kq l0 a1 (rd l0 (ji3)) (rd l0 a1) x39_24 = some r) ∧ Aside0 (kq ≤ kj18) ∧ Aside0 (Below w.heap.size w wc))
       case first =>
        have H := HC25.out
        clear HC25
        by_cases c26 : (rd l0 a1) ≥ 1536
        rotate_left
        ·rw [if_neg c26] at H
         have c26b0 : decide (1536 ≤ (rd l0 a1)) = false := decide_eq_false c26
         clear c26
         (first | rw [c26b0] | (simp only [i64_w, i32_w]; rw [c26b0]) | skip)
         have H' := am H
         clear H
         go_wp2
         go_meet
         case rel => exact ⟨_, (false), sr, H', ⟨kl⟩, ⟨bB⟩⟩
        rw [if_pos c26] at H
        have c26b0 : decide (1536 ≤ (rd l0 a1)) = true := decide_eq_true c26
        clear c26
        (first | rw [c26b0] | (simp only [i64_w, i32_w]; rw [c26b0]) | skip)
        by_cases c27 : (rd l0 a1) ≤ 1567
        rotate_left
        ·rw [if_neg c27] at H
         have c27b0 := decide_eq_false c27
         clear c27
         have H' := am H
         clear H
         go_wp2
         go_meet
         case rel => exact ⟨_, (false), sr, H', ⟨kl⟩, ⟨bB⟩⟩
        rw [if_pos c27] at H
        have c27b0 := decide_eq_true c27
        clear c27
        obtain ⟨t194, A28, H⟩ := bb H
        have H' := am H
        clear H
        go_wp2_with (first | (go_at_call 111; (with_reducible refine (spec_l07Bound.calls kj18 _ _ l0 (ji3) t194 _ ?side1 ?side2 (by have h_ := A28.out; rw [hji3] at h_; exact h_)).mono ?_); (case side1 => exact cC (Kd.C_below HR0.out HB.out)); (case side2 => exact HC0.out); rintro e w' ⟨rfl, ⟨nd, rfl⟩⟩))
        go_meet
        case rel => exact ⟨_, (t194), sr, H', ⟨kl⟩, ⟨bB⟩⟩
       case rest =>
        clear HC25
        try clear c24
        obtain ⟨kq, x39_24, rfl, HA, HJ24, HB⟩ := hcut
        cases kq with
        | zero => exact absurd HA.out (by simp [spec_l07Char.j3])
        | succ kj24 =>
         have H := HA.out
         clear HA
         simp only [spec_l07Char.j3] at H
         by_cases c29 : x39_24 = true
         ·subst c29
          replace H := iT H
          obtain rfl := Option.some.inj H
          go_wp2
          go_ret
          exact ⟨by first | rfl | (simp [errW_none, errW_some] <;> rfl) | (simp only [← hji3]; first | rfl | (simp [errW_none, errW_some] <;> rfl)) | (simp [*, errW_none, errW_some] <;> rfl), bB⟩
         replace c29 := Bool.eq_false_iff.mpr c29
         subst c29
         replace H := iF H
         have HC30 := am H
         clear H
         go_upto_region 11 with (fail)
         go_cut [52] (fun v52 wc => ∃ (kq : Nat) (x52_29 : Bool), v52 = .bool x52_29 ∧ Aside0 (spec_l07Char.j4 kq l0 a1 (rd l0 (ji3)) (rd l0 a1) x52_29 = some r) ∧ Aside0 (kq ≤ kj24) ∧ Aside0 (Below w.heap.size w wc))
         case first =>
          have H := HC30.out
          clear HC30
          by_cases c31 : (rd l0 (ji3)) = 7936
          rotate_left
          ·rw [if_neg c31] at H
           have c31b0 : ((rd l0 (ji3)) == 7936) = false := beq_eq_false_iff_ne.mpr c31
           have c31b1 : ((rd l0 (ji3)) != 7936) = true := bne_iff_ne.mpr c31
           (first | rw [c31b0] | (simp only [i64_w, i32_w]; rw [c31b0]) | skip)
           have H' := am H
           clear H
           go_wp2
           go_meet
           case rel => exact ⟨_, (false), sr, H', ⟨kl⟩, ⟨bB⟩⟩
          rw [if_pos c31] at H
          have c31b0 : ((rd l0 (ji3)) == 7936) = true := beq_iff_eq.mpr c31
          have c31b1 : ((rd l0 (ji3)) != 7936) = false := bne_eq_false_iff_eq.mpr c31
          clear c31
          (first | rw [c31b0] | (simp only [i64_w, i32_w]; rw [c31b0]) | skip)
          obtain ⟨t195, A32, H⟩ := bb H
          have H' := am H
          clear H
          go_wp2_with (first | (go_at_call 112; (with_reducible refine (spec_l07Picture.calls (rd l0 a1) t195 _ A32.out).mono ?_); rintro e w' ⟨rfl, ⟨nd, rfl⟩⟩))
          go_meet
          case rel => exact ⟨_, (t195), sr, H', ⟨kl⟩, ⟨bB⟩⟩
         case rest =>
          clear HC30
          try clear c29
          obtain ⟨kq, x52_29, rfl, HA, HJ29, HB⟩ := hcut
          cases kq with
          | zero => exact absurd HA.out (by simp [spec_l07Char.j4])
          | succ kj29 =>
           have H := HA.out
           clear HA
           simp only [spec_l07Char.j4] at H
           by_cases c33 : x52_29 = true
           rotate_left
           ·replace c33 := Bool.eq_false_iff.mpr c33
            subst c33
            replace H := iF H
            obtain ⟨t202, A48, H⟩ := bb H
            by_cases c49 : t202 = true
            rotate_left
            ·replace c49 := Bool.eq_false_iff.mpr c49
             subst c49
             replace H := iF H
             obtain rfl := Option.some.inj H
             go_wp2_with (first | ((with_reducible refine gate_callee (f := 113) rfl ?_); refine goesL_ (some 84) rfl rfl Tryd.func113 (by kernel_rfl) rfl #[.int .i64 (rd l0 (ji3))] rfl (by (try simp only [List.map_toArray, List.map_cons, List.map_nil]); first | done | (simp only [hji3]; rfl) | rfl | (simp only [List.length_drop, List.length_take]; rfl)) ?_; (with_reducible refine (spec_l07Flag.calls (rd l0 (ji3)) false _ A48.out).mono ?_); rintro e w' ⟨rfl, ⟨nd, rfl⟩⟩; refine ⟨_, rfl, ?_⟩))
             go_ret
             exact ⟨by first | rfl | (simp [errW_none, errW_some] <;> rfl) | (simp only [← hji3]; first | rfl | (simp [errW_none, errW_some] <;> rfl)) | (simp [*, errW_none, errW_some] <;> rfl), bB⟩
            subst c49
            replace H := iT H
            obtain ⟨t203, A50, H⟩ := bb H
            by_cases c51 : t203 = true
            ·subst c51
             replace H := iT H
             obtain ⟨t204, A52, H⟩ := bb H
             obtain rfl := Option.some.inj H
             go_wp2_with (first | ((with_reducible refine gate_callee (f := 113) rfl ?_); refine goesL_ (some 84) rfl rfl Tryd.func113 (by kernel_rfl) rfl #[.int .i64 (rd l0 (ji3))] rfl (by (try simp only [List.map_toArray, List.map_cons, List.map_nil]); first | done | (simp only [hji3]; rfl) | rfl | (simp only [List.length_drop, List.length_take]; rfl)) ?_; (with_reducible refine (spec_l07Flag.calls (rd l0 (ji3)) true _ A48.out).mono ?_); rintro e w' ⟨rfl, ⟨nd, rfl⟩⟩; refine ⟨_, rfl, ?_⟩) | (go_at_call 113; (with_reducible refine (spec_l07Flag.calls (rd l0 a1) true _ A50.out).mono ?_); rintro e w' ⟨rfl, ⟨nd, rfl⟩⟩) | ((with_reducible refine gate_callee (f := 114) rfl ?_); refine goesL_ (some 92) rfl rfl Tryd.func114 (by kernel_rfl) rfl #[.slice (some ad188) l0.length c0, .int .i64 (ji3)] rfl (by (try simp only [List.map_toArray, List.map_cons, List.map_nil]); first | done | (simp only [hji3]; rfl) | rfl | (simp only [List.length_drop, List.length_take]; rfl)) ?_; (with_reducible refine (spec_l07Flags.calls kj29 _ _ l0 (ji3) t204 _ ?side1 ?side2 (by have h_ := A52.out; rw [hji3] at h_; exact h_)).mono ?_); (case side1 => repeat (first | exact (Kd.C_below HR0.out bB) | (with_reducible refine Kd.C_alloc ?_ _) | (with_reducible refine Kd.C_drewN ?_ _) | (with_reducible refine Kd.C_drew ?_))); (case side2 => exact HC0.out); rintro e w' ⟨rfl, ⟨nd, rfl⟩⟩; refine ⟨_, rfl, ?_⟩))
             go_ret
             exact ⟨by first | rfl | (simp [errW_none, errW_some] <;> rfl) | (simp only [← hji3]; first | rfl | (simp [errW_none, errW_some] <;> rfl)) | (simp [*, errW_none, errW_some] <;> rfl), bB⟩
            replace c51 := Bool.eq_false_iff.mpr c51
            subst c51
            replace H := iF H
            obtain rfl := Option.some.inj H
            go_wp2_with (first | ((with_reducible refine gate_callee (f := 113) rfl ?_); refine goesL_ (some 84) rfl rfl Tryd.func113 (by kernel_rfl) rfl #[.int .i64 (rd l0 (ji3))] rfl (by (try simp only [List.map_toArray, List.map_cons, List.map_nil]); first | done | (simp only [hji3]; rfl) | rfl | (simp only [List.length_drop, List.length_take]; rfl)) ?_; (with_reducible refine (spec_l07Flag.calls (rd l0 (ji3)) true _ A48.out).mono ?_); rintro e w' ⟨rfl, ⟨nd, rfl⟩⟩; refine ⟨_, rfl, ?_⟩) | (go_at_call 113; (with_reducible refine (spec_l07Flag.calls (rd l0 a1) false _ A50.out).mono ?_); rintro e w' ⟨rfl, ⟨nd, rfl⟩⟩))
            go_ret
            exact ⟨by first | rfl | (simp [errW_none, errW_some] <;> rfl) | (simp only [← hji3]; first | rfl | (simp [errW_none, errW_some] <;> rfl)) | (simp [*, errW_none, errW_some] <;> rfl), bB⟩
           subst c33
           replace H := iT H
           have H' := am H
           clear H
           go_wp2
           go_loopg [7] kj29 (fun kq v7 w' => ∃ (x7_6 : Int), v7 = .int .i64 x7_6 ∧ Aside0 (spec_l07Char.l0 kq l0 x7_6 = some r) ∧ Aside0 (kq ≤ kj29) ∧ Aside0 (Below w.heap.size w w'))
           case atStart => exact ⟨(wrap64 (a1 - 2)), sr, H', ⟨Nat.le_refl _⟩, ⟨bB⟩⟩
           case round =>
            clear H'
            try clear c33
            obtain ⟨x7_6, rfl, HA, HK6, HB⟩ := hrel
            cases gk with
            | zero => exact absurd HA.out (by simp [spec_l07Char.l0])
            | succ k6 =>
             have H := HA.out
             clear HA
             simp only [spec_l07Char.l0] at H
             by_cases c34 : x7_6 ≥ 0
             rotate_left
             ·rw [if_neg c34] at H
              have c34b0 : decide (0 ≤ x7_6) = false := decide_eq_false c34
              clear c34
              by_cases c44 : x7_6 < 0
              ·rw [if_pos c44] at H
               have c44b0 := decide_eq_true c44
               clear c44
               obtain rfl := Option.some.inj H
               go_wp2
               go_ret
               exact ⟨by first | rfl | (simp [errW_none, errW_some] <;> rfl) | (simp only [← hji3]; first | rfl | (simp [errW_none, errW_some] <;> rfl)) | (simp [*, errW_none, errW_some] <;> rfl), bB⟩
              rw [if_neg c44] at H
              have c44b0 := decide_eq_false c44
              clear c44
              replace H := iteN H
              obtain ⟨c45, H⟩ := H
              have c45b0 := decide_eq_true c45
              exact absurd (of_decide_eq_true c45b0) (of_decide_eq_false c34b0)
             rw [if_pos c34] at H
             have c34b0 : decide (0 ≤ x7_6) = true := decide_eq_true c34
             clear c34
             replace H := iteN H
             obtain ⟨c35, H⟩ := H
             have c35b0 := decide_eq_true c35
             clear c35
             replace H := iteN H
             obtain ⟨c36, H⟩ := H
             have c36b0 := decide_eq_true c36
             clear c36
             obtain ⟨t197, A37, H⟩ := bb H
             by_cases c38 : t197 = true
             ·subst c38
              replace H := iT H
              have H' := am H
              clear H
              have p196 : 0 ≤ (x7_6 : Int) := od
              have q196 : x7_6 < (l0.length : Int) := od
              obtain ⟨ad196, e196, hx196_0⟩ := Kd.at_int HR0.out x7_6 p196 q196
              obtain rfl : ad188 = ad196 := (by injection e196)
              replace hx196_0 := cl HB hx196_0
              replace p196 := eq_true p196; replace q196 := eq_true q196
              go_wp2_with (first | (go_at_call 110; (with_reducible refine (spec_l07Mark.calls k6 (rd l0 x7_6) true _ A37.out).mono ?_); rintro e w39 ⟨rfl, hb⟩; replace HB := am (below_step bB hb); (try clear hb)))
              go_roundg k6
              case measure => have := HJ7.out; have := HJ10.out; have := HJ18.out; have := HJ24.out; have := HJ29.out; have := HK6.out; omega
              case rel => exact ⟨(wrap64 (x7_6 - 1)), sr, H', ⟨kl⟩, ⟨bB⟩⟩
             replace c38 := Bool.eq_false_iff.mpr c38
             subst c38
             replace H := iF H
             by_cases c40 : x7_6 < 0
             ·rw [if_pos c40] at H
              have c40b0 := decide_eq_true c40
              clear c40
              obtain rfl := Option.some.inj H
              have p196 : 0 ≤ (x7_6 : Int) := od
              have q196 : x7_6 < (l0.length : Int) := od
              obtain ⟨ad196, e196, hx196_0⟩ := Kd.at_int HR0.out x7_6 p196 q196
              obtain rfl : ad188 = ad196 := (by injection e196)
              replace hx196_0 := cl HB hx196_0
              replace p196 := eq_true p196; replace q196 := eq_true q196
              go_wp2_with (first | (go_at_call 110; (with_reducible refine (spec_l07Mark.calls k6 (rd l0 x7_6) false _ A37.out).mono ?_); rintro e w41 ⟨rfl, hb⟩; replace HB := am (below_step bB hb); (try clear hb)))
              go_ret
              exact ⟨by first | rfl | (simp [errW_none, errW_some] <;> rfl) | (simp only [← hji3]; first | rfl | (simp [errW_none, errW_some] <;> rfl)) | (simp [*, errW_none, errW_some] <;> rfl), bB⟩
             rw [if_neg c40] at H
             have c40b0 := decide_eq_false c40
             clear c40
             obtain ⟨t199, A42, H⟩ := bb H
             obtain rfl := Option.some.inj H
             have p196 : 0 ≤ (x7_6 : Int) := od
             have q196 : x7_6 < (l0.length : Int) := od
             obtain ⟨ad196, e196, hx196_0⟩ := Kd.at_int HR0.out x7_6 p196 q196
             obtain rfl : ad188 = ad196 := (by injection e196)
             replace hx196_0 := cl HB hx196_0
             replace p196 := eq_true p196; replace q196 := eq_true q196
             go_wp2_with (first | (go_at_call 110; (with_reducible refine (spec_l07Mark.calls k6 (rd l0 x7_6) false _ A37.out).mono ?_); rintro e w43 ⟨rfl, hb⟩; replace HB := am (below_step bB hb); (try clear hb); have p198 : 0 ≤ (x7_6 : Int) := od; have q198 : x7_6 < (l0.length : Int) := od; obtain ⟨ad198, e198, hx198_0⟩ := Kd.at_int HR0.out x7_6 p198 q198; obtain rfl : ad188 = ad198 := (by injection e198); replace hx198_0 := cl HB hx198_0; replace p198 := eq_true p198; replace q198 := eq_true q198) | (go_at_call 112; (with_reducible refine (spec_l07Picture.calls (rd l0 x7_6) t199 _ A42.out).mono ?_); rintro e w' ⟨rfl, ⟨nd, rfl⟩⟩))
             go_ret
             exact ⟨by first | rfl | (simp [errW_none, errW_some] <;> rfl) | (simp only [← hji3]; first | rfl | (simp [errW_none, errW_some] <;> rfl)) | (simp [*, errW_none, errW_some] <;> rfl), bB⟩
end Go.Proofs.YtmlhnpggjkoinaaDoor.PFnExactWords

-- Written by a program of this session (wip/tools/myprint.py) that runs the kit's print with hooks of its own. Lean checks it.
import Derived.Test.YtmlhnpggjkoinaaDoorPFnExactWordsx0
import Derived.Test.YtmlhnpggjkoinaaDoorSlimMore
import Derived.Test.YtmlhnpggjkoinaaDoorPFnExactWordsx4
import Derived.Test.YtmlhnpggjkoinaaDoorPFnExactWordsx8
import Derived.Test.YtmlhnpggjkoinaaDoorPFnExactWordsx9
namespace Go.Proofs.YtmlhnpggjkoinaaDoor.PFnExactWords
open Go.RowKit Go.Proofs.YtmlhnpggjkoinaaDoorW.PrintWords Go.Proofs.YtmlhnpggjkoinaaDoorW.PrintLast Go.Proofs.YtmlhnpggjkoinaaDoorW.PrintMore
attribute [local go_sem] max2_int min2_int max_two min_two max_three min_three max_four min_four   -- for this text's walks alone
set_option linter.unusedVariables false
set_option linter.unusedSimpArgs false

/-! ### spec_l07WordCut: function 83 -/
mutual
def spec_l07WordCut.l0 : Nat → List Int → Int → Bool → List (S54) → Int → Int → Int → Option (Bool)
 | 0, _, _, _, _, _, _, _ => none
 | k + 1, x0, x1, x2, x3, x9, x10, x11 => if x11 < (x3.length : Int) then (if 0 ≤ x11 then (if ((rd_T54 x3 x11).f0) = x9 then (if ((rd_T54 x3 x11).f1) = x10 then (some ((rd_T54 x3 x11).f2)) else (spec_l07WordCut.l0 k x0 x1 x2 x3 x9 x10 (wrap64 (x11 + 1)))) else (spec_l07WordCut.l0 k x0 x1 x2 x3 x9 x10 (wrap64 (x11 + 1)))) else (none)) else ((spec_l07Word.f k x9).bind fun t231 => ((spec_l07Word.f k x10).bind fun t232 => (if x2 = true then ((spec_l07Control.f k x9).bind fun t233 => (if t233 = true then (spec_l07WordCut.j1 k x0 x1 x9 x10 t231 t232 true) else ((spec_l07Control.f k x10).bind fun t234 => (spec_l07WordCut.j1 k x0 x1 x9 x10 t231 t232 t234)))) else (some false))))
def spec_l07WordCut.j1 : Nat → List Int → Int → Int → Int → Int → Int → Bool → Option (Bool)
 | 0, _, _, _, _, _, _, _ => none
 | k + 1, x0, x1, x9, x10, x12, x13, x57 => if x57 = true then (some true) else ((spec_l01Cat.f k x9).bind fun t235 => (if t235 = 2 then ((spec_l01Cat.f k x10).bind fun t236 => (spec_l07WordCut.j2 k x0 x1 x12 x13 (t236 == 2))) else (spec_l07WordCut.j2 k x0 x1 x12 x13 false)))
def spec_l07WordCut.j2 : Nat → List Int → Int → Int → Int → Bool → Option (Bool)
 | 0, _, _, _, _, _ => none
 | k + 1, x0, x1, x12, x13, x64 => if x64 = true then (some false) else (if x12 = 1 then (if x13 = 1 then (spec_l07WordCut.j3 k x0 x1 x12 x13 true) else (spec_l07WordCut.j3 k x0 x1 x12 x13 (x13 == 2))) else (if x12 = 2 then (if x13 = 1 then (spec_l07WordCut.j3 k x0 x1 x12 x13 true) else (spec_l07WordCut.j3 k x0 x1 x12 x13 (x13 == 2))) else (spec_l07WordCut.j3 k x0 x1 x12 x13 false)))
def spec_l07WordCut.j3 : Nat → List Int → Int → Int → Int → Bool → Option (Bool)
 | 0, _, _, _, _, _ => none
 | k + 1, x0, x1, x12, x13, x73 => if x73 = true then (some false) else ((spec_l07Between.f k x0 (wrap64 (x1 - 1))).bind fun t237 => (if t237 = true then (spec_l07WordCut.j4 k x12 x13 true) else ((spec_l07Between.f k x0 x1).bind fun t238 => (spec_l07WordCut.j4 k x12 x13 t238))))
def spec_l07WordCut.j4 : Nat → Int → Int → Bool → Option (Bool)
 | 0, _, _, _ => none
 | k + 1, x12, x13, x88 => if x88 = true then (some false) else (if x13 = 3 then (if x12 = 1 then (spec_l07WordCut.j5 k x12 x13 true) else (if x12 = 2 then (spec_l07WordCut.j5 k x12 x13 true) else (if x12 = 3 then (spec_l07WordCut.j5 k x12 x13 true) else (spec_l07WordCut.j5 k x12 x13 false)))) else (if x12 = 3 then (if x13 = 1 then (spec_l07WordCut.j5 k x12 x13 true) else (spec_l07WordCut.j5 k x12 x13 (x13 == 2))) else (spec_l07WordCut.j5 k x12 x13 false)))
def spec_l07WordCut.j5 : Nat → Int → Int → Bool → Option (Bool)
 | 0, _, _, _ => none
 | k + 1, x12, x13, x98 => if x98 = true then (some false) else (if x12 = 5 then (if x13 = 5 then (some false) else (some true)) else (some true))
end
def spec_l07WordCut.f (k : Nat) (l0 : List Int) (a1 : Int) (a2 : Bool) (l3 : List (S54)) : Option (Bool) := if 0 ≤ (wrap64 (a1 - 1)) then (if (wrap64 (a1 - 1)) < (l0.length : Int) then (if 0 ≤ a1 then (if a1 < (l0.length : Int) then (spec_l07WordCut.l0 k l0 a1 a2 l3 (rd l0 (wrap64 (a1 - 1))) (rd l0 a1) 0) else (none)) else (none)) else (none)) else (none)
set_option maxHeartbeats 8000000 in
set_option maxRecDepth 100000 in
theorem spec_l07WordCut.calls (k : Nat) (A0 : Option Addr) (c0 : Nat) (l0 : List Int) (a1 : Int) (a2 : Bool) (A3 : Option Addr) (c3 : Nat) (l3 : List (S54)) (r : Bool) (w : World) (hr0 : Kd.C (Kd.int .i64) w A0 l0.length l0) (hc0 : l0.length ≤ c0) (hr3 : Kd.C k54 w A3 l3.length l3) (hc3 : l3.length ≤ c3) (h : spec_l07WordCut.f k l0 a1 a2 l3 = some r) :
  Calls Tryd.prog 83 #[.slice A0 l0.length c0, .int .i64 a1, .bool a2, .slice A3 l3.length c3] w fun e w' => e = .returned (.bool r) ∧ Below w.heap.size w w' := by
 have HR0 := am hr0
 have HC0 := am hc0
 clear hr0 hc0
 have HR3 := am hr3
 have HC3 := am hc3
 clear hr3 hc3
 have HB := am (Below.refl w.heap.size w)
 have H : (if 0 ≤ (wrap64 (a1 - 1)) then (if (wrap64 (a1 - 1)) < (l0.length : Int) then (if 0 ≤ a1 then (if a1 < (l0.length : Int) then (spec_l07WordCut.l0 k l0 a1 a2 l3 (rd l0 (wrap64 (a1 - 1))) (rd l0 a1) 0) else (none)) else (none)) else (none)) else (none)) = some r := h
 clear h
 obtain ⟨ji5, hji5⟩ : ∃ j_ : Int, (wrap64 (a1 - 1)) = j_ := ⟨_, rfl⟩
 replace H : (if 0 ≤ (ji5) then (if (ji5) < (l0.length : Int) then (if 0 ≤ a1 then (if a1 < (l0.length : Int) then (spec_l07WordCut.l0 k l0 a1 a2 l3 (rd l0 (ji5)) (rd l0 a1) 0) else (none)) else (none)) else (none)) else (none)) = some r := by first | (rw [hji5] at H; exact H) | (simp only [hji5] at H ⊢; exact H)
 have hji5w : (IntKind.i64.wrap (a1 - 1)) = ji5 := (i64_w _).trans hji5
 replace H := iteN H
 obtain ⟨c6, H⟩ := H
 have c6b0 := decide_eq_true c6
 clear c6
 replace H := iteN H
 obtain ⟨c7, H⟩ := H
 have c7b0 := decide_eq_true c7
 clear c7
 replace H := iteN H
 obtain ⟨c8, H⟩ := H
 have c8b0 := decide_eq_true c8
 clear c8
 replace H := iteN H
 obtain ⟨c9, H⟩ := H
 have c9b0 := decide_eq_true c9
 clear c9
 have H' := am H
 clear H
 have p226 : 0 ≤ ((ji5) : Int) := od
 have q226 : (ji5) < (l0.length : Int) := od
 obtain ⟨ad226, e226, hx226_0⟩ := Kd.at_int HR0.out (ji5) p226 q226
 cases e226
 replace p226 := eq_true p226; replace q226 := eq_true q226
 have p227 : 0 ≤ (a1 : Int) := od
 have q227 : a1 < (l0.length : Int) := od
 obtain ⟨ad227, e227, hx227_0⟩ := Kd.at_int HR0.out a1 p227 q227
 obtain rfl : ad226 = ad227 := (by injection e227)
 replace p227 := eq_true p227; replace q227 := eq_true q227
 go_enter Tryd.func83, Tryd.ntmps83
 go_wp2
 go_loopg [11] k (fun kq v11 w' => ∃ (x11_1 : Int), v11 = .int .i64 x11_1 ∧ Aside0 (spec_l07WordCut.l0 kq l0 a1 a2 l3 (rd l0 (ji5)) (rd l0 a1) x11_1 = some r) ∧ Aside0 (kq ≤ k) ∧ Aside0 (Below w.heap.size w w'))
 case atStart => exact ⟨(0), sr, H', ⟨Nat.le_refl _⟩, ⟨bB⟩⟩
 case round =>
  clear H'
  try clear c3
  try clear c6b0
  try clear c7b0
  try clear c8b0
  try clear c9b0
  try clear hx226_0
  try clear hx227_0
  try clear p226
  try clear p227
  try clear q226
  try clear q227
  obtain ⟨x11_1, rfl, HA, HK1, HB⟩ := hrel
  cases gk with
  | zero => exact absurd HA.out (by simp [spec_l07WordCut.l0])
  | succ k1 =>
   have H := HA.out
   clear HA
   simp only [spec_l07WordCut.l0] at H
   by_cases c10 : x11_1 < (l3.length : Int)
   ·rw [if_pos c10] at H
    have c10b0 := decide_eq_true c10
    clear c10
    replace H := iteN H
    obtain ⟨c11, H⟩ := H
    have c11b0 := decide_eq_true c11
    clear c11
    by_cases c12 : ((rd_T54 l3 x11_1).f0) = (rd l0 (ji5))
    rotate_left
    ·rw [if_neg c12] at H
     have c12b0 : (((rd_T54 l3 x11_1).f0) == (rd l0 (ji5))) = false := beq_eq_false_iff_ne.mpr c12
     have c12b1 : (((rd_T54 l3 x11_1).f0) != (rd l0 (ji5))) = true := bne_iff_ne.mpr c12
     have H' := am H
     clear H
     have p228 : 0 ≤ (x11_1 : Int) := od
     have q228 : x11_1 < (l3.length : Int) := od
     obtain ⟨ad228, e228, hx228_0, hx228_1, hx228_2⟩ := at_T54 HR3.out x11_1 p228 q228
     cases e228
     replace hx228_0 := cl HB hx228_0
     replace hx228_1 := cl HB hx228_1
     replace hx228_2 := cl HB hx228_2
     replace p228 := eq_true p228; replace q228 := eq_true q228
     go_wp2
     go_roundg k1
     case measure => have := HK1.out; omega
     case rel => exact ⟨(wrap64 (x11_1 + 1)), sr, H', ⟨kl⟩, ⟨bB⟩⟩
    rw [if_pos c12] at H
    have c12b0 : (((rd_T54 l3 x11_1).f0) == (rd l0 (ji5))) = true := beq_iff_eq.mpr c12
    have c12b1 : (((rd_T54 l3 x11_1).f0) != (rd l0 (ji5))) = false := bne_eq_false_iff_eq.mpr c12
    clear c12
    by_cases c13 : ((rd_T54 l3 x11_1).f1) = (rd l0 a1)
    rotate_left
    ·rw [if_neg c13] at H
     have c13b0 : (((rd_T54 l3 x11_1).f1) == (rd l0 a1)) = false := beq_eq_false_iff_ne.mpr c13
     have c13b1 : (((rd_T54 l3 x11_1).f1) != (rd l0 a1)) = true := bne_iff_ne.mpr c13
     have H' := am H
     clear H
     have p228 : 0 ≤ (x11_1 : Int) := od
     have q228 : x11_1 < (l3.length : Int) := od
     obtain ⟨ad228, e228, hx228_0, hx228_1, hx228_2⟩ := at_T54 HR3.out x11_1 p228 q228
     cases e228
     replace hx228_0 := cl HB hx228_0
     replace hx228_1 := cl HB hx228_1
     replace hx228_2 := cl HB hx228_2
     replace p228 := eq_true p228; replace q228 := eq_true q228
     have p229 : 0 ≤ (x11_1 : Int) := od
     have q229 : x11_1 < (l3.length : Int) := od
     obtain ⟨ad229, e229, hx229_0, hx229_1, hx229_2⟩ := at_T54 HR3.out x11_1 p229 q229
     obtain rfl : ad228 = ad229 := (by injection e229)
     replace hx229_0 := cl HB hx229_0
     replace hx229_1 := cl HB hx229_1
     replace hx229_2 := cl HB hx229_2
     replace p229 := eq_true p229; replace q229 := eq_true q229
     go_wp2
     go_roundg k1
     case measure => have := HK1.out; omega
     case rel => exact ⟨(wrap64 (x11_1 + 1)), sr, H', ⟨kl⟩, ⟨bB⟩⟩
    rw [if_pos c13] at H
    have c13b0 : (((rd_T54 l3 x11_1).f1) == (rd l0 a1)) = true := beq_iff_eq.mpr c13
    have c13b1 : (((rd_T54 l3 x11_1).f1) != (rd l0 a1)) = false := bne_eq_false_iff_eq.mpr c13
    clear c13
    obtain rfl := Option.some.inj H
    have p228 : 0 ≤ (x11_1 : Int) := od
    have q228 : x11_1 < (l3.length : Int) := od
    obtain ⟨ad228, e228, hx228_0, hx228_1, hx228_2⟩ := at_T54 HR3.out x11_1 p228 q228
    cases e228
    replace hx228_0 := cl HB hx228_0
    replace hx228_1 := cl HB hx228_1
    replace hx228_2 := cl HB hx228_2
    replace p228 := eq_true p228; replace q228 := eq_true q228
    have p229 : 0 ≤ (x11_1 : Int) := od
    have q229 : x11_1 < (l3.length : Int) := od
    obtain ⟨ad229, e229, hx229_0, hx229_1, hx229_2⟩ := at_T54 HR3.out x11_1 p229 q229
    obtain rfl : ad228 = ad229 := (by injection e229)
    replace hx229_0 := cl HB hx229_0
    replace hx229_1 := cl HB hx229_1
    replace hx229_2 := cl HB hx229_2
    replace p229 := eq_true p229; replace q229 := eq_true q229
    have p230 : 0 ≤ (x11_1 : Int) := od
    have q230 : x11_1 < (l3.length : Int) := od
    obtain ⟨ad230, e230, hx230_0, hx230_1, hx230_2⟩ := at_T54 HR3.out x11_1 p230 q230
    obtain rfl : ad228 = ad230 := (by injection e230)
    replace hx230_0 := cl HB hx230_0
    replace hx230_1 := cl HB hx230_1
    replace hx230_2 := cl HB hx230_2
    replace p230 := eq_true p230; replace q230 := eq_true q230
    go_wp2
    go_ret
    exact ⟨by first | rfl | (simp [errW_none, errW_some] <;> rfl) | (simp only [← hji5]; first | rfl | (simp [errW_none, errW_some] <;> rfl)) | (simp [*, errW_none, errW_some] <;> rfl), bB⟩
   rw [if_neg c10] at H
   have c10b0 := decide_eq_false c10
   clear c10
   obtain ⟨t231, A14, H⟩ := bb H
   obtain ⟨t232, A15, H⟩ := bb H
   by_cases c16 : a2 = true
   rotate_left
   ·replace c16 := Bool.eq_false_iff.mpr c16
    subst c16
    replace H := iF H
    obtain rfl := Option.some.inj H
    go_wp2_with (first | ((with_reducible refine gate_callee (f := 62) rfl ?_); refine goesL_ (some 51) rfl rfl Tryd.func62 (by kernel_rfl) rfl #[.int .i64 (rd l0 (ji5))] rfl (by (try simp only [List.map_toArray, List.map_cons, List.map_nil]); first | done | (simp only [hji5]; rfl) | rfl | (simp only [List.length_drop, List.length_take]; rfl)) ?_; (with_reducible refine (spec_l07Word.calls k1 (rd l0 (ji5)) t231 _ A14.out).mono ?_); rintro e w59 ⟨rfl, hb⟩; refine ⟨_, rfl, ?_⟩; replace HB := am (below_step bB hb); (try clear hb)) | ((with_reducible refine gate_callee (f := 62) rfl ?_); refine gl 53 Tryd.func62 #[.int .i64 (rd l0 a1)] ?_; (with_reducible refine (spec_l07Word.calls k1 (rd l0 a1) t232 _ A15.out).mono ?_); rintro e w60 ⟨rfl, hb⟩; refine ⟨_, rfl, ?_⟩; replace HB := am (below_step bB hb); (try clear hb)))
    go_ret
    exact ⟨by first | rfl | (simp [errW_none, errW_some] <;> rfl) | (simp only [← hji5]; first | rfl | (simp [errW_none, errW_some] <;> rfl)) | (simp [*, errW_none, errW_some] <;> rfl), bB⟩
   subst c16
   replace H := iT H
   have HC17 := am H
   clear H
   go_upto_region 12 with (first | ((with_reducible refine gate_callee (f := 62) rfl ?_); refine goesL_ (some 51) rfl rfl Tryd.func62 (by kernel_rfl) rfl #[.int .i64 (rd l0 (ji5))] rfl (by (try simp only [List.map_toArray, List.map_cons, List.map_nil]); first | done | (simp only [hji5]; rfl) | rfl | (simp only [List.length_drop, List.length_take]; rfl)) ?_; (with_reducible refine (spec_l07Word.calls k1 (rd l0 (ji5)) t231 _ A14.out).mono ?_); rintro e w18 ⟨rfl, hb⟩; refine ⟨_, rfl, ?_⟩; replace HB := am (below_step bB hb); (try clear hb)) | ((with_reducible refine gate_callee (f := 62) rfl ?_); refine gl 53 Tryd.func62 #[.int .i64 (rd l0 a1)] ?_; (with_reducible refine (spec_l07Word.calls k1 (rd l0 a1) t232 _ A15.out).mono ?_); rintro e w19 ⟨rfl, hb⟩; refine ⟨_, rfl, ?_⟩; replace HB := am (below_step bB hb); (try clear hb)))
   (try simp only [Act.put, List.setIfInBounds_toArray, List.set_cons_zero, List.set_cons_succ])
   go_cut [57] (fun v57 wc => ∃ (kq : Nat) (x57_16 : Bool), v57 = .bool x57_16 ∧ Aside0 (spec_l07WordCut.j1 kq l0 a1 (rd l0 (ji5)) (rd l0 a1) t231 t232 x57_16 = some r) ∧ Aside0 (kq ≤ k1) ∧ Aside0 (Below w.heap.size w wc))
   case first =>
    have H := HC17.out
    clear HC17
    obtain ⟨t233, A20, H⟩ := bb H
    by_cases c21 : t233 = true
    ·subst c21
     replace H := iT H
     have H' := am H
     clear H
     go_wp2_with (first | ((with_reducible refine gate_callee (f := 108) rfl ?_); refine goesL_ (some 59) rfl rfl Tryd.func108 (by kernel_rfl) rfl #[.int .i64 (rd l0 (ji5))] rfl (by (try simp only [List.map_toArray, List.map_cons, List.map_nil]); first | done | (simp only [hji5]; rfl) | rfl | (simp only [List.length_drop, List.length_take]; rfl)) ?_; (with_reducible refine (spec_l07Control.calls k1 (rd l0 (ji5)) true _ A20.out).mono ?_); rintro e w22 ⟨rfl, hb⟩; refine ⟨_, rfl, ?_⟩; replace HB := am (below_step bB hb); (try clear hb)))
     go_meet
     case rel => exact ⟨_, (true), sr, H', ⟨kl⟩, ⟨bB⟩⟩
    replace c21 := Bool.eq_false_iff.mpr c21
    subst c21
    replace H := iF H
    obtain ⟨t234, A23, H⟩ := bb H
    have H' := am H
    clear H
    go_wp2_with (first | ((with_reducible refine gate_callee (f := 108) rfl ?_); refine goesL_ (some 59) rfl rfl Tryd.func108 (by kernel_rfl) rfl #[.int .i64 (rd l0 (ji5))] rfl (by (try simp only [List.map_toArray, List.map_cons, List.map_nil]); first | done | (simp only [hji5]; rfl) | rfl | (simp only [List.length_drop, List.length_take]; rfl)) ?_; (with_reducible refine (spec_l07Control.calls k1 (rd l0 (ji5)) false _ A20.out).mono ?_); rintro e w24 ⟨rfl, hb⟩; refine ⟨_, rfl, ?_⟩; replace HB := am (below_step bB hb); (try clear hb)) | (go_at_call 108; (with_reducible refine (spec_l07Control.calls k1 (rd l0 a1) t234 _ A23.out).mono ?_); rintro e w25 ⟨rfl, hb⟩; replace HB := am (below_step bB hb); (try clear hb)))
    go_meet
    case rel => exact ⟨_, (t234), sr, H', ⟨kl⟩, ⟨bB⟩⟩
   case rest =>
    clear HC17
    try clear c10b0
    try clear c16
    obtain ⟨kq, x57_16, rfl, HA, HJ16, HB⟩ := hcut
    cases kq with
    | zero => exact absurd HA.out (by simp [spec_l07WordCut.j1])
    | succ kj16 =>
     have H := HA.out
     clear HA
     simp only [spec_l07WordCut.j1] at H
     by_cases c26 : x57_16 = true
     ·subst c26
      replace H := iT H
      obtain rfl := Option.some.inj H
      go_wp2
      go_ret
      exact ⟨by first | rfl | (simp [errW_none, errW_some] <;> rfl) | (simp only [← hji5]; first | rfl | (simp [errW_none, errW_some] <;> rfl)) | (simp [*, errW_none, errW_some] <;> rfl), bB⟩
     replace c26 := Bool.eq_false_iff.mpr c26
     subst c26
     replace H := iF H
     have HC27 := am H
     clear H
     go_upto_region 14 with (fail)
     go_cut [64] (fun v64 wc => ∃ (kq : Nat) (x64_26 : Bool), v64 = .bool x64_26 ∧ Aside0 (spec_l07WordCut.j2 kq l0 a1 t231 t232 x64_26 = some r) ∧ Aside0 (kq ≤ kj16) ∧ Aside0 (Below w.heap.size w wc))
     case first =>
      have H := HC27.out
      clear HC27
      obtain ⟨t235, A28, H⟩ := bb H
      by_cases c29 : t235 = 2
      rotate_left
      ·rw [if_neg c29] at H
       have c29b0 : (t235 == 2) = false := beq_eq_false_iff_ne.mpr c29
       have c29b1 : (t235 != 2) = true := bne_iff_ne.mpr c29
       (first | rw [c29b0] | (simp only [i64_w, i32_w]; rw [c29b0]) | skip)
       have H' := am H
       clear H
       go_wp2_with (first | ((with_reducible refine gate_callee (f := 94) rfl ?_); refine goesL_ (some 66) rfl rfl Tryd.func94 (by kernel_rfl) rfl #[.int .i64 (rd l0 (ji5))] rfl (by (try simp only [List.map_toArray, List.map_cons, List.map_nil]); first | done | (simp only [hji5]; rfl) | rfl | (simp only [List.length_drop, List.length_take]; rfl)) ?_; (with_reducible refine (spec_l01Cat.calls kj16 (rd l0 (ji5)) t235 _ A28.out).mono ?_); rintro e w33 ⟨rfl, hb⟩; refine ⟨_, rfl, ?_⟩; replace HB := am (below_step bB hb); (try clear hb)))
       go_meet
       case rel => exact ⟨_, (false), sr, H', ⟨kl⟩, ⟨bB⟩⟩
      rw [if_pos c29] at H
      have c29b0 : (t235 == 2) = true := beq_iff_eq.mpr c29
      have c29b1 : (t235 != 2) = false := bne_eq_false_iff_eq.mpr c29
      clear c29
      (first | rw [c29b0] | (simp only [i64_w, i32_w]; rw [c29b0]) | skip)
      obtain ⟨t236, A30, H⟩ := bb H
      have H' := am H
      clear H
      go_wp2_with (first | ((with_reducible refine gate_callee (f := 94) rfl ?_); refine goesL_ (some 66) rfl rfl Tryd.func94 (by kernel_rfl) rfl #[.int .i64 (rd l0 (ji5))] rfl (by (try simp only [List.map_toArray, List.map_cons, List.map_nil]); first | done | (simp only [hji5]; rfl) | rfl | (simp only [List.length_drop, List.length_take]; rfl)) ?_; (with_reducible refine (spec_l01Cat.calls kj16 (rd l0 (ji5)) t235 _ A28.out).mono ?_); rintro e w31 ⟨rfl, hb⟩; refine ⟨_, rfl, ?_⟩; replace HB := am (below_step bB hb); (try clear hb)) | (go_at_call 94; (with_reducible refine (spec_l01Cat.calls kj16 (rd l0 a1) t236 _ A30.out).mono ?_); rintro e w32 ⟨rfl, hb⟩; replace HB := am (below_step bB hb); (try clear hb)))
      go_meet
      case rel => exact ⟨_, ((t236 == 2)), sr, H', ⟨kl⟩, ⟨bB⟩⟩
     case rest =>
      clear HC27
      try clear c26
      obtain ⟨kq, x64_26, rfl, HA, HJ26, HB⟩ := hcut
      cases kq with
      | zero => exact absurd HA.out (by simp [spec_l07WordCut.j2])
      | succ kj26 =>
       have H := HA.out
       clear HA
       simp only [spec_l07WordCut.j2] at H
       by_cases c34 : x64_26 = true
       ·subst c34
        replace H := iT H
        obtain rfl := Option.some.inj H
        go_wp2
        go_ret
        exact ⟨by first | rfl | (simp [errW_none, errW_some] <;> rfl) | (simp only [← hji5]; first | rfl | (simp [errW_none, errW_some] <;> rfl)) | (simp [*, errW_none, errW_some] <;> rfl), bB⟩
       replace c34 := Bool.eq_false_iff.mpr c34
       subst c34
       replace H := iF H
       have HC35 := am H
       clear H
       go_upto_region 16 with (fail)
       go_cut [73] (fun v73 wc => ∃ (kq : Nat) (x73_34 : Bool), v73 = .bool x73_34 ∧ Aside0 (spec_l07WordCut.j3 kq l0 a1 t231 t232 x73_34 = some r) ∧ Aside0 (kq ≤ kj26) ∧ Aside0 (Below w.heap.size w wc))
       case first =>
        have H := HC35.out
        clear HC35
        by_cases c36 : t231 = 1
        ·rw [if_pos c36] at H
         have c36b0 : (t231 == 1) = true := beq_iff_eq.mpr c36
         have c36b1 : (t231 != 1) = false := bne_eq_false_iff_eq.mpr c36
         clear c36
         (first | rw [c36b0] | (simp only [i64_w, i32_w]; rw [c36b0]) | skip)
         by_cases c37 : t232 = 1
         rotate_left
         ·rw [if_neg c37] at H
          have c37b0 : (t232 == 1) = false := beq_eq_false_iff_ne.mpr c37
          have c37b1 : (t232 != 1) = true := bne_iff_ne.mpr c37
          have H' := am H
          clear H
          go_wp2
          go_meet
          case rel => exact ⟨_, ((t232 == 2)), sr, H', ⟨kl⟩, ⟨bB⟩⟩
         rw [if_pos c37] at H
         have c37b0 : (t232 == 1) = true := beq_iff_eq.mpr c37
         have c37b1 : (t232 != 1) = false := bne_eq_false_iff_eq.mpr c37
         clear c37
         have H' := am H
         clear H
         go_wp2
         go_meet
         case rel => exact ⟨_, (true), sr, H', ⟨kl⟩, ⟨bB⟩⟩
        rw [if_neg c36] at H
        have c36b0 : (t231 == 1) = false := beq_eq_false_iff_ne.mpr c36
        have c36b1 : (t231 != 1) = true := bne_iff_ne.mpr c36
        (first | rw [c36b0] | (simp only [i64_w, i32_w]; rw [c36b0]) | skip)
        by_cases c38 : t231 = 2
        rotate_left
        ·rw [if_neg c38] at H
         have c38b0 : (t231 == 2) = false := beq_eq_false_iff_ne.mpr c38
         have c38b1 : (t231 != 2) = true := bne_iff_ne.mpr c38
         have H' := am H
         clear H
         go_wp2
         go_meet
         case rel => exact ⟨_, (false), sr, H', ⟨kl⟩, ⟨bB⟩⟩
        rw [if_pos c38] at H
        have c38b0 : (t231 == 2) = true := beq_iff_eq.mpr c38
        have c38b1 : (t231 != 2) = false := bne_eq_false_iff_eq.mpr c38
        clear c38
        by_cases c39 : t232 = 1
        rotate_left
        ·rw [if_neg c39] at H
         have c39b0 : (t232 == 1) = false := beq_eq_false_iff_ne.mpr c39
         have c39b1 : (t232 != 1) = true := bne_iff_ne.mpr c39
         have H' := am H
         clear H
         go_wp2
         go_meet
         case rel => exact ⟨_, ((t232 == 2)), sr, H', ⟨kl⟩, ⟨bB⟩⟩
        rw [if_pos c39] at H
        have c39b0 : (t232 == 1) = true := beq_iff_eq.mpr c39
        have c39b1 : (t232 != 1) = false := bne_eq_false_iff_eq.mpr c39
        clear c39
        have H' := am H
        clear H
        go_wp2
        go_meet
        case rel => exact ⟨_, (true), sr, H', ⟨kl⟩, ⟨bB⟩⟩
       case rest =>
        clear HC35
        try clear c34
        obtain ⟨kq, x73_34, rfl, HA, HJ34, HB⟩ := hcut
        cases kq with
        | zero => exact absurd HA.out (by simp [spec_l07WordCut.j3])
        | succ kj34 =>
         have H := HA.out
         clear HA
         simp only [spec_l07WordCut.j3] at H
         by_cases c40 : x73_34 = true
         ·subst c40
          replace H := iT H
          obtain rfl := Option.some.inj H
          go_wp2
          go_ret
          exact ⟨by first | rfl | (simp [errW_none, errW_some] <;> rfl) | (simp only [← hji5]; first | rfl | (simp [errW_none, errW_some] <;> rfl)) | (simp [*, errW_none, errW_some] <;> rfl), bB⟩
         replace c40 := Bool.eq_false_iff.mpr c40
         subst c40
         replace H := iF H
         have HC41 := am H
         clear H
         go_upto_region 18 with (fail)
         go_cut [88] (fun v88 wc => ∃ (kq : Nat) (x88_40 : Bool), v88 = .bool x88_40 ∧ Aside0 (spec_l07WordCut.j4 kq t231 t232 x88_40 = some r) ∧ Aside0 (kq ≤ kj34) ∧ Aside0 (Below w.heap.size w wc))
         case first =>
          have H := HC41.out
          clear HC41
          obtain ⟨t237, A42, H⟩ := bb H
          by_cases c43 : t237 = true
          ·subst c43
           replace H := iT H
           have H' := am H
           clear H
           go_wp2_with (first | ((with_reducible refine gate_callee (f := 116) rfl ?_); refine goesL_ (some 92) rfl rfl Tryd.func116 (by kernel_rfl) rfl #[.slice (some ad226) l0.length c0, .int .i64 (ji5)] rfl (by (try simp only [List.map_toArray, List.map_cons, List.map_nil]); first | done | (simp only [hji5]; rfl) | rfl | (simp only [List.length_drop, List.length_take]; rfl)) ?_; (with_reducible refine (spec_l07Between.calls kj34 _ _ l0 (ji5) true _ ?side1 ?side2 (by have h_ := A42.out; rw [hji5] at h_; exact h_)).mono ?_); (case side1 => exact cC (Kd.C_below HR0.out HB.out)); (case side2 => exact HC0.out); rintro e w44 ⟨rfl, hb⟩; refine ⟨_, rfl, ?_⟩; replace HB := am (below_step bB hb); (try clear hb)))
           go_meet
           case rel => exact ⟨_, (true), sr, H', ⟨kl⟩, ⟨bB⟩⟩
          replace c43 := Bool.eq_false_iff.mpr c43
          subst c43
          replace H := iF H
          obtain ⟨t238, A45, H⟩ := bb H
          have H' := am H
          clear H
          go_wp2_with (first | ((with_reducible refine gate_callee (f := 116) rfl ?_); refine goesL_ (some 92) rfl rfl Tryd.func116 (by kernel_rfl) rfl #[.slice (some ad226) l0.length c0, .int .i64 (ji5)] rfl (by (try simp only [List.map_toArray, List.map_cons, List.map_nil]); first | done | (simp only [hji5]; rfl) | rfl | (simp only [List.length_drop, List.length_take]; rfl)) ?_; (with_reducible refine (spec_l07Between.calls kj34 _ _ l0 (ji5) false _ ?side1 ?side2 (by have h_ := A42.out; rw [hji5] at h_; exact h_)).mono ?_); (case side1 => exact cC (Kd.C_below HR0.out HB.out)); (case side2 => exact HC0.out); rintro e w46 ⟨rfl, hb⟩; refine ⟨_, rfl, ?_⟩; replace HB := am (below_step bB hb); (try clear hb)) | (go_at_call 116; (with_reducible refine (spec_l07Between.calls kj34 _ _ l0 a1 t238 _ ?side1 ?side2 A45.out).mono ?_); (case side1 => exact cC (Kd.C_below HR0.out HB.out)); (case side2 => exact HC0.out); rintro e w47 ⟨rfl, hb⟩; replace HB := am (below_step bB hb); (try clear hb)))
          go_meet
          case rel => exact ⟨_, (t238), sr, H', ⟨kl⟩, ⟨bB⟩⟩
         case rest =>
          clear HC41
          try clear c40
          obtain ⟨kq, x88_40, rfl, HA, HJ40, HB⟩ := hcut
          cases kq with
          | zero => exact absurd HA.out (by simp [spec_l07WordCut.j4])
          | succ kj40 =>
           have H := HA.out
           clear HA
           simp only [spec_l07WordCut.j4] at H
           by_cases c48 : x88_40 = true
           ·subst c48
            replace H := iT H
            obtain rfl := Option.some.inj H
            go_wp2
            go_ret
            exact ⟨by first | rfl | (simp [errW_none, errW_some] <;> rfl) | (simp only [← hji5]; first | rfl | (simp [errW_none, errW_some] <;> rfl)) | (simp [*, errW_none, errW_some] <;> rfl), bB⟩
           replace c48 := Bool.eq_false_iff.mpr c48
           subst c48
           replace H := iF H
           have HC49 := am H
           clear H
           go_upto_region 20 with (fail)
           go_cut [98] (fun v98 wc => ∃ (kq : Nat) (x98_48 : Bool), v98 = .bool x98_48 ∧ Aside0 (spec_l07WordCut.j5 kq t231 t232 x98_48 = some r) ∧ Aside0 (kq ≤ kj40) ∧ Aside0 (Below w.heap.size w wc))
           case first =>
            have H := HC49.out
            clear HC49
            by_cases c50 : t232 = 3
            rotate_left
            ·rw [if_neg c50] at H
             have c50b0 : (t232 == 3) = false := beq_eq_false_iff_ne.mpr c50
             have c50b1 : (t232 != 3) = true := bne_iff_ne.mpr c50
             (first | rw [c50b0] | (simp only [i64_w, i32_w]; rw [c50b0]) | skip)
             by_cases c54 : t231 = 3
             rotate_left
             ·rw [if_neg c54] at H
              have c54b0 : (t231 == 3) = false := beq_eq_false_iff_ne.mpr c54
              have c54b1 : (t231 != 3) = true := bne_iff_ne.mpr c54
              have H' := am H
              clear H
              go_wp2
              go_meet
              case rel => exact ⟨_, (false), sr, H', ⟨kl⟩, ⟨bB⟩⟩
             rw [if_pos c54] at H
             have c54b0 : (t231 == 3) = true := beq_iff_eq.mpr c54
             have c54b1 : (t231 != 3) = false := bne_eq_false_iff_eq.mpr c54
             clear c54
             by_cases c55 : t232 = 1
             rotate_left
             ·rw [if_neg c55] at H
              have c55b0 : (t232 == 1) = false := beq_eq_false_iff_ne.mpr c55
              have c55b1 : (t232 != 1) = true := bne_iff_ne.mpr c55
              have H' := am H
              clear H
              go_wp2
              go_meet
              case rel => exact ⟨_, ((t232 == 2)), sr, H', ⟨kl⟩, ⟨bB⟩⟩
             rw [if_pos c55] at H
             have c55b0 : (t232 == 1) = true := beq_iff_eq.mpr c55
             have c55b1 : (t232 != 1) = false := bne_eq_false_iff_eq.mpr c55
             clear c55
             have H' := am H
             clear H
             go_wp2
             go_meet
             case rel => exact ⟨_, (true), sr, H', ⟨kl⟩, ⟨bB⟩⟩
            rw [if_pos c50] at H
            have c50b0 : (t232 == 3) = true := beq_iff_eq.mpr c50
            have c50b1 : (t232 != 3) = false := bne_eq_false_iff_eq.mpr c50
            clear c50
            (first | rw [c50b0] | (simp only [i64_w, i32_w]; rw [c50b0]) | skip)
            by_cases c51 : t231 = 1
            ·rw [if_pos c51] at H
             have c51b0 : (t231 == 1) = true := beq_iff_eq.mpr c51
             have c51b1 : (t231 != 1) = false := bne_eq_false_iff_eq.mpr c51
             clear c51
             have H' := am H
             clear H
             go_wp2
             go_meet
             case rel => exact ⟨_, (true), sr, H', ⟨kl⟩, ⟨bB⟩⟩
            rw [if_neg c51] at H
            have c51b0 : (t231 == 1) = false := beq_eq_false_iff_ne.mpr c51
            have c51b1 : (t231 != 1) = true := bne_iff_ne.mpr c51
            by_cases c52 : t231 = 2
            ·rw [if_pos c52] at H
             have c52b0 : (t231 == 2) = true := beq_iff_eq.mpr c52
             have c52b1 : (t231 != 2) = false := bne_eq_false_iff_eq.mpr c52
             clear c52
             have H' := am H
             clear H
             go_wp2
             go_meet
             case rel => exact ⟨_, (true), sr, H', ⟨kl⟩, ⟨bB⟩⟩
            rw [if_neg c52] at H
            have c52b0 : (t231 == 2) = false := beq_eq_false_iff_ne.mpr c52
            have c52b1 : (t231 != 2) = true := bne_iff_ne.mpr c52
            by_cases c53 : t231 = 3
            rotate_left
            ·rw [if_neg c53] at H
             have c53b0 : (t231 == 3) = false := beq_eq_false_iff_ne.mpr c53
             have c53b1 : (t231 != 3) = true := bne_iff_ne.mpr c53
             have H' := am H
             clear H
             go_wp2
             go_meet
             case rel => exact ⟨_, (false), sr, H', ⟨kl⟩, ⟨bB⟩⟩
            rw [if_pos c53] at H
            have c53b0 : (t231 == 3) = true := beq_iff_eq.mpr c53
            have c53b1 : (t231 != 3) = false := bne_eq_false_iff_eq.mpr c53
            clear c53
            have H' := am H
            clear H
            go_wp2
            go_meet
            case rel => exact ⟨_, (true), sr, H', ⟨kl⟩, ⟨bB⟩⟩
           case rest =>
            clear HC49
            try clear c48
            obtain ⟨kq, x98_48, rfl, HA, HJ48, HB⟩ := hcut
            cases kq with
            | zero => exact absurd HA.out (by simp [spec_l07WordCut.j5])
            | succ kj48 =>
             have H := HA.out
             clear HA
             simp only [spec_l07WordCut.j5] at H
             by_cases c56 : x98_48 = true
             ·subst c56
              replace H := iT H
              obtain rfl := Option.some.inj H
              go_wp2
              go_ret
              exact ⟨by first | rfl | (simp [errW_none, errW_some] <;> rfl) | (simp only [← hji5]; first | rfl | (simp [errW_none, errW_some] <;> rfl)) | (simp [*, errW_none, errW_some] <;> rfl), bB⟩
             replace c56 := Bool.eq_false_iff.mpr c56
             subst c56
             replace H := iF H
             by_cases c57 : t231 = 5
             rotate_left
             ·rw [if_neg c57] at H
              have c57b0 : (t231 == 5) = false := beq_eq_false_iff_ne.mpr c57
              have c57b1 : (t231 != 5) = true := bne_iff_ne.mpr c57
              obtain rfl := Option.some.inj H
              go_wp2
              go_ret
              exact ⟨by first | rfl | (simp [errW_none, errW_some] <;> rfl) | (simp only [← hji5]; first | rfl | (simp [errW_none, errW_some] <;> rfl)) | (simp [*, errW_none, errW_some] <;> rfl), bB⟩
             rw [if_pos c57] at H
             have c57b0 : (t231 == 5) = true := beq_iff_eq.mpr c57
             have c57b1 : (t231 != 5) = false := bne_eq_false_iff_eq.mpr c57
             clear c57
             by_cases c58 : t232 = 5
             rotate_left
             ·rw [if_neg c58] at H
              have c58b0 : (t232 == 5) = false := beq_eq_false_iff_ne.mpr c58
              have c58b1 : (t232 != 5) = true := bne_iff_ne.mpr c58
              obtain rfl := Option.some.inj H
              go_wp2
              go_ret
              exact ⟨by first | rfl | (simp [errW_none, errW_some] <;> rfl) | (simp only [← hji5]; first | rfl | (simp [errW_none, errW_some] <;> rfl)) | (simp [*, errW_none, errW_some] <;> rfl), bB⟩
             rw [if_pos c58] at H
             have c58b0 : (t232 == 5) = true := beq_iff_eq.mpr c58
             have c58b1 : (t232 != 5) = false := bne_eq_false_iff_eq.mpr c58
             clear c58
             obtain rfl := Option.some.inj H
             go_wp2
             go_ret
             exact ⟨by first | rfl | (simp [errW_none, errW_some] <;> rfl) | (simp only [← hji5]; first | rfl | (simp [errW_none, errW_some] <;> rfl)) | (simp [*, errW_none, errW_some] <;> rfl), bB⟩
end Go.Proofs.YtmlhnpggjkoinaaDoor.PFnExactWords

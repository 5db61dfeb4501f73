-- Written by a program of this session (wip/tools/myprint.py) that runs the kit's print with hooks of its own. Lean checks it.
import Derived.Test.YtmlhnpggjkoinaaDoorPFnExactWordCutsx0
import Derived.Test.YtmlhnpggjkoinaaDoorSlimMore
import Derived.Test.YtmlhnpggjkoinaaDoorPFnExactWordCutsx3
import Derived.Test.YtmlhnpggjkoinaaDoorPFnExactWordCutsx7
import Derived.Test.YtmlhnpggjkoinaaDoorPFnExactWordCutsx8
namespace Go.Proofs.YtmlhnpggjkoinaaDoor.PFnExactWordCuts
open Go.RowKit Go.Proofs.YtmlhnpggjkoinaaDoorW.PrintWords Go.Proofs.YtmlhnpggjkoinaaDoorW.PrintLast Go.Proofs.YtmlhnpggjkoinaaDoorW.PrintMore
attribute [local go_sem] max2_int min2_int max_two min_two max_three min_three max_four min_four   -- for this text's walks alone
set_option linter.unusedVariables false
set_option linter.unusedSimpArgs false

/-! ### spec_l07WordCut: function 83 -/
mutual
def spec_l07WordCut.l0 : Nat → List Int → Int → Bool → List (S54) → Int → Int → Int → Option (Bool)
 | 0, _, _, _, _, _, _, _ => none
 | k + 1, x0, x1, x2, x3, x9, x10, x11 => if x11 < (x3.length : Int) then (if 0 ≤ x11 then (if ((rd_T54 x3 x11).f0) = x9 then (if ((rd_T54 x3 x11).f1) = x10 then (some ((rd_T54 x3 x11).f2)) else (spec_l07WordCut.l0 k x0 x1 x2 x3 x9 x10 (wrap64 (x11 + 1)))) else (spec_l07WordCut.l0 k x0 x1 x2 x3 x9 x10 (wrap64 (x11 + 1)))) else (none)) else ((spec_l07Word.f k x9).bind fun t207 => ((spec_l07Word.f k x10).bind fun t208 => (if x2 = true then ((spec_l07Control.f k x9).bind fun t209 => (if t209 = true then (spec_l07WordCut.j1 k x0 x1 x9 x10 t207 t208 true) else ((spec_l07Control.f k x10).bind fun t210 => (spec_l07WordCut.j1 k x0 x1 x9 x10 t207 t208 t210)))) else (some false))))
def spec_l07WordCut.j1 : Nat → List Int → Int → Int → Int → Int → Int → Bool → Option (Bool)
 | 0, _, _, _, _, _, _, _ => none
 | k + 1, x0, x1, x9, x10, x12, x13, x57 => if x57 = true then (some true) else ((spec_l01Cat.f k x9).bind fun t211 => (if t211 = 2 then ((spec_l01Cat.f k x10).bind fun t212 => (spec_l07WordCut.j2 k x0 x1 x12 x13 (t212 == 2))) else (spec_l07WordCut.j2 k x0 x1 x12 x13 false)))
def spec_l07WordCut.j2 : Nat → List Int → Int → Int → Int → Bool → Option (Bool)
 | 0, _, _, _, _, _ => none
 | k + 1, x0, x1, x12, x13, x64 => if x64 = true then (some false) else (if x12 = 1 then (if x13 = 1 then (spec_l07WordCut.j3 k x0 x1 x12 x13 true) else (spec_l07WordCut.j3 k x0 x1 x12 x13 (x13 == 2))) else (if x12 = 2 then (if x13 = 1 then (spec_l07WordCut.j3 k x0 x1 x12 x13 true) else (spec_l07WordCut.j3 k x0 x1 x12 x13 (x13 == 2))) else (spec_l07WordCut.j3 k x0 x1 x12 x13 false)))
def spec_l07WordCut.j3 : Nat → List Int → Int → Int → Int → Bool → Option (Bool)
 | 0, _, _, _, _, _ => none
 | k + 1, x0, x1, x12, x13, x73 => if x73 = true then (some false) else ((spec_l07Between.f k x0 (wrap64 (x1 - 1))).bind fun t213 => (if t213 = true then (spec_l07WordCut.j4 k x12 x13 true) else ((spec_l07Between.f k x0 x1).bind fun t214 => (spec_l07WordCut.j4 k x12 x13 t214))))
def spec_l07WordCut.j4 : Nat → Int → Int → Bool → Option (Bool)
 | 0, _, _, _ => none
 | k + 1, x12, x13, x88 => if x88 = true then (some false) else (if x13 = 3 then (if x12 = 1 then (spec_l07WordCut.j5 k x12 x13 true) else (if x12 = 2 then (spec_l07WordCut.j5 k x12 x13 true) else (if x12 = 3 then (spec_l07WordCut.j5 k x12 x13 true) else (spec_l07WordCut.j5 k x12 x13 false)))) else (if x12 = 3 then (if x13 = 1 then (spec_l07WordCut.j5 k x12 x13 true) else (spec_l07WordCut.j5 k x12 x13 (x13 == 2))) else (spec_l07WordCut.j5 k x12 x13 false)))
def spec_l07WordCut.j5 : Nat → Int → Int → Bool → Option (Bool)
 | 0, _, _, _ => none
 | k + 1, x12, x13, x98 => if x98 = true then (some false) else (if x12 = 5 then (if x13 = 5 then (some false) else (some true)) else (some true))
end
def spec_l07WordCut.f (k : Nat) (l0 : List Int) (a1 : Int) (a2 : Bool) (l3 : List (S54)) : Option (Bool) := if 0 ≤ (wrap64 (a1 - 1)) then (if (wrap64 (a1 - 1)) < (l0.length : Int) then (if 0 ≤ a1 then (if a1 < (l0.length : Int) then (spec_l07WordCut.l0 k l0 a1 a2 l3 (rd l0 (wrap64 (a1 - 1))) (rd l0 a1) 0) else (none)) else (none)) else (none)) else (none)
theorem spec_l07WordCut.mono_l : ∀ k, (∀ y0 y1 y2 y3 y4 y5 y6, LeO (spec_l07WordCut.l0 k y0 y1 y2 y3 y4 y5 y6) (spec_l07WordCut.l0 (k + 1) y0 y1 y2 y3 y4 y5 y6)) ∧ (∀ y0 y1 y2 y3 y4 y5 y6, LeO (spec_l07WordCut.j1 k y0 y1 y2 y3 y4 y5 y6) (spec_l07WordCut.j1 (k + 1) y0 y1 y2 y3 y4 y5 y6)) ∧ (∀ y0 y1 y2 y3 y4, LeO (spec_l07WordCut.j2 k y0 y1 y2 y3 y4) (spec_l07WordCut.j2 (k + 1) y0 y1 y2 y3 y4)) ∧ (∀ y0 y1 y2 y3 y4, LeO (spec_l07WordCut.j3 k y0 y1 y2 y3 y4) (spec_l07WordCut.j3 (k + 1) y0 y1 y2 y3 y4)) ∧ (∀ y0 y1 y2, LeO (spec_l07WordCut.j4 k y0 y1 y2) (spec_l07WordCut.j4 (k + 1) y0 y1 y2)) ∧ (∀ y0 y1 y2, LeO (spec_l07WordCut.j5 k y0 y1 y2) (spec_l07WordCut.j5 (k + 1) y0 y1 y2))
 | 0 => ⟨fun _ _ _ _ _ _ _ r h => by simp [spec_l07WordCut.l0] at h, fun _ _ _ _ _ _ _ r h => by simp [spec_l07WordCut.j1] at h, fun _ _ _ _ _ r h => by simp [spec_l07WordCut.j2] at h, fun _ _ _ _ _ r h => by simp [spec_l07WordCut.j3] at h, fun _ _ _ r h => by simp [spec_l07WordCut.j4] at h, fun _ _ _ r h => by simp [spec_l07WordCut.j5] at h⟩
 | k + 1 => by
  obtain ⟨ih0, ih1, ih2, ih3, ih4, ih5⟩ := spec_l07WordCut.mono_l k
  refine ⟨fun y0 y1 y2 y3 y4 y5 y6 => ?_, fun y0 y1 y2 y3 y4 y5 y6 => ?_, fun y0 y1 y2 y3 y4 => ?_, fun y0 y1 y2 y3 y4 => ?_, fun y0 y1 y2 => ?_, fun y0 y1 y2 => ?_⟩
  all_goals (first | unfold spec_l07WordCut.l0 | unfold spec_l07WordCut.j1 | unfold spec_l07WordCut.j2 | unfold spec_l07WordCut.j3 | unfold spec_l07WordCut.j4 | unfold spec_l07WordCut.j5)
  all_goals (repeat' (first | (with_reducible first | exact ih0 .. | exact ih1 .. | exact ih2 .. | exact ih3 .. | exact ih4 .. | exact ih5 .. | exact spec_l01Cat.mono .. | exact spec_l07Between.mono .. | exact spec_l07Control.mono .. | exact spec_l07Word.mono .. | exact LeO.refl _ | exact LeO.none _ | refine LeO.ite ?_ ?_ | refine LeO.bind ?_ (fun _ => ?_)) | exact ih0 .. | exact ih1 .. | exact ih2 .. | exact ih3 .. | exact ih4 .. | exact ih5 .. | exact spec_l01Cat.mono .. | exact spec_l07Between.mono .. | exact spec_l07Control.mono .. | exact spec_l07Word.mono .. | exact LeO.none _ | refine LeO.ite ?_ ?_ | refine LeO.bind ?_ (fun _ => ?_)))
theorem spec_l07WordCut.mono : ∀ a0 a1 a2 a3 k, LeO (spec_l07WordCut.f k a0 a1 a2 a3) (spec_l07WordCut.f (k + 1) a0 a1 a2 a3) := by
 intro a0 a1 a2 a3 k
 obtain ⟨ih0, ih1, ih2, ih3, ih4, ih5⟩ := spec_l07WordCut.mono_l k
 unfold spec_l07WordCut.f
 repeat' (first | (with_reducible first | exact ih0 .. | exact ih1 .. | exact ih2 .. | exact ih3 .. | exact ih4 .. | exact ih5 .. | exact spec_l01Cat.mono .. | exact spec_l07Between.mono .. | exact spec_l07Control.mono .. | exact spec_l07Word.mono .. | exact LeO.refl _ | exact LeO.none _ | refine LeO.ite ?_ ?_ | refine LeO.bind ?_ (fun _ => ?_)) | exact ih0 .. | exact ih1 .. | exact ih2 .. | exact ih3 .. | exact ih4 .. | exact ih5 .. | exact spec_l01Cat.mono .. | exact spec_l07Between.mono .. | exact spec_l07Control.mono .. | exact spec_l07Word.mono .. | exact LeO.none _ | refine LeO.ite ?_ ?_ | refine LeO.bind ?_ (fun _ => ?_))
set_option maxHeartbeats 8000000 in
set_option maxRecDepth 100000 in
theorem spec_l07WordCut.calls (k : Nat) (A0 : Option Addr) (c0 : Nat) (l0 : List Int) (a1 : Int) (a2 : Bool) (A3 : Option Addr) (c3 : Nat) (l3 : List (S54)) (r : Bool) (w : World) (hr0 : Kd.C (Kd.int .i64) w A0 l0.length l0) (hc0 : l0.length ≤ c0) (hr3 : Kd.C k54 w A3 l3.length l3) (hc3 : l3.length ≤ c3) (h : spec_l07WordCut.f k l0 a1 a2 l3 = some r) :
  Calls Tryd.prog 83 #[.slice A0 l0.length c0, .int .i64 a1, .bool a2, .slice A3 l3.length c3] w fun e w' => e = .returned (.bool r) ∧ Below w.heap.size w w' := by
 have HR0 := am hr0
 have HC0 := am hc0
 clear hr0 hc0
 have HR3 := am hr3
 have HC3 := am hc3
 clear hr3 hc3
 have HB := am (Below.refl w.heap.size w)
 have H : (if 0 ≤ (wrap64 (a1 - 1)) then (if (wrap64 (a1 - 1)) < (l0.length : Int) then (if 0 ≤ a1 then (if a1 < (l0.length : Int) then (spec_l07WordCut.l0 k l0 a1 a2 l3 (rd l0 (wrap64 (a1 - 1))) (rd l0 a1) 0) else (none)) else (none)) else (none)) else (none)) = some r := h
 clear h
 obtain ⟨ji5, hji5⟩ : ∃ j_ : Int, (wrap64 (a1 - 1)) = j_ := ⟨_, rfl⟩
 replace H : (if 0 ≤ (ji5) then (if (ji5) < (l0.length : Int) then (if 0 ≤ a1 then (if a1 < (l0.length : Int) then (spec_l07WordCut.l0 k l0 a1 a2 l3 (rd l0 (ji5)) (rd l0 a1) 0) else (none)) else (none)) else (none)) else (none)) = some r := by first | (rw [hji5] at H; exact H) | (simp only [hji5] at H ⊢; exact H)
 have hji5w : (IntKind.i64.wrap (a1 - 1)) = ji5 := (i64_w _).trans hji5
 replace H := iteN H
 obtain ⟨c6, H⟩ := H
 have c6b0 : decide (0 ≤ (ji5)) = true := decide_eq_true c6
 clear c6
 replace H := iteN H
 obtain ⟨c7, H⟩ := H
 have c7b0 : decide ((ji5) < (l0.length : Int)) = true := decide_eq_true c7
 clear c7
 replace H := iteN H
 obtain ⟨c8, H⟩ := H
 have c8b0 : decide (0 ≤ a1) = true := decide_eq_true c8
 clear c8
 replace H := iteN H
 obtain ⟨c9, H⟩ := H
 have c9b0 : decide (a1 < (l0.length : Int)) = true := decide_eq_true c9
 clear c9
 have H' := am H
 clear H
 have p202 : 0 ≤ ((ji5) : Int) := od
 have q202 : (ji5) < (l0.length : Int) := od
 obtain ⟨ad202, e202, hx202_0⟩ := Kd.at_int HR0.out (ji5) p202 q202
 cases e202
 replace p202 := eq_true p202
 replace q202 := eq_true q202
 have p203 : 0 ≤ (a1 : Int) := od
 have q203 : a1 < (l0.length : Int) := od
 obtain ⟨ad203, e203, hx203_0⟩ := Kd.at_int HR0.out a1 p203 q203
 obtain rfl : ad202 = ad203 := (by injection e203)
 replace p203 := eq_true p203
 replace q203 := eq_true q203
 go_enter Tryd.func83, Tryd.ntmps83
 go_wp2
 go_loopg [11] k (fun kq v11 w' => ∃ (x11_1 : Int), v11 = .int .i64 x11_1 ∧ Aside0 (spec_l07WordCut.l0 kq l0 a1 a2 l3 (rd l0 (ji5)) (rd l0 a1) x11_1 = some r) ∧ Aside0 (kq ≤ k) ∧ Aside0 (Below w.heap.size w w'))
 case atStart => exact ⟨(0), sr, H', ⟨Nat.le_refl _⟩, ⟨bB⟩⟩
 case round =>
  clear H'
  try clear c3
  try clear c6b0
  try clear c7b0
  try clear c8b0
  try clear c9b0
  try clear hx202_0
  try clear hx203_0
  try clear p202
  try clear p203
  try clear q202
  try clear q203
  obtain ⟨x11_1, rfl, HA, HK1, HB⟩ := hrel
  cases gk with
  | zero => exact absurd HA.out (by simp [spec_l07WordCut.l0])
  | succ k1 =>
   have H := HA.out
   clear HA
   simp only [spec_l07WordCut.l0] at H
   by_cases c10 : x11_1 < (l3.length : Int)
   ·rw [if_pos c10] at H
    have c10b0 : decide (x11_1 < (l3.length : Int)) = true := decide_eq_true c10
    clear c10
    replace H := iteN H
    obtain ⟨c11, H⟩ := H
    have c11b0 : decide (0 ≤ x11_1) = true := decide_eq_true c11
    clear c11
    by_cases c12 : ((rd_T54 l3 x11_1).f0) = (rd l0 (ji5))
    rotate_left
    ·rw [if_neg c12] at H
     have c12b0 : (((rd_T54 l3 x11_1).f0) == (rd l0 (ji5))) = false := beq_eq_false_iff_ne.mpr c12
     have c12b1 : (((rd_T54 l3 x11_1).f0) != (rd l0 (ji5))) = true := bne_iff_ne.mpr c12
     have H' := am H
     clear H
     have p204 : 0 ≤ (x11_1 : Int) := od
     have q204 : x11_1 < (l3.length : Int) := od
     obtain ⟨ad204, e204, hx204_0, hx204_1, hx204_2⟩ := at_T54 HR3.out x11_1 p204 q204
     cases e204
     replace hx204_0 := cl HB hx204_0
     replace hx204_1 := cl HB hx204_1
     replace hx204_2 := cl HB hx204_2
     replace p204 := eq_true p204
     replace q204 := eq_true q204
     go_wp2
     go_roundg k1
     case measure => have := HK1.out; omega
     case rel => exact ⟨(wrap64 (x11_1 + 1)), sr, H', ⟨kl⟩, ⟨bB⟩⟩
    rw [if_pos c12] at H
    have c12b0 : (((rd_T54 l3 x11_1).f0) == (rd l0 (ji5))) = true := beq_iff_eq.mpr c12
    have c12b1 : (((rd_T54 l3 x11_1).f0) != (rd l0 (ji5))) = false := bne_eq_false_iff_eq.mpr c12
    clear c12
    by_cases c13 : ((rd_T54 l3 x11_1).f1) = (rd l0 a1)
    rotate_left
    ·rw [if_neg c13] at H
     have c13b0 : (((rd_T54 l3 x11_1).f1) == (rd l0 a1)) = false := beq_eq_false_iff_ne.mpr c13
     have c13b1 : (((rd_T54 l3 x11_1).f1) != (rd l0 a1)) = true := bne_iff_ne.mpr c13
     have H' := am H
     clear H
     have p204 : 0 ≤ (x11_1 : Int) := od
     have q204 : x11_1 < (l3.length : Int) := od
     obtain ⟨ad204, e204, hx204_0, hx204_1, hx204_2⟩ := at_T54 HR3.out x11_1 p204 q204
     cases e204
     replace hx204_0 := cl HB hx204_0
     replace hx204_1 := cl HB hx204_1
     replace hx204_2 := cl HB hx204_2
     replace p204 := eq_true p204
     replace q204 := eq_true q204
     have p205 : 0 ≤ (x11_1 : Int) := od
     have q205 : x11_1 < (l3.length : Int) := od
     obtain ⟨ad205, e205, hx205_0, hx205_1, hx205_2⟩ := at_T54 HR3.out x11_1 p205 q205
     obtain rfl : ad204 = ad205 := (by injection e205)
     replace hx205_0 := cl HB hx205_0
     replace hx205_1 := cl HB hx205_1
     replace hx205_2 := cl HB hx205_2
     replace p205 := eq_true p205
     replace q205 := eq_true q205
     go_wp2
     go_roundg k1
     case measure => have := HK1.out; omega
     case rel => exact ⟨(wrap64 (x11_1 + 1)), sr, H', ⟨kl⟩, ⟨bB⟩⟩
    rw [if_pos c13] at H
    have c13b0 : (((rd_T54 l3 x11_1).f1) == (rd l0 a1)) = true := beq_iff_eq.mpr c13
    have c13b1 : (((rd_T54 l3 x11_1).f1) != (rd l0 a1)) = false := bne_eq_false_iff_eq.mpr c13
    clear c13
    obtain rfl := Option.some.inj H
    have p204 : 0 ≤ (x11_1 : Int) := od
    have q204 : x11_1 < (l3.length : Int) := od
    obtain ⟨ad204, e204, hx204_0, hx204_1, hx204_2⟩ := at_T54 HR3.out x11_1 p204 q204
    cases e204
    replace hx204_0 := cl HB hx204_0
    replace hx204_1 := cl HB hx204_1
    replace hx204_2 := cl HB hx204_2
    replace p204 := eq_true p204
    replace q204 := eq_true q204
    have p205 : 0 ≤ (x11_1 : Int) := od
    have q205 : x11_1 < (l3.length : Int) := od
    obtain ⟨ad205, e205, hx205_0, hx205_1, hx205_2⟩ := at_T54 HR3.out x11_1 p205 q205
    obtain rfl : ad204 = ad205 := (by injection e205)
    replace hx205_0 := cl HB hx205_0
    replace hx205_1 := cl HB hx205_1
    replace hx205_2 := cl HB hx205_2
    replace p205 := eq_true p205
    replace q205 := eq_true q205
    have p206 : 0 ≤ (x11_1 : Int) := od
    have q206 : x11_1 < (l3.length : Int) := od
    obtain ⟨ad206, e206, hx206_0, hx206_1, hx206_2⟩ := at_T54 HR3.out x11_1 p206 q206
    obtain rfl : ad204 = ad206 := (by injection e206)
    replace hx206_0 := cl HB hx206_0
    replace hx206_1 := cl HB hx206_1
    replace hx206_2 := cl HB hx206_2
    replace p206 := eq_true p206
    replace q206 := eq_true q206
    go_wp2
    go_ret
    exact ⟨by first | rfl | (simp [errW_none, errW_some] <;> rfl) | (simp only [← hji5]; first | rfl | (simp [errW_none, errW_some] <;> rfl)) | (simp [*, errW_none, errW_some] <;> rfl), bB⟩
   rw [if_neg c10] at H
   have c10b0 : decide (x11_1 < (l3.length : Int)) = false := decide_eq_false c10
   clear c10
   obtain ⟨t207, A14, H⟩ := bb H
   obtain ⟨t208, A15, H⟩ := bb H
   by_cases c16 : a2 = true
   rotate_left
   ·replace c16 := Bool.eq_false_iff.mpr c16
    subst c16
    replace H := iF H
    obtain rfl := Option.some.inj H
    go_wp2_with (first | ((with_reducible refine gate_callee (f := 62) rfl ?_); refine goesL_ (some 51) rfl rfl Tryd.func62 (by kernel_rfl) rfl #[.int .i64 (rd l0 (ji5))] rfl (by (try simp only [List.map_toArray, List.map_cons, List.map_nil]); first | done | (simp only [hji5]; rfl) | rfl | (simp only [List.length_drop, List.length_take]; rfl)) ?_; (with_reducible refine (spec_l07Word.calls k1 (rd l0 (ji5)) t207 _ A14.out).mono ?_); rintro e w59 ⟨rfl, hb⟩; refine ⟨_, rfl, ?_⟩; replace HB := am (below_step bB hb); (try clear hb)) | ((with_reducible refine gate_callee (f := 62) rfl ?_); refine gl 53 Tryd.func62 #[.int .i64 (rd l0 a1)] ?_; (with_reducible refine (spec_l07Word.calls k1 (rd l0 a1) t208 _ A15.out).mono ?_); rintro e w60 ⟨rfl, hb⟩; refine ⟨_, rfl, ?_⟩; replace HB := am (below_step bB hb); (try clear hb)))
    go_ret
    exact ⟨by first | rfl | (simp [errW_none, errW_some] <;> rfl) | (simp only [← hji5]; first | rfl | (simp [errW_none, errW_some] <;> rfl)) | (simp [*, errW_none, errW_some] <;> rfl), bB⟩
   subst c16
   replace H := iT H
   have HC17 := am H
   clear H
   go_upto_region 12 with (first | ((with_reducible refine gate_callee (f := 62) rfl ?_); refine goesL_ (some 51) rfl rfl Tryd.func62 (by kernel_rfl) rfl #[.int .i64 (rd l0 (ji5))] rfl (by (try simp only [List.map_toArray, List.map_cons, List.map_nil]); first | done | (simp only [hji5]; rfl) | rfl | (simp only [List.length_drop, List.length_take]; rfl)) ?_; (with_reducible refine (spec_l07Word.calls k1 (rd l0 (ji5)) t207 _ A14.out).mono ?_); rintro e w18 ⟨rfl, hb⟩; refine ⟨_, rfl, ?_⟩; replace HB := am (below_step bB hb); (try clear hb)) | ((with_reducible refine gate_callee (f := 62) rfl ?_); refine gl 53 Tryd.func62 #[.int .i64 (rd l0 a1)] ?_; (with_reducible refine (spec_l07Word.calls k1 (rd l0 a1) t208 _ A15.out).mono ?_); rintro e w19 ⟨rfl, hb⟩; refine ⟨_, rfl, ?_⟩; replace HB := am (below_step bB hb); (try clear hb)))
   (try simp only [Act.put, List.setIfInBounds_toArray, List.set_cons_zero, List.set_cons_succ])
   go_cut [57] (fun v57 wc => ∃ (kq : Nat) (x57_16 : Bool), v57 = .bool x57_16 ∧ Aside0 (spec_l07WordCut.j1 kq l0 a1 (rd l0 (ji5)) (rd l0 a1) t207 t208 x57_16 = some r) ∧ Aside0 (kq ≤ k1) ∧ Aside0 (Below w.heap.size w wc))
   case first =>
    have H := HC17.out
    clear HC17
    obtain ⟨t209, A20, H⟩ := bb H
    by_cases c21 : t209 = true
    ·subst c21
     replace H := iT H
     have H' := am H
     clear H
     go_wp2_with (first | ((with_reducible refine gate_callee (f := 108) rfl ?_); refine goesL_ (some 59) rfl rfl Tryd.func108 (by kernel_rfl) rfl #[.int .i64 (rd l0 (ji5))] rfl (by (try simp only [List.map_toArray, List.map_cons, List.map_nil]); first | done | (simp only [hji5]; rfl) | rfl | (simp only [List.length_drop, List.length_take]; rfl)) ?_; (with_reducible refine (spec_l07Control.calls k1 (rd l0 (ji5)) true _ A20.out).mono ?_); rintro e w22 ⟨rfl, hb⟩; refine ⟨_, rfl, ?_⟩; replace HB := am (below_step bB hb); (try clear hb)))
     go_meet
     case rel => exact ⟨_, (true), sr, H', ⟨kl⟩, ⟨bB⟩⟩
    replace c21 := Bool.eq_false_iff.mpr c21
    subst c21
    replace H := iF H
    obtain ⟨t210, A23, H⟩ := bb H
    have H' := am H
    clear H
    go_wp2_with (first | ((with_reducible refine gate_callee (f := 108) rfl ?_); refine goesL_ (some 59) rfl rfl Tryd.func108 (by kernel_rfl) rfl #[.int .i64 (rd l0 (ji5))] rfl (by (try simp only [List.map_toArray, List.map_cons, List.map_nil]); first | done | (simp only [hji5]; rfl) | rfl | (simp only [List.length_drop, List.length_take]; rfl)) ?_; (with_reducible refine (spec_l07Control.calls k1 (rd l0 (ji5)) false _ A20.out).mono ?_); rintro e w24 ⟨rfl, hb⟩; refine ⟨_, rfl, ?_⟩; replace HB := am (below_step bB hb); (try clear hb)) | (go_at_call 108; (with_reducible refine (spec_l07Control.calls k1 (rd l0 a1) t210 _ A23.out).mono ?_); rintro e w25 ⟨rfl, hb⟩; replace HB := am (below_step bB hb); (try clear hb)))
    go_meet
    case rel => exact ⟨_, (t210), sr, H', ⟨kl⟩, ⟨bB⟩⟩
   case rest =>
    clear HC17
    try clear c10b0
    try clear c16
    obtain ⟨kq, x57_16, rfl, HA, HJ16, HB⟩ := hcut
    cases kq with
    | zero => exact absurd HA.out (by simp [spec_l07WordCut.j1])
    | succ kj16 =>
     have H := HA.out
     clear HA
     simp only [spec_l07WordCut.j1] at H
     by_cases c26 : x57_16 = true
     ·subst c26
      replace H := iT H
      obtain rfl := Option.some.inj H
      go_wp2
      go_ret
      exact ⟨by first | rfl | (simp [errW_none, errW_some] <;> rfl) | (simp only [← hji5]; first | rfl | (simp [errW_none, errW_some] <;> rfl)) | (simp [*, errW_none, errW_some] <;> rfl), bB⟩
     replace c26 := Bool.eq_false_iff.mpr c26
     subst c26
     replace H := iF H
     have HC27 := am H
     clear H
     go_upto_region 14 with (fail)
     go_cut [64] (fun v64 wc => ∃ (kq : Nat) (x64_26 : Bool), v64 = .bool x64_26 ∧ Aside0 (spec_l07WordCut.j2 kq l0 a1 t207 t208 x64_26 = some r) ∧ Aside0 (kq ≤ kj16) ∧ Aside0 (Below w.heap.size w wc))
     case first =>
      have H := HC27.out
      clear HC27
      obtain ⟨t211, A28, H⟩ := bb H
      by_cases c29 : t211 = 2
      rotate_left
      ·rw [if_neg c29] at H
       have c29b0 : (t211 == 2) = false := beq_eq_false_iff_ne.mpr c29
       have c29b1 : (t211 != 2) = true := bne_iff_ne.mpr c29
       (first | rw [c29b0] | (simp only [i64_w, i32_w]; rw [c29b0]) | skip)
       have H' := am H
       clear H
       go_wp2_with (first | ((with_reducible refine gate_callee (f := 94) rfl ?_); refine goesL_ (some 66) rfl rfl Tryd.func94 (by kernel_rfl) rfl #[.int .i64 (rd l0 (ji5))] rfl (by (try simp only [List.map_toArray, List.map_cons, List.map_nil]); first | done | (simp only [hji5]; rfl) | rfl | (simp only [List.length_drop, List.length_take]; rfl)) ?_; (with_reducible refine (spec_l01Cat.calls kj16 (rd l0 (ji5)) t211 _ A28.out).mono ?_); rintro e w33 ⟨rfl, hb⟩; refine ⟨_, rfl, ?_⟩; replace HB := am (below_step bB hb); (try clear hb)))
       go_meet
       case rel => exact ⟨_, (false), sr, H', ⟨kl⟩, ⟨bB⟩⟩
      rw [if_pos c29] at H
      have c29b0 : (t211 == 2) = true := beq_iff_eq.mpr c29
      have c29b1 : (t211 != 2) = false := bne_eq_false_iff_eq.mpr c29
      clear c29
      (first | rw [c29b0] | (simp only [i64_w, i32_w]; rw [c29b0]) | skip)
      obtain ⟨t212, A30, H⟩ := bb H
      have H' := am H
      clear H
      go_wp2_with (first | ((with_reducible refine gate_callee (f := 94) rfl ?_); refine goesL_ (some 66) rfl rfl Tryd.func94 (by kernel_rfl) rfl #[.int .i64 (rd l0 (ji5))] rfl (by (try simp only [List.map_toArray, List.map_cons, List.map_nil]); first | done | (simp only [hji5]; rfl) | rfl | (simp only [List.length_drop, List.length_take]; rfl)) ?_; (with_reducible refine (spec_l01Cat.calls kj16 (rd l0 (ji5)) t211 _ A28.out).mono ?_); rintro e w31 ⟨rfl, hb⟩; refine ⟨_, rfl, ?_⟩; replace HB := am (below_step bB hb); (try clear hb)) | (go_at_call 94; (with_reducible refine (spec_l01Cat.calls kj16 (rd l0 a1) t212 _ A30.out).mono ?_); rintro e w32 ⟨rfl, hb⟩; replace HB := am (below_step bB hb); (try clear hb)))
      go_meet
      case rel => exact ⟨_, ((t212 == 2)), sr, H', ⟨kl⟩, ⟨bB⟩⟩
     case rest =>
      clear HC27
      try clear c26
      obtain ⟨kq, x64_26, rfl, HA, HJ26, HB⟩ := hcut
      cases kq with
      | zero => exact absurd HA.out (by simp [spec_l07WordCut.j2])
      | succ kj26 =>
       have H := HA.out
       clear HA
       simp only [spec_l07WordCut.j2] at H
       by_cases c34 : x64_26 = true
       ·subst c34
        replace H := iT H
        obtain rfl := Option.some.inj H
        go_wp2
        go_ret
        exact ⟨by first | rfl | (simp [errW_none, errW_some] <;> rfl) | (simp only [← hji5]; first | rfl | (simp [errW_none, errW_some] <;> rfl)) | (simp [*, errW_none, errW_some] <;> rfl), bB⟩
       replace c34 := Bool.eq_false_iff.mpr c34
       subst c34
       replace H := iF H
       have HC35 := am H
       clear H
       go_upto_region 16 with (fail)
       go_cut [73] (fun v73 wc => ∃ (kq : Nat) (x73_34 : Bool), v73 = .bool x73_34 ∧ Aside0 (spec_l07WordCut.j3 kq l0 a1 t207 t208 x73_34 = some r) ∧ Aside0 (kq ≤ kj26) ∧ Aside0 (Below w.heap.size w wc))
       case first =>
        have H := HC35.out
        clear HC35
        by_cases c36 : t207 = 1
        ·rw [if_pos c36] at H
         have c36b0 : (t207 == 1) = true := beq_iff_eq.mpr c36
         have c36b1 : (t207 != 1) = false := bne_eq_false_iff_eq.mpr c36
         clear c36
         (first | rw [c36b0] | (simp only [i64_w, i32_w]; rw [c36b0]) | skip)
         by_cases c37 : t208 = 1
         rotate_left
         ·rw [if_neg c37] at H
          have c37b0 : (t208 == 1) = false := beq_eq_false_iff_ne.mpr c37
          have c37b1 : (t208 != 1) = true := bne_iff_ne.mpr c37
          have H' := am H
          clear H
          go_wp2
          go_meet
          case rel => exact ⟨_, ((t208 == 2)), sr, H', ⟨kl⟩, ⟨bB⟩⟩
         rw [if_pos c37] at H
         have c37b0 : (t208 == 1) = true := beq_iff_eq.mpr c37
         have c37b1 : (t208 != 1) = false := bne_eq_false_iff_eq.mpr c37
         clear c37
         have H' := am H
         clear H
         go_wp2
         go_meet
         case rel => exact ⟨_, (true), sr, H', ⟨kl⟩, ⟨bB⟩⟩
        rw [if_neg c36] at H
        have c36b0 : (t207 == 1) = false := beq_eq_false_iff_ne.mpr c36
        have c36b1 : (t207 != 1) = true := bne_iff_ne.mpr c36
        (first | rw [c36b0] | (simp only [i64_w, i32_w]; rw [c36b0]) | skip)
        by_cases c38 : t207 = 2
        rotate_left
        ·rw [if_neg c38] at H
         have c38b0 : (t207 == 2) = false := beq_eq_false_iff_ne.mpr c38
         have c38b1 : (t207 != 2) = true := bne_iff_ne.mpr c38
         have H' := am H
         clear H
         go_wp2
         go_meet
         case rel => exact ⟨_, (false), sr, H', ⟨kl⟩, ⟨bB⟩⟩
        rw [if_pos c38] at H
        have c38b0 : (t207 == 2) = true := beq_iff_eq.mpr c38
        have c38b1 : (t207 != 2) = false := bne_eq_false_iff_eq.mpr c38
        clear c38
        by_cases c39 : t208 = 1
        rotate_left
        ·rw [if_neg c39] at H
         have c39b0 : (t208 == 1) = false := beq_eq_false_iff_ne.mpr c39
         have c39b1 : (t208 != 1) = true := bne_iff_ne.mpr c39
         have H' := am H
         clear H
         go_wp2
         go_meet
         case rel => exact ⟨_, ((t208 == 2)), sr, H', ⟨kl⟩, ⟨bB⟩⟩
        rw [if_pos c39] at H
        have c39b0 : (t208 == 1) = true := beq_iff_eq.mpr c39
        have c39b1 : (t208 != 1) = false := bne_eq_false_iff_eq.mpr c39
        clear c39
        have H' := am H
        clear H
        go_wp2
        go_meet
        case rel => exact ⟨_, (true), sr, H', ⟨kl⟩, ⟨bB⟩⟩
       case rest =>
        clear HC35
        try clear c34
        obtain ⟨kq, x73_34, rfl, HA, HJ34, HB⟩ := hcut
        cases kq with
        | zero => exact absurd HA.out (by simp [spec_l07WordCut.j3])
        | succ kj34 =>
         have H := HA.out
         clear HA
         simp only [spec_l07WordCut.j3] at H
         by_cases c40 : x73_34 = true
         ·subst c40
          replace H := iT H
          obtain rfl := Option.some.inj H
          go_wp2
          go_ret
          exact ⟨by first | rfl | (simp [errW_none, errW_some] <;> rfl) | (simp only [← hji5]; first | rfl | (simp [errW_none, errW_some] <;> rfl)) | (simp [*, errW_none, errW_some] <;> rfl), bB⟩
         replace c40 := Bool.eq_false_iff.mpr c40
         subst c40
         replace H := iF H
         have HC41 := am H
         clear H
         go_upto_region 18 with (fail)
         go_cut [88] (fun v88 wc => ∃ (kq : Nat) (x88_40 : Bool), v88 = .bool x88_40 ∧ Aside0 (spec_l07WordCut.j4 kq t207 t208 x88_40 = some r) ∧ Aside0 (kq ≤ kj34) ∧ Aside0 (Below w.heap.size w wc))
         case first =>
          have H := HC41.out
          clear HC41
          obtain ⟨t213, A42, H⟩ := bb H
          by_cases c43 : t213 = true
          ·subst c43
           replace H := iT H
           have H' := am H
           clear H
           go_wp2_with (first | ((with_reducible refine gate_callee (f := 116) rfl ?_); refine goesL_ (some 92) rfl rfl Tryd.func116 (by kernel_rfl) rfl #[.slice (some ad202) l0.length c0, .int .i64 (ji5)] rfl (by (try simp only [List.map_toArray, List.map_cons, List.map_nil]); first | done | (simp only [hji5]; rfl) | rfl | (simp only [List.length_drop, List.length_take]; rfl)) ?_; (with_reducible refine (spec_l07Between.calls kj34 _ _ l0 (ji5) true _ ?side1 ?side2 (by have h_ := A42.out; rw [hji5] at h_; exact h_)).mono ?_); (case side1 => exact cC (Kd.C_below HR0.out HB.out)); (case side2 => exact HC0.out); rintro e w44 ⟨rfl, hb⟩; refine ⟨_, rfl, ?_⟩; replace HB := am (below_step bB hb); (try clear hb)))
           go_meet
           case rel => exact ⟨_, (true), sr, H', ⟨kl⟩, ⟨bB⟩⟩
          replace c43 := Bool.eq_false_iff.mpr c43
          subst c43
          replace H := iF H
          obtain ⟨t214, A45, H⟩ := bb H
          have H' := am H
          clear H
          go_wp2_with (first | ((with_reducible refine gate_callee (f := 116) rfl ?_); refine goesL_ (some 92) rfl rfl Tryd.func116 (by kernel_rfl) rfl #[.slice (some ad202) l0.length c0, .int .i64 (ji5)] rfl (by (try simp only [List.map_toArray, List.map_cons, List.map_nil]); first | done | (simp only [hji5]; rfl) | rfl | (simp only [List.length_drop, List.length_take]; rfl)) ?_; (with_reducible refine (spec_l07Between.calls kj34 _ _ l0 (ji5) false _ ?side1 ?side2 (by have h_ := A42.out; rw [hji5] at h_; exact h_)).mono ?_); (case side1 => exact cC (Kd.C_below HR0.out HB.out)); (case side2 => exact HC0.out); rintro e w46 ⟨rfl, hb⟩; refine ⟨_, rfl, ?_⟩; replace HB := am (below_step bB hb); (try clear hb)) | (go_at_call 116; (with_reducible refine (spec_l07Between.calls kj34 _ _ l0 a1 t214 _ ?side1 ?side2 A45.out).mono ?_); (case side1 => exact cC (Kd.C_below HR0.out HB.out)); (case side2 => exact HC0.out); rintro e w47 ⟨rfl, hb⟩; replace HB := am (below_step bB hb); (try clear hb)))
          go_meet
          case rel => exact ⟨_, (t214), sr, H', ⟨kl⟩, ⟨bB⟩⟩
         case rest =>
          clear HC41
          try clear c40
          obtain ⟨kq, x88_40, rfl, HA, HJ40, HB⟩ := hcut
          cases kq with
          | zero => exact absurd HA.out (by simp [spec_l07WordCut.j4])
          | succ kj40 =>
           have H := HA.out
           clear HA
           simp only [spec_l07WordCut.j4] at H
           by_cases c48 : x88_40 = true
           ·subst c48
            replace H := iT H
            obtain rfl := Option.some.inj H
            go_wp2
            go_ret
            exact ⟨by first | rfl | (simp [errW_none, errW_some] <;> rfl) | (simp only [← hji5]; first | rfl | (simp [errW_none, errW_some] <;> rfl)) | (simp [*, errW_none, errW_some] <;> rfl), bB⟩
           replace c48 := Bool.eq_false_iff.mpr c48
           subst c48
           replace H := iF H
           have HC49 := am H
           clear H
           go_upto_region 20 with (fail)
           go_cut [98] (fun v98 wc => ∃ (kq : Nat) (x98_48 : Bool), v98 = .bool x98_48 ∧ Aside0 (spec_l07WordCut.j5 kq t207 t208 x98_48 = some r) ∧ Aside0 (kq ≤ kj40) ∧ Aside0 (Below w.heap.size w wc))
           case first =>
            have H := HC49.out
            clear HC49
            by_cases c50 : t208 = 3
            rotate_left
            ·rw [if_neg c50] at H
             have c50b0 : (t208 == 3) = false := beq_eq_false_iff_ne.mpr c50
             have c50b1 : (t208 != 3) = true := bne_iff_ne.mpr c50
             (first | rw [c50b0] | (simp only [i64_w, i32_w]; rw [c50b0]) | skip)
             by_cases c54 : t207 = 3
             rotate_left
             ·rw [if_neg c54] at H
              have c54b0 : (t207 == 3) = false := beq_eq_false_iff_ne.mpr c54
              have c54b1 : (t207 != 3) = true := bne_iff_ne.mpr c54
              have H' := am H
              clear H
              go_wp2
              go_meet
              case rel => exact ⟨_, (false), sr, H', ⟨kl⟩, ⟨bB⟩⟩
             rw [if_pos c54] at H
             have c54b0 : (t207 == 3) = true := beq_iff_eq.mpr c54
             have c54b1 : (t207 != 3) = false := bne_eq_false_iff_eq.mpr c54
             clear c54
             by_cases c55 : t208 = 1
             rotate_left
             ·rw [if_neg c55] at H
              have c55b0 : (t208 == 1) = false := beq_eq_false_iff_ne.mpr c55
              have c55b1 : (t208 != 1) = true := bne_iff_ne.mpr c55
              have H' := am H
              clear H
              go_wp2
              go_meet
              case rel => exact ⟨_, ((t208 == 2)), sr, H', ⟨kl⟩, ⟨bB⟩⟩
             rw [if_pos c55] at H
             have c55b0 : (t208 == 1) = true := beq_iff_eq.mpr c55
             have c55b1 : (t208 != 1) = false := bne_eq_false_iff_eq.mpr c55
             clear c55
             have H' := am H
             clear H
             go_wp2
             go_meet
             case rel => exact ⟨_, (true), sr, H', ⟨kl⟩, ⟨bB⟩⟩
            rw [if_pos c50] at H
            have c50b0 : (t208 == 3) = true := beq_iff_eq.mpr c50
            have c50b1 : (t208 != 3) = false := bne_eq_false_iff_eq.mpr c50
            clear c50
            (first | rw [c50b0] | (simp only [i64_w, i32_w]; rw [c50b0]) | skip)
            by_cases c51 : t207 = 1
            ·rw [if_pos c51] at H
             have c51b0 : (t207 == 1) = true := beq_iff_eq.mpr c51
             have c51b1 : (t207 != 1) = false := bne_eq_false_iff_eq.mpr c51
             clear c51
             have H' := am H
             clear H
             go_wp2
             go_meet
             case rel => exact ⟨_, (true), sr, H', ⟨kl⟩, ⟨bB⟩⟩
            rw [if_neg c51] at H
            have c51b0 : (t207 == 1) = false := beq_eq_false_iff_ne.mpr c51
            have c51b1 : (t207 != 1) = true := bne_iff_ne.mpr c51
            by_cases c52 : t207 = 2
            ·rw [if_pos c52] at H
             have c52b0 : (t207 == 2) = true := beq_iff_eq.mpr c52
             have c52b1 : (t207 != 2) = false := bne_eq_false_iff_eq.mpr c52
             clear c52
             have H' := am H
             clear H
             go_wp2
             go_meet
             case rel => exact ⟨_, (true), sr, H', ⟨kl⟩, ⟨bB⟩⟩
            rw [if_neg c52] at H
            have c52b0 : (t207 == 2) = false := beq_eq_false_iff_ne.mpr c52
            have c52b1 : (t207 != 2) = true := bne_iff_ne.mpr c52
            by_cases c53 : t207 = 3
            rotate_left
            ·rw [if_neg c53] at H
             have c53b0 : (t207 == 3) = false := beq_eq_false_iff_ne.mpr c53
             have c53b1 : (t207 != 3) = true := bne_iff_ne.mpr c53
             have H' := am H
             clear H
             go_wp2
             go_meet
             case rel => exact ⟨_, (false), sr, H', ⟨kl⟩, ⟨bB⟩⟩
            rw [if_pos c53] at H
            have c53b0 : (t207 == 3) = true := beq_iff_eq.mpr c53
            have c53b1 : (t207 != 3) = false := bne_eq_false_iff_eq.mpr c53
            clear c53
            have H' := am H
            clear H
            go_wp2
            go_meet
            case rel => exact ⟨_, (true), sr, H', ⟨kl⟩, ⟨bB⟩⟩
           case rest =>
            clear HC49
            try clear c48
            obtain ⟨kq, x98_48, rfl, HA, HJ48, HB⟩ := hcut
            cases kq with
            | zero => exact absurd HA.out (by simp [spec_l07WordCut.j5])
            | succ kj48 =>
             have H := HA.out
             clear HA
             simp only [spec_l07WordCut.j5] at H
             by_cases c56 : x98_48 = true
             ·subst c56
              replace H := iT H
              obtain rfl := Option.some.inj H
              go_wp2
              go_ret
              exact ⟨by first | rfl | (simp [errW_none, errW_some] <;> rfl) | (simp only [← hji5]; first | rfl | (simp [errW_none, errW_some] <;> rfl)) | (simp [*, errW_none, errW_some] <;> rfl), bB⟩
             replace c56 := Bool.eq_false_iff.mpr c56
             subst c56
             replace H := iF H
             by_cases c57 : t207 = 5
             rotate_left
             ·rw [if_neg c57] at H
              have c57b0 : (t207 == 5) = false := beq_eq_false_iff_ne.mpr c57
              have c57b1 : (t207 != 5) = true := bne_iff_ne.mpr c57
              obtain rfl := Option.some.inj H
              go_wp2
              go_ret
              exact ⟨by first | rfl | (simp [errW_none, errW_some] <;> rfl) | (simp only [← hji5]; first | rfl | (simp [errW_none, errW_some] <;> rfl)) | (simp [*, errW_none, errW_some] <;> rfl), bB⟩
             rw [if_pos c57] at H
             have c57b0 : (t207 == 5) = true := beq_iff_eq.mpr c57
             have c57b1 : (t207 != 5) = false := bne_eq_false_iff_eq.mpr c57
             clear c57
             by_cases c58 : t208 = 5
             rotate_left
             ·rw [if_neg c58] at H
              have c58b0 : (t208 == 5) = false := beq_eq_false_iff_ne.mpr c58
              have c58b1 : (t208 != 5) = true := bne_iff_ne.mpr c58
              obtain rfl := Option.some.inj H
              go_wp2
              go_ret
              exact ⟨by first | rfl | (simp [errW_none, errW_some] <;> rfl) | (simp only [← hji5]; first | rfl | (simp [errW_none, errW_some] <;> rfl)) | (simp [*, errW_none, errW_some] <;> rfl), bB⟩
             rw [if_pos c58] at H
             have c58b0 : (t208 == 5) = true := beq_iff_eq.mpr c58
             have c58b1 : (t208 != 5) = false := bne_eq_false_iff_eq.mpr c58
             clear c58
             obtain rfl := Option.some.inj H
             go_wp2
             go_ret
             exact ⟨by first | rfl | (simp [errW_none, errW_some] <;> rfl) | (simp only [← hji5]; first | rfl | (simp [errW_none, errW_some] <;> rfl)) | (simp [*, errW_none, errW_some] <;> rfl), bB⟩
end Go.Proofs.YtmlhnpggjkoinaaDoor.PFnExactWordCuts

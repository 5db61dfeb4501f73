-- Written by a program of this session (wip/tools/myprint.py) that runs the kit's print with hooks of its own. Lean checks it.
import Derived.Test.YtmlhnpggjkoinaaDoorPFnExactWordsx0
import Derived.Test.YtmlhnpggjkoinaaDoorSlimMore
import Derived.Test.YtmlhnpggjkoinaaDoorPFnExactWordsx8
namespace Go.Proofs.YtmlhnpggjkoinaaDoor.PFnExactWords
open Go.RowKit Go.Proofs.YtmlhnpggjkoinaaDoorW.PrintWords Go.Proofs.YtmlhnpggjkoinaaDoorW.PrintLast Go.Proofs.YtmlhnpggjkoinaaDoorW.PrintMore
attribute [local go_sem] max2_int min2_int max_two min_two max_three min_three max_four min_four   -- for this text's walks alone
set_option linter.unusedVariables false
set_option linter.unusedSimpArgs false

/-! ### spec_l07Between: function 116 -/
def spec_l07Between.j0 : Nat → List Int → Int → Bool → Option (Bool)
 | 0, _, _, _ => none
 | k + 1, x0, x1, x15 => if x15 = true then (some false) else (if 0 ≤ (wrap64 (x1 - 1)) then (if (wrap64 (x1 - 1)) < (x0.length : Int) then ((spec_l07Word.f k (rd x0 (wrap64 (x1 - 1)))).bind fun t215 => (if 0 ≤ (wrap64 (x1 + 1)) then (if (wrap64 (x1 + 1)) < (x0.length : Int) then ((spec_l07Word.f k (rd x0 (wrap64 (x1 + 1)))).bind fun t217 => (if 0 ≤ x1 then (if x1 < (x0.length : Int) then ((spec_l07IsJoint.f (rd x0 x1)).bind fun t219 => (if t219 = true then (if t215 = 1 then (if t217 = 1 then (some true) else ((spec_l07IsPoint.f (rd x0 x1)).bind fun t221 => (if t221 = true then (if t215 = 2 then (some (t217 == 2)) else (some false)) else (some false)))) else ((spec_l07IsPoint.f (rd x0 x1)).bind fun t223 => (if t223 = true then (if t215 = 2 then (some (t217 == 2)) else (some false)) else (some false)))) else ((spec_l07IsPoint.f (rd x0 x1)).bind fun t225 => (if t225 = true then (if t215 = 2 then (some (t217 == 2)) else (some false)) else (some false))))) else (none)) else (none))) else (none)) else (none))) else (none)) else (none))
def spec_l07Between.f (k : Nat) (l0 : List Int) (a1 : Int) : Option (Bool) := if a1 < 1 then (spec_l07Between.j0 k l0 a1 true) else (spec_l07Between.j0 k l0 a1 (decide ((wrap64 (a1 + 1)) ≥ (l0.length : Int))))
set_option maxHeartbeats 8000000 in
set_option maxRecDepth 100000 in
theorem spec_l07Between.calls (k : Nat) (A0 : Option Addr) (c0 : Nat) (l0 : List Int) (a1 : Int) (r : Bool) (w : World) (hr0 : Kd.C (Kd.int .i64) w A0 l0.length l0) (hc0 : l0.length ≤ c0) (h : spec_l07Between.f k l0 a1 = some r) :
  Calls Tryd.prog 116 #[.slice A0 l0.length c0, .int .i64 a1] w fun e w' => e = .returned (.bool r) ∧ Below w.heap.size w w' := by
 have HR0 := am hr0
 have HC0 := am hc0
 clear hr0 hc0
 have HB := am (Below.refl w.heap.size w)
 have H : (if a1 < 1 then (spec_l07Between.j0 k l0 a1 true) else (spec_l07Between.j0 k l0 a1 (decide ((wrap64 (a1 + 1)) ≥ (l0.length : Int))))) = some r := h
 clear h
 have HC3 := am H
 clear H
 go_enter Tryd.func116, Tryd.ntmps116
 go_upto_region 1 with (fail)
 go_cut [15] (fun v15 wc => ∃ (kq : Nat) (x15_2 : Bool), v15 = .bool x15_2 ∧ Aside0 (spec_l07Between.j0 kq l0 a1 x15_2 = some r) ∧ Aside0 (kq ≤ k) ∧ Aside0 (Below w.heap.size w wc))
 case first =>
  have H := HC3.out
  clear HC3
  by_cases c4 : a1 < 1
  ·rw [if_pos c4] at H
   have c4b0 := decide_eq_true c4
   clear c4
   (first | rw [c4b0] | (simp only [i64_w, i32_w]; rw [c4b0]) | skip)
   have H' := am H
   clear H
   go_wp2
   go_meet
   case rel => exact ⟨_, (true), sr, H', ⟨kl⟩, ⟨bB⟩⟩
  rw [if_neg c4] at H
  have c4b0 := decide_eq_false c4
  clear c4
  (first | rw [c4b0] | (simp only [i64_w, i32_w]; rw [c4b0]) | skip)
  have H' := am H
  clear H
  go_wp2
  go_meet
  case rel => exact ⟨_, (decide ((wrap64 (a1 + 1)) ≥ (l0.length : Int))), sr, H', ⟨kl⟩, ⟨bB⟩⟩
 case rest =>
  clear HC3
  obtain ⟨kq, x15_2, rfl, HA, HJ2, HB⟩ := hcut
  cases kq with
  | zero => exact absurd HA.out (by simp [spec_l07Between.j0])
  | succ kj2 =>
   have H := HA.out
   clear HA
   simp only [spec_l07Between.j0] at H
   by_cases c5 : x15_2 = true
   ·subst c5
    replace H := iT H
    obtain rfl := Option.some.inj H
    go_wp2
    go_ret
    exact ⟨rv, bB⟩
   replace c5 := Bool.eq_false_iff.mpr c5
   subst c5
   replace H := iF H
   obtain ⟨ji6, hji6⟩ : ∃ j_ : Int, (wrap64 (a1 - 1)) = j_ := ⟨_, rfl⟩
   replace H : (if 0 ≤ (ji6) then (if (ji6) < (l0.length : Int) then ((spec_l07Word.f kj2 (rd l0 (ji6))).bind fun t215 => (if 0 ≤ (wrap64 (a1 + 1)) then (if (wrap64 (a1 + 1)) < (l0.length : Int) then ((spec_l07Word.f kj2 (rd l0 (wrap64 (a1 + 1)))).bind fun t217 => (if 0 ≤ a1 then (if a1 < (l0.length : Int) then ((spec_l07IsJoint.f (rd l0 a1)).bind fun t219 => (if t219 = true then (if t215 = 1 then (if t217 = 1 then (some true) else ((spec_l07IsPoint.f (rd l0 a1)).bind fun t221 => (if t221 = true then (if t215 = 2 then (some (t217 == 2)) else (some false)) else (some false)))) else ((spec_l07IsPoint.f (rd l0 a1)).bind fun t223 => (if t223 = true then (if t215 = 2 then (some (t217 == 2)) else (some false)) else (some false)))) else ((spec_l07IsPoint.f (rd l0 a1)).bind fun t225 => (if t225 = true then (if t215 = 2 then (some (t217 == 2)) else (some false)) else (some false))))) else (none)) else (none))) else (none)) else (none))) else (none)) else (none)) = some r := by first | (rw [hji6] at H; exact H) | (simp only [hji6] at H ⊢; exact H)
   have hji6w : (IntKind.i64.wrap (a1 - 1)) = ji6 := (i64_w _).trans hji6
   replace H := iteN H
   obtain ⟨c7, H⟩ := H
   have c7b0 := decide_eq_true c7
   clear c7
   replace H := iteN H
   obtain ⟨c8, H⟩ := H
   have c8b0 := decide_eq_true c8
   clear c8
   obtain ⟨t215, A9, H⟩ := bb H
   obtain ⟨ji10, hji10⟩ : ∃ j_ : Int, (wrap64 (a1 + 1)) = j_ := ⟨_, rfl⟩
   replace H : (if 0 ≤ (ji10) then (if (ji10) < (l0.length : Int) then ((spec_l07Word.f kj2 (rd l0 (ji10))).bind fun t217 => (if 0 ≤ a1 then (if a1 < (l0.length : Int) then ((spec_l07IsJoint.f (rd l0 a1)).bind fun t219 => (if t219 = true then (if t215 = 1 then (if t217 = 1 then (some true) else ((spec_l07IsPoint.f (rd l0 a1)).bind fun t221 => (if t221 = true then (if t215 = 2 then (some (t217 == 2)) else (some false)) else (some false)))) else ((spec_l07IsPoint.f (rd l0 a1)).bind fun t223 => (if t223 = true then (if t215 = 2 then (some (t217 == 2)) else (some false)) else (some false)))) else ((spec_l07IsPoint.f (rd l0 a1)).bind fun t225 => (if t225 = true then (if t215 = 2 then (some (t217 == 2)) else (some false)) else (some false))))) else (none)) else (none))) else (none)) else (none)) = some r := by first | (rw [hji10] at H; exact H) | (simp only [hji10] at H ⊢; exact H)
   (try rw [hji10] at A9)
   have hji10w : (IntKind.i64.wrap (a1 + 1)) = ji10 := (i64_w _).trans hji10
   replace H := iteN H
   obtain ⟨c11, H⟩ := H
   have c11b0 := decide_eq_true c11
   clear c11
   replace H := iteN H
   obtain ⟨c12, H⟩ := H
   have c12b0 := decide_eq_true c12
   clear c12
   obtain ⟨t217, A13, H⟩ := bb H
   replace H := iteN H
   obtain ⟨c14, H⟩ := H
   have c14b0 := decide_eq_true c14
   clear c14
   replace H := iteN H
   obtain ⟨c15, H⟩ := H
   have c15b0 := decide_eq_true c15
   clear c15
   obtain ⟨t219, A16, H⟩ := bb H
   by_cases c17 : t219 = true
   rotate_left
   ·replace c17 := Bool.eq_false_iff.mpr c17
    subst c17
    replace H := iF H
    obtain ⟨t225, A40, H⟩ := bb H
    by_cases c41 : t225 = true
    rotate_left
    ·replace c41 := Bool.eq_false_iff.mpr c41
     subst c41
     replace H := iF H
     obtain rfl := Option.some.inj H
     have p214 : 0 ≤ ((ji6) : Int) := od
     have q214 : (ji6) < (l0.length : Int) := od
     obtain ⟨ad214, e214, hx214_0⟩ := Kd.at_int HR0.out (ji6) p214 q214
     cases e214
     replace hx214_0 := cl HB hx214_0
     replace p214 := eq_true p214; replace q214 := eq_true q214
     go_wp2_with (first | ((with_reducible refine gate_callee (f := 62) rfl ?_); refine goesL_ (some 21) rfl rfl Tryd.func62 (by kernel_rfl) rfl #[.int .i64 (rd l0 (ji6))] rfl (by (try simp only [List.map_toArray, List.map_cons, List.map_nil]); first | done | (simp only [hji6]; rfl) | rfl | (simp only [List.length_drop, List.length_take]; rfl)) ?_; (with_reducible refine (spec_l07Word.calls kj2 (rd l0 (ji6)) t215 _ A9.out).mono ?_); rintro e w47 ⟨rfl, hb⟩; refine ⟨_, rfl, ?_⟩; replace HB := am (below_step bB hb); (try clear hb); have p216 : 0 ≤ ((ji10) : Int) := od; have q216 : (ji10) < (l0.length : Int) := od; obtain ⟨ad216, e216, hx216_0⟩ := Kd.at_int HR0.out (ji10) p216 q216; obtain rfl : ad214 = ad216 := (by injection e216); replace hx216_0 := cl HB hx216_0; replace p216 := eq_true p216; replace q216 := eq_true q216) | ((with_reducible refine gate_callee (f := 62) rfl ?_); refine goesL_ (some 27) rfl rfl Tryd.func62 (by kernel_rfl) rfl #[.int .i64 (rd l0 (ji10))] rfl (by (try simp only [List.map_toArray, List.map_cons, List.map_nil]); first | done | (simp only [hji10]; rfl) | rfl | (simp only [List.length_drop, List.length_take]; rfl)) ?_; (with_reducible refine (spec_l07Word.calls kj2 (rd l0 (ji10)) t217 _ A13.out).mono ?_); rintro e w48 ⟨rfl, hb⟩; refine ⟨_, rfl, ?_⟩; replace HB := am (below_step bB hb); (try clear hb); have p218 : 0 ≤ (a1 : Int) := od; have q218 : a1 < (l0.length : Int) := od; obtain ⟨ad218, e218, hx218_0⟩ := Kd.at_int HR0.out a1 p218 q218; obtain rfl : ad214 = ad218 := (by injection e218); replace hx218_0 := cl HB hx218_0; replace p218 := eq_true p218; replace q218 := eq_true q218) | ((with_reducible refine gate_callee (f := 129) rfl ?_); refine gq 32 Tryd.func129 (spec_l07IsJoint.calls (rd l0 a1) false _ A16.out) fun nd => ?_; have p224 : 0 ≤ (a1 : Int) := od; have q224 : a1 < (l0.length : Int) := od; obtain ⟨ad224, e224, hx224_0⟩ := Kd.at_int HR0.out a1 p224 q224; obtain rfl : ad214 = ad224 := (by injection e224); replace hx224_0 := cl HB hx224_0; replace p224 := eq_true p224; replace q224 := eq_true q224) | (go_at_call 130; (with_reducible refine (spec_l07IsPoint.calls (rd l0 a1) false _ A40.out).mono ?_); rintro e w' ⟨rfl, ⟨nd, rfl⟩⟩))
     go_ret
     exact ⟨by first | rfl | (simp [errW_none, errW_some] <;> rfl) | (simp only [← hji6, ← hji10]; first | rfl | (simp [errW_none, errW_some] <;> rfl)) | (simp [*, errW_none, errW_some] <;> rfl), bB⟩
    subst c41
    replace H := iT H
    by_cases c42 : t215 = 2
    rotate_left
    ·rw [if_neg c42] at H
     have c42b0 : (t215 == 2) = false := beq_eq_false_iff_ne.mpr c42
     have c42b1 : (t215 != 2) = true := bne_iff_ne.mpr c42
     obtain rfl := Option.some.inj H
     have p214 : 0 ≤ ((ji6) : Int) := od
     have q214 : (ji6) < (l0.length : Int) := od
     obtain ⟨ad214, e214, hx214_0⟩ := Kd.at_int HR0.out (ji6) p214 q214
     cases e214
     replace hx214_0 := cl HB hx214_0
     replace p214 := eq_true p214; replace q214 := eq_true q214
     go_wp2_with (first | ((with_reducible refine gate_callee (f := 62) rfl ?_); refine goesL_ (some 21) rfl rfl Tryd.func62 (by kernel_rfl) rfl #[.int .i64 (rd l0 (ji6))] rfl (by (try simp only [List.map_toArray, List.map_cons, List.map_nil]); first | done | (simp only [hji6]; rfl) | rfl | (simp only [List.length_drop, List.length_take]; rfl)) ?_; (with_reducible refine (spec_l07Word.calls kj2 (rd l0 (ji6)) t215 _ A9.out).mono ?_); rintro e w45 ⟨rfl, hb⟩; refine ⟨_, rfl, ?_⟩; replace HB := am (below_step bB hb); (try clear hb); have p216 : 0 ≤ ((ji10) : Int) := od; have q216 : (ji10) < (l0.length : Int) := od; obtain ⟨ad216, e216, hx216_0⟩ := Kd.at_int HR0.out (ji10) p216 q216; obtain rfl : ad214 = ad216 := (by injection e216); replace hx216_0 := cl HB hx216_0; replace p216 := eq_true p216; replace q216 := eq_true q216) | ((with_reducible refine gate_callee (f := 62) rfl ?_); refine goesL_ (some 27) rfl rfl Tryd.func62 (by kernel_rfl) rfl #[.int .i64 (rd l0 (ji10))] rfl (by (try simp only [List.map_toArray, List.map_cons, List.map_nil]); first | done | (simp only [hji10]; rfl) | rfl | (simp only [List.length_drop, List.length_take]; rfl)) ?_; (with_reducible refine (spec_l07Word.calls kj2 (rd l0 (ji10)) t217 _ A13.out).mono ?_); rintro e w46 ⟨rfl, hb⟩; refine ⟨_, rfl, ?_⟩; replace HB := am (below_step bB hb); (try clear hb); have p218 : 0 ≤ (a1 : Int) := od; have q218 : a1 < (l0.length : Int) := od; obtain ⟨ad218, e218, hx218_0⟩ := Kd.at_int HR0.out a1 p218 q218; obtain rfl : ad214 = ad218 := (by injection e218); replace hx218_0 := cl HB hx218_0; replace p218 := eq_true p218; replace q218 := eq_true q218) | ((with_reducible refine gate_callee (f := 129) rfl ?_); refine gq 32 Tryd.func129 (spec_l07IsJoint.calls (rd l0 a1) false _ A16.out) fun nd => ?_; have p224 : 0 ≤ (a1 : Int) := od; have q224 : a1 < (l0.length : Int) := od; obtain ⟨ad224, e224, hx224_0⟩ := Kd.at_int HR0.out a1 p224 q224; obtain rfl : ad214 = ad224 := (by injection e224); replace hx224_0 := cl HB hx224_0; replace p224 := eq_true p224; replace q224 := eq_true q224) | (go_at_call 130; (with_reducible refine (spec_l07IsPoint.calls (rd l0 a1) true _ A40.out).mono ?_); rintro e w' ⟨rfl, ⟨nd, rfl⟩⟩))
     go_ret
     exact ⟨by first | rfl | (simp [errW_none, errW_some] <;> rfl) | (simp only [← hji6, ← hji10]; first | rfl | (simp [errW_none, errW_some] <;> rfl)) | (simp [*, errW_none, errW_some] <;> rfl), bB⟩
    rw [if_pos c42] at H
    have c42b0 : (t215 == 2) = true := beq_iff_eq.mpr c42
    have c42b1 : (t215 != 2) = false := bne_eq_false_iff_eq.mpr c42
    clear c42
    obtain rfl := Option.some.inj H
    have p214 : 0 ≤ ((ji6) : Int) := od
    have q214 : (ji6) < (l0.length : Int) := od
    obtain ⟨ad214, e214, hx214_0⟩ := Kd.at_int HR0.out (ji6) p214 q214
    cases e214
    replace hx214_0 := cl HB hx214_0
    replace p214 := eq_true p214; replace q214 := eq_true q214
    go_wp2_with (first | ((with_reducible refine gate_callee (f := 62) rfl ?_); refine goesL_ (some 21) rfl rfl Tryd.func62 (by kernel_rfl) rfl #[.int .i64 (rd l0 (ji6))] rfl (by (try simp only [List.map_toArray, List.map_cons, List.map_nil]); first | done | (simp only [hji6]; rfl) | rfl | (simp only [List.length_drop, List.length_take]; rfl)) ?_; (with_reducible refine (spec_l07Word.calls kj2 (rd l0 (ji6)) t215 _ A9.out).mono ?_); rintro e w43 ⟨rfl, hb⟩; refine ⟨_, rfl, ?_⟩; replace HB := am (below_step bB hb); (try clear hb); have p216 : 0 ≤ ((ji10) : Int) := od; have q216 : (ji10) < (l0.length : Int) := od; obtain ⟨ad216, e216, hx216_0⟩ := Kd.at_int HR0.out (ji10) p216 q216; obtain rfl : ad214 = ad216 := (by injection e216); replace hx216_0 := cl HB hx216_0; replace p216 := eq_true p216; replace q216 := eq_true q216) | ((with_reducible refine gate_callee (f := 62) rfl ?_); refine goesL_ (some 27) rfl rfl Tryd.func62 (by kernel_rfl) rfl #[.int .i64 (rd l0 (ji10))] rfl (by (try simp only [List.map_toArray, List.map_cons, List.map_nil]); first | done | (simp only [hji10]; rfl) | rfl | (simp only [List.length_drop, List.length_take]; rfl)) ?_; (with_reducible refine (spec_l07Word.calls kj2 (rd l0 (ji10)) t217 _ A13.out).mono ?_); rintro e w44 ⟨rfl, hb⟩; refine ⟨_, rfl, ?_⟩; replace HB := am (below_step bB hb); (try clear hb); have p218 : 0 ≤ (a1 : Int) := od; have q218 : a1 < (l0.length : Int) := od; obtain ⟨ad218, e218, hx218_0⟩ := Kd.at_int HR0.out a1 p218 q218; obtain rfl : ad214 = ad218 := (by injection e218); replace hx218_0 := cl HB hx218_0; replace p218 := eq_true p218; replace q218 := eq_true q218) | ((with_reducible refine gate_callee (f := 129) rfl ?_); refine gq 32 Tryd.func129 (spec_l07IsJoint.calls (rd l0 a1) false _ A16.out) fun nd => ?_; have p224 : 0 ≤ (a1 : Int) := od; have q224 : a1 < (l0.length : Int) := od; obtain ⟨ad224, e224, hx224_0⟩ := Kd.at_int HR0.out a1 p224 q224; obtain rfl : ad214 = ad224 := (by injection e224); replace hx224_0 := cl HB hx224_0; replace p224 := eq_true p224; replace q224 := eq_true q224) | (go_at_call 130; (with_reducible refine (spec_l07IsPoint.calls (rd l0 a1) true _ A40.out).mono ?_); rintro e w' ⟨rfl, ⟨nd, rfl⟩⟩))
    go_ret
    exact ⟨by first | rfl | (simp [errW_none, errW_some] <;> rfl) | (simp only [← hji6, ← hji10]; first | rfl | (simp [errW_none, errW_some] <;> rfl)) | (simp [*, errW_none, errW_some] <;> rfl), bB⟩
   subst c17
   replace H := iT H
   by_cases c18 : t215 = 1
   rotate_left
   ·rw [if_neg c18] at H
    have c18b0 : (t215 == 1) = false := beq_eq_false_iff_ne.mpr c18
    have c18b1 : (t215 != 1) = true := bne_iff_ne.mpr c18
    obtain ⟨t223, A31, H⟩ := bb H
    by_cases c32 : t223 = true
    rotate_left
    ·replace c32 := Bool.eq_false_iff.mpr c32
     subst c32
     replace H := iF H
     obtain rfl := Option.some.inj H
     have p214 : 0 ≤ ((ji6) : Int) := od
     have q214 : (ji6) < (l0.length : Int) := od
     obtain ⟨ad214, e214, hx214_0⟩ := Kd.at_int HR0.out (ji6) p214 q214
     cases e214
     replace hx214_0 := cl HB hx214_0
     replace p214 := eq_true p214; replace q214 := eq_true q214
     go_wp2_with (first | ((with_reducible refine gate_callee (f := 62) rfl ?_); refine goesL_ (some 21) rfl rfl Tryd.func62 (by kernel_rfl) rfl #[.int .i64 (rd l0 (ji6))] rfl (by (try simp only [List.map_toArray, List.map_cons, List.map_nil]); first | done | (simp only [hji6]; rfl) | rfl | (simp only [List.length_drop, List.length_take]; rfl)) ?_; (with_reducible refine (spec_l07Word.calls kj2 (rd l0 (ji6)) t215 _ A9.out).mono ?_); rintro e w38 ⟨rfl, hb⟩; refine ⟨_, rfl, ?_⟩; replace HB := am (below_step bB hb); (try clear hb); have p216 : 0 ≤ ((ji10) : Int) := od; have q216 : (ji10) < (l0.length : Int) := od; obtain ⟨ad216, e216, hx216_0⟩ := Kd.at_int HR0.out (ji10) p216 q216; obtain rfl : ad214 = ad216 := (by injection e216); replace hx216_0 := cl HB hx216_0; replace p216 := eq_true p216; replace q216 := eq_true q216) | ((with_reducible refine gate_callee (f := 62) rfl ?_); refine goesL_ (some 27) rfl rfl Tryd.func62 (by kernel_rfl) rfl #[.int .i64 (rd l0 (ji10))] rfl (by (try simp only [List.map_toArray, List.map_cons, List.map_nil]); first | done | (simp only [hji10]; rfl) | rfl | (simp only [List.length_drop, List.length_take]; rfl)) ?_; (with_reducible refine (spec_l07Word.calls kj2 (rd l0 (ji10)) t217 _ A13.out).mono ?_); rintro e w39 ⟨rfl, hb⟩; refine ⟨_, rfl, ?_⟩; replace HB := am (below_step bB hb); (try clear hb); have p218 : 0 ≤ (a1 : Int) := od; have q218 : a1 < (l0.length : Int) := od; obtain ⟨ad218, e218, hx218_0⟩ := Kd.at_int HR0.out a1 p218 q218; obtain rfl : ad214 = ad218 := (by injection e218); replace hx218_0 := cl HB hx218_0; replace p218 := eq_true p218; replace q218 := eq_true q218) | ((with_reducible refine gate_callee (f := 129) rfl ?_); refine gq 32 Tryd.func129 (spec_l07IsJoint.calls (rd l0 a1) true _ A16.out) fun nd => ?_; have p222 : 0 ≤ (a1 : Int) := od; have q222 : a1 < (l0.length : Int) := od; obtain ⟨ad222, e222, hx222_0⟩ := Kd.at_int HR0.out a1 p222 q222; obtain rfl : ad214 = ad222 := (by injection e222); replace hx222_0 := cl HB hx222_0; replace p222 := eq_true p222; replace q222 := eq_true q222) | (go_at_call 130; (with_reducible refine (spec_l07IsPoint.calls (rd l0 a1) false _ A31.out).mono ?_); rintro e w' ⟨rfl, ⟨nd, rfl⟩⟩))
     go_ret
     exact ⟨by first | rfl | (simp [errW_none, errW_some] <;> rfl) | (simp only [← hji6, ← hji10]; first | rfl | (simp [errW_none, errW_some] <;> rfl)) | (simp [*, errW_none, errW_some] <;> rfl), bB⟩
    subst c32
    replace H := iT H
    by_cases c33 : t215 = 2
    rotate_left
    ·rw [if_neg c33] at H
     have c33b0 : (t215 == 2) = false := beq_eq_false_iff_ne.mpr c33
     have c33b1 : (t215 != 2) = true := bne_iff_ne.mpr c33
     obtain rfl := Option.some.inj H
     have p214 : 0 ≤ ((ji6) : Int) := od
     have q214 : (ji6) < (l0.length : Int) := od
     obtain ⟨ad214, e214, hx214_0⟩ := Kd.at_int HR0.out (ji6) p214 q214
     cases e214
     replace hx214_0 := cl HB hx214_0
     replace p214 := eq_true p214; replace q214 := eq_true q214
     go_wp2_with (first | ((with_reducible refine gate_callee (f := 62) rfl ?_); refine goesL_ (some 21) rfl rfl Tryd.func62 (by kernel_rfl) rfl #[.int .i64 (rd l0 (ji6))] rfl (by (try simp only [List.map_toArray, List.map_cons, List.map_nil]); first | done | (simp only [hji6]; rfl) | rfl | (simp only [List.length_drop, List.length_take]; rfl)) ?_; (with_reducible refine (spec_l07Word.calls kj2 (rd l0 (ji6)) t215 _ A9.out).mono ?_); rintro e w36 ⟨rfl, hb⟩; refine ⟨_, rfl, ?_⟩; replace HB := am (below_step bB hb); (try clear hb); have p216 : 0 ≤ ((ji10) : Int) := od; have q216 : (ji10) < (l0.length : Int) := od; obtain ⟨ad216, e216, hx216_0⟩ := Kd.at_int HR0.out (ji10) p216 q216; obtain rfl : ad214 = ad216 := (by injection e216); replace hx216_0 := cl HB hx216_0; replace p216 := eq_true p216; replace q216 := eq_true q216) | ((with_reducible refine gate_callee (f := 62) rfl ?_); refine goesL_ (some 27) rfl rfl Tryd.func62 (by kernel_rfl) rfl #[.int .i64 (rd l0 (ji10))] rfl (by (try simp only [List.map_toArray, List.map_cons, List.map_nil]); first | done | (simp only [hji10]; rfl) | rfl | (simp only [List.length_drop, List.length_take]; rfl)) ?_; (with_reducible refine (spec_l07Word.calls kj2 (rd l0 (ji10)) t217 _ A13.out).mono ?_); rintro e w37 ⟨rfl, hb⟩; refine ⟨_, rfl, ?_⟩; replace HB := am (below_step bB hb); (try clear hb); have p218 : 0 ≤ (a1 : Int) := od; have q218 : a1 < (l0.length : Int) := od; obtain ⟨ad218, e218, hx218_0⟩ := Kd.at_int HR0.out a1 p218 q218; obtain rfl : ad214 = ad218 := (by injection e218); replace hx218_0 := cl HB hx218_0; replace p218 := eq_true p218; replace q218 := eq_true q218) | ((with_reducible refine gate_callee (f := 129) rfl ?_); refine gq 32 Tryd.func129 (spec_l07IsJoint.calls (rd l0 a1) true _ A16.out) fun nd => ?_; have p222 : 0 ≤ (a1 : Int) := od; have q222 : a1 < (l0.length : Int) := od; obtain ⟨ad222, e222, hx222_0⟩ := Kd.at_int HR0.out a1 p222 q222; obtain rfl : ad214 = ad222 := (by injection e222); replace hx222_0 := cl HB hx222_0; replace p222 := eq_true p222; replace q222 := eq_true q222) | (go_at_call 130; (with_reducible refine (spec_l07IsPoint.calls (rd l0 a1) true _ A31.out).mono ?_); rintro e w' ⟨rfl, ⟨nd, rfl⟩⟩))
     go_ret
     exact ⟨by first | rfl | (simp [errW_none, errW_some] <;> rfl) | (simp only [← hji6, ← hji10]; first | rfl | (simp [errW_none, errW_some] <;> rfl)) | (simp [*, errW_none, errW_some] <;> rfl), bB⟩
    rw [if_pos c33] at H
    have c33b0 : (t215 == 2) = true := beq_iff_eq.mpr c33
    have c33b1 : (t215 != 2) = false := bne_eq_false_iff_eq.mpr c33
    clear c33
    obtain rfl := Option.some.inj H
    have p214 : 0 ≤ ((ji6) : Int) := od
    have q214 : (ji6) < (l0.length : Int) := od
    obtain ⟨ad214, e214, hx214_0⟩ := Kd.at_int HR0.out (ji6) p214 q214
    cases e214
    replace hx214_0 := cl HB hx214_0
    replace p214 := eq_true p214; replace q214 := eq_true q214
    go_wp2_with (first | ((with_reducible refine gate_callee (f := 62) rfl ?_); refine goesL_ (some 21) rfl rfl Tryd.func62 (by kernel_rfl) rfl #[.int .i64 (rd l0 (ji6))] rfl (by (try simp only [List.map_toArray, List.map_cons, List.map_nil]); first | done | (simp only [hji6]; rfl) | rfl | (simp only [List.length_drop, List.length_take]; rfl)) ?_; (with_reducible refine (spec_l07Word.calls kj2 (rd l0 (ji6)) t215 _ A9.out).mono ?_); rintro e w34 ⟨rfl, hb⟩; refine ⟨_, rfl, ?_⟩; replace HB := am (below_step bB hb); (try clear hb); have p216 : 0 ≤ ((ji10) : Int) := od; have q216 : (ji10) < (l0.length : Int) := od; obtain ⟨ad216, e216, hx216_0⟩ := Kd.at_int HR0.out (ji10) p216 q216; obtain rfl : ad214 = ad216 := (by injection e216); replace hx216_0 := cl HB hx216_0; replace p216 := eq_true p216; replace q216 := eq_true q216) | ((with_reducible refine gate_callee (f := 62) rfl ?_); refine goesL_ (some 27) rfl rfl Tryd.func62 (by kernel_rfl) rfl #[.int .i64 (rd l0 (ji10))] rfl (by (try simp only [List.map_toArray, List.map_cons, List.map_nil]); first | done | (simp only [hji10]; rfl) | rfl | (simp only [List.length_drop, List.length_take]; rfl)) ?_; (with_reducible refine (spec_l07Word.calls kj2 (rd l0 (ji10)) t217 _ A13.out).mono ?_); rintro e w35 ⟨rfl, hb⟩; refine ⟨_, rfl, ?_⟩; replace HB := am (below_step bB hb); (try clear hb); have p218 : 0 ≤ (a1 : Int) := od; have q218 : a1 < (l0.length : Int) := od; obtain ⟨ad218, e218, hx218_0⟩ := Kd.at_int HR0.out a1 p218 q218; obtain rfl : ad214 = ad218 := (by injection e218); replace hx218_0 := cl HB hx218_0; replace p218 := eq_true p218; replace q218 := eq_true q218) | ((with_reducible refine gate_callee (f := 129) rfl ?_); refine gq 32 Tryd.func129 (spec_l07IsJoint.calls (rd l0 a1) true _ A16.out) fun nd => ?_; have p222 : 0 ≤ (a1 : Int) := od; have q222 : a1 < (l0.length : Int) := od; obtain ⟨ad222, e222, hx222_0⟩ := Kd.at_int HR0.out a1 p222 q222; obtain rfl : ad214 = ad222 := (by injection e222); replace hx222_0 := cl HB hx222_0; replace p222 := eq_true p222; replace q222 := eq_true q222) | (go_at_call 130; (with_reducible refine (spec_l07IsPoint.calls (rd l0 a1) true _ A31.out).mono ?_); rintro e w' ⟨rfl, ⟨nd, rfl⟩⟩))
    go_ret
    exact ⟨by first | rfl | (simp [errW_none, errW_some] <;> rfl) | (simp only [← hji6, ← hji10]; first | rfl | (simp [errW_none, errW_some] <;> rfl)) | (simp [*, errW_none, errW_some] <;> rfl), bB⟩
   rw [if_pos c18] at H
   have c18b0 : (t215 == 1) = true := beq_iff_eq.mpr c18
   have c18b1 : (t215 != 1) = false := bne_eq_false_iff_eq.mpr c18
   clear c18
   by_cases c19 : t217 = 1
   ·rw [if_pos c19] at H
    have c19b0 : (t217 == 1) = true := beq_iff_eq.mpr c19
    have c19b1 : (t217 != 1) = false := bne_eq_false_iff_eq.mpr c19
    clear c19
    obtain rfl := Option.some.inj H
    have p214 : 0 ≤ ((ji6) : Int) := od
    have q214 : (ji6) < (l0.length : Int) := od
    obtain ⟨ad214, e214, hx214_0⟩ := Kd.at_int HR0.out (ji6) p214 q214
    cases e214
    replace hx214_0 := cl HB hx214_0
    replace p214 := eq_true p214; replace q214 := eq_true q214
    go_wp2_with (first | ((with_reducible refine gate_callee (f := 62) rfl ?_); refine goesL_ (some 21) rfl rfl Tryd.func62 (by kernel_rfl) rfl #[.int .i64 (rd l0 (ji6))] rfl (by (try simp only [List.map_toArray, List.map_cons, List.map_nil]); first | done | (simp only [hji6]; rfl) | rfl | (simp only [List.length_drop, List.length_take]; rfl)) ?_; (with_reducible refine (spec_l07Word.calls kj2 (rd l0 (ji6)) t215 _ A9.out).mono ?_); rintro e w20 ⟨rfl, hb⟩; refine ⟨_, rfl, ?_⟩; replace HB := am (below_step bB hb); (try clear hb); have p216 : 0 ≤ ((ji10) : Int) := od; have q216 : (ji10) < (l0.length : Int) := od; obtain ⟨ad216, e216, hx216_0⟩ := Kd.at_int HR0.out (ji10) p216 q216; obtain rfl : ad214 = ad216 := (by injection e216); replace hx216_0 := cl HB hx216_0; replace p216 := eq_true p216; replace q216 := eq_true q216) | ((with_reducible refine gate_callee (f := 62) rfl ?_); refine goesL_ (some 27) rfl rfl Tryd.func62 (by kernel_rfl) rfl #[.int .i64 (rd l0 (ji10))] rfl (by (try simp only [List.map_toArray, List.map_cons, List.map_nil]); first | done | (simp only [hji10]; rfl) | rfl | (simp only [List.length_drop, List.length_take]; rfl)) ?_; (with_reducible refine (spec_l07Word.calls kj2 (rd l0 (ji10)) t217 _ A13.out).mono ?_); rintro e w21 ⟨rfl, hb⟩; refine ⟨_, rfl, ?_⟩; replace HB := am (below_step bB hb); (try clear hb); have p218 : 0 ≤ (a1 : Int) := od; have q218 : a1 < (l0.length : Int) := od; obtain ⟨ad218, e218, hx218_0⟩ := Kd.at_int HR0.out a1 p218 q218; obtain rfl : ad214 = ad218 := (by injection e218); replace hx218_0 := cl HB hx218_0; replace p218 := eq_true p218; replace q218 := eq_true q218) | ((with_reducible refine gate_callee (f := 129) rfl ?_); refine gq 32 Tryd.func129 (spec_l07IsJoint.calls (rd l0 a1) true _ A16.out) fun nd => ?_))
    go_ret
    exact ⟨by first | rfl | (simp [errW_none, errW_some] <;> rfl) | (simp only [← hji6, ← hji10]; first | rfl | (simp [errW_none, errW_some] <;> rfl)) | (simp [*, errW_none, errW_some] <;> rfl), bB⟩
   rw [if_neg c19] at H
   have c19b0 : (t217 == 1) = false := beq_eq_false_iff_ne.mpr c19
   have c19b1 : (t217 != 1) = true := bne_iff_ne.mpr c19
   obtain ⟨t221, A22, H⟩ := bb H
   by_cases c23 : t221 = true
   rotate_left
   ·replace c23 := Bool.eq_false_iff.mpr c23
    subst c23
    replace H := iF H
    obtain rfl := Option.some.inj H
    have p214 : 0 ≤ ((ji6) : Int) := od
    have q214 : (ji6) < (l0.length : Int) := od
    obtain ⟨ad214, e214, hx214_0⟩ := Kd.at_int HR0.out (ji6) p214 q214
    cases e214
    replace hx214_0 := cl HB hx214_0
    replace p214 := eq_true p214; replace q214 := eq_true q214
    go_wp2_with (first | ((with_reducible refine gate_callee (f := 62) rfl ?_); refine goesL_ (some 21) rfl rfl Tryd.func62 (by kernel_rfl) rfl #[.int .i64 (rd l0 (ji6))] rfl (by (try simp only [List.map_toArray, List.map_cons, List.map_nil]); first | done | (simp only [hji6]; rfl) | rfl | (simp only [List.length_drop, List.length_take]; rfl)) ?_; (with_reducible refine (spec_l07Word.calls kj2 (rd l0 (ji6)) t215 _ A9.out).mono ?_); rintro e w29 ⟨rfl, hb⟩; refine ⟨_, rfl, ?_⟩; replace HB := am (below_step bB hb); (try clear hb); have p216 : 0 ≤ ((ji10) : Int) := od; have q216 : (ji10) < (l0.length : Int) := od; obtain ⟨ad216, e216, hx216_0⟩ := Kd.at_int HR0.out (ji10) p216 q216; obtain rfl : ad214 = ad216 := (by injection e216); replace hx216_0 := cl HB hx216_0; replace p216 := eq_true p216; replace q216 := eq_true q216) | ((with_reducible refine gate_callee (f := 62) rfl ?_); refine goesL_ (some 27) rfl rfl Tryd.func62 (by kernel_rfl) rfl #[.int .i64 (rd l0 (ji10))] rfl (by (try simp only [List.map_toArray, List.map_cons, List.map_nil]); first | done | (simp only [hji10]; rfl) | rfl | (simp only [List.length_drop, List.length_take]; rfl)) ?_; (with_reducible refine (spec_l07Word.calls kj2 (rd l0 (ji10)) t217 _ A13.out).mono ?_); rintro e w30 ⟨rfl, hb⟩; refine ⟨_, rfl, ?_⟩; replace HB := am (below_step bB hb); (try clear hb); have p218 : 0 ≤ (a1 : Int) := od; have q218 : a1 < (l0.length : Int) := od; obtain ⟨ad218, e218, hx218_0⟩ := Kd.at_int HR0.out a1 p218 q218; obtain rfl : ad214 = ad218 := (by injection e218); replace hx218_0 := cl HB hx218_0; replace p218 := eq_true p218; replace q218 := eq_true q218) | ((with_reducible refine gate_callee (f := 129) rfl ?_); refine gq 32 Tryd.func129 (spec_l07IsJoint.calls (rd l0 a1) true _ A16.out) fun nd => ?_; have p220 : 0 ≤ (a1 : Int) := od; have q220 : a1 < (l0.length : Int) := od; obtain ⟨ad220, e220, hx220_0⟩ := Kd.at_int HR0.out a1 p220 q220; obtain rfl : ad214 = ad220 := (by injection e220); replace hx220_0 := cl HB hx220_0; replace p220 := eq_true p220; replace q220 := eq_true q220) | (go_at_call 130; (with_reducible refine (spec_l07IsPoint.calls (rd l0 a1) false _ A22.out).mono ?_); rintro e w' ⟨rfl, ⟨nd, rfl⟩⟩))
    go_ret
    exact ⟨by first | rfl | (simp [errW_none, errW_some] <;> rfl) | (simp only [← hji6, ← hji10]; first | rfl | (simp [errW_none, errW_some] <;> rfl)) | (simp [*, errW_none, errW_some] <;> rfl), bB⟩
   subst c23
   replace H := iT H
   by_cases c24 : t215 = 2
   rotate_left
   ·rw [if_neg c24] at H
    have c24b0 : (t215 == 2) = false := beq_eq_false_iff_ne.mpr c24
    have c24b1 : (t215 != 2) = true := bne_iff_ne.mpr c24
    obtain rfl := Option.some.inj H
    have p214 : 0 ≤ ((ji6) : Int) := od
    have q214 : (ji6) < (l0.length : Int) := od
    obtain ⟨ad214, e214, hx214_0⟩ := Kd.at_int HR0.out (ji6) p214 q214
    cases e214
    replace hx214_0 := cl HB hx214_0
    replace p214 := eq_true p214; replace q214 := eq_true q214
    go_wp2_with (first | ((with_reducible refine gate_callee (f := 62) rfl ?_); refine goesL_ (some 21) rfl rfl Tryd.func62 (by kernel_rfl) rfl #[.int .i64 (rd l0 (ji6))] rfl (by (try simp only [List.map_toArray, List.map_cons, List.map_nil]); first | done | (simp only [hji6]; rfl) | rfl | (simp only [List.length_drop, List.length_take]; rfl)) ?_; (with_reducible refine (spec_l07Word.calls kj2 (rd l0 (ji6)) t215 _ A9.out).mono ?_); rintro e w27 ⟨rfl, hb⟩; refine ⟨_, rfl, ?_⟩; replace HB := am (below_step bB hb); (try clear hb); have p216 : 0 ≤ ((ji10) : Int) := od; have q216 : (ji10) < (l0.length : Int) := od; obtain ⟨ad216, e216, hx216_0⟩ := Kd.at_int HR0.out (ji10) p216 q216; obtain rfl : ad214 = ad216 := (by injection e216); replace hx216_0 := cl HB hx216_0; replace p216 := eq_true p216; replace q216 := eq_true q216) | ((with_reducible refine gate_callee (f := 62) rfl ?_); refine goesL_ (some 27) rfl rfl Tryd.func62 (by kernel_rfl) rfl #[.int .i64 (rd l0 (ji10))] rfl (by (try simp only [List.map_toArray, List.map_cons, List.map_nil]); first | done | (simp only [hji10]; rfl) | rfl | (simp only [List.length_drop, List.length_take]; rfl)) ?_; (with_reducible refine (spec_l07Word.calls kj2 (rd l0 (ji10)) t217 _ A13.out).mono ?_); rintro e w28 ⟨rfl, hb⟩; refine ⟨_, rfl, ?_⟩; replace HB := am (below_step bB hb); (try clear hb); have p218 : 0 ≤ (a1 : Int) := od; have q218 : a1 < (l0.length : Int) := od; obtain ⟨ad218, e218, hx218_0⟩ := Kd.at_int HR0.out a1 p218 q218; obtain rfl : ad214 = ad218 := (by injection e218); replace hx218_0 := cl HB hx218_0; replace p218 := eq_true p218; replace q218 := eq_true q218) | ((with_reducible refine gate_callee (f := 129) rfl ?_); refine gq 32 Tryd.func129 (spec_l07IsJoint.calls (rd l0 a1) true _ A16.out) fun nd => ?_; have p220 : 0 ≤ (a1 : Int) := od; have q220 : a1 < (l0.length : Int) := od; obtain ⟨ad220, e220, hx220_0⟩ := Kd.at_int HR0.out a1 p220 q220; obtain rfl : ad214 = ad220 := (by injection e220); replace hx220_0 := cl HB hx220_0; replace p220 := eq_true p220; replace q220 := eq_true q220) | (go_at_call 130; (with_reducible refine (spec_l07IsPoint.calls (rd l0 a1) true _ A22.out).mono ?_); rintro e w' ⟨rfl, ⟨nd, rfl⟩⟩))
    go_ret
    exact ⟨by first | rfl | (simp [errW_none, errW_some] <;> rfl) | (simp only [← hji6, ← hji10]; first | rfl | (simp [errW_none, errW_some] <;> rfl)) | (simp [*, errW_none, errW_some] <;> rfl), bB⟩
   rw [if_pos c24] at H
   have c24b0 : (t215 == 2) = true := beq_iff_eq.mpr c24
   have c24b1 : (t215 != 2) = false := bne_eq_false_iff_eq.mpr c24
   clear c24
   obtain rfl := Option.some.inj H
   have p214 : 0 ≤ ((ji6) : Int) := od
   have q214 : (ji6) < (l0.length : Int) := od
   obtain ⟨ad214, e214, hx214_0⟩ := Kd.at_int HR0.out (ji6) p214 q214
   cases e214
   replace hx214_0 := cl HB hx214_0
   replace p214 := eq_true p214; replace q214 := eq_true q214
   go_wp2_with (first | ((with_reducible refine gate_callee (f := 62) rfl ?_); refine goesL_ (some 21) rfl rfl Tryd.func62 (by kernel_rfl) rfl #[.int .i64 (rd l0 (ji6))] rfl (by (try simp only [List.map_toArray, List.map_cons, List.map_nil]); first | done | (simp only [hji6]; rfl) | rfl | (simp only [List.length_drop, List.length_take]; rfl)) ?_; (with_reducible refine (spec_l07Word.calls kj2 (rd l0 (ji6)) t215 _ A9.out).mono ?_); rintro e w25 ⟨rfl, hb⟩; refine ⟨_, rfl, ?_⟩; replace HB := am (below_step bB hb); (try clear hb); have p216 : 0 ≤ ((ji10) : Int) := od; have q216 : (ji10) < (l0.length : Int) := od; obtain ⟨ad216, e216, hx216_0⟩ := Kd.at_int HR0.out (ji10) p216 q216; obtain rfl : ad214 = ad216 := (by injection e216); replace hx216_0 := cl HB hx216_0; replace p216 := eq_true p216; replace q216 := eq_true q216) | ((with_reducible refine gate_callee (f := 62) rfl ?_); refine goesL_ (some 27) rfl rfl Tryd.func62 (by kernel_rfl) rfl #[.int .i64 (rd l0 (ji10))] rfl (by (try simp only [List.map_toArray, List.map_cons, List.map_nil]); first | done | (simp only [hji10]; rfl) | rfl | (simp only [List.length_drop, List.length_take]; rfl)) ?_; (with_reducible refine (spec_l07Word.calls kj2 (rd l0 (ji10)) t217 _ A13.out).mono ?_); rintro e w26 ⟨rfl, hb⟩; refine ⟨_, rfl, ?_⟩; replace HB := am (below_step bB hb); (try clear hb); have p218 : 0 ≤ (a1 : Int) := od; have q218 : a1 < (l0.length : Int) := od; obtain ⟨ad218, e218, hx218_0⟩ := Kd.at_int HR0.out a1 p218 q218; obtain rfl : ad214 = ad218 := (by injection e218); replace hx218_0 := cl HB hx218_0; replace p218 := eq_true p218; replace q218 := eq_true q218) | ((with_reducible refine gate_callee (f := 129) rfl ?_); refine gq 32 Tryd.func129 (spec_l07IsJoint.calls (rd l0 a1) true _ A16.out) fun nd => ?_; have p220 : 0 ≤ (a1 : Int) := od; have q220 : a1 < (l0.length : Int) := od; obtain ⟨ad220, e220, hx220_0⟩ := Kd.at_int HR0.out a1 p220 q220; obtain rfl : ad214 = ad220 := (by injection e220); replace hx220_0 := cl HB hx220_0; replace p220 := eq_true p220; replace q220 := eq_true q220) | (go_at_call 130; (with_reducible refine (spec_l07IsPoint.calls (rd l0 a1) true _ A22.out).mono ?_); rintro e w' ⟨rfl, ⟨nd, rfl⟩⟩))
   go_ret
   exact ⟨by first | rfl | (simp [errW_none, errW_some] <;> rfl) | (simp only [← hji6, ← hji10]; first | rfl | (simp [errW_none, errW_some] <;> rfl)) | (simp [*, errW_none, errW_some] <;> rfl), bB⟩
end Go.Proofs.YtmlhnpggjkoinaaDoor.PFnExactWords

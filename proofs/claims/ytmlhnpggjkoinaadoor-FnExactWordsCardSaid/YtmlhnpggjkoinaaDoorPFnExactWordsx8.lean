-- Written by a program of this session (wip/tools/myprint.py) that runs the kit's print with hooks of its own. Lean checks it.
import Derived.Test.YtmlhnpggjkoinaaDoorPFnExactWordsx0
import Derived.Test.YtmlhnpggjkoinaaDoorSlimMore
import Derived.Test.YtmlhnpggjkoinaaDoorPFnExactWordsx4
import Derived.Test.YtmlhnpggjkoinaaDoorPFnExactWordsx5
namespace Go.Proofs.YtmlhnpggjkoinaaDoor.PFnExactWords
open Go.RowKit Go.Proofs.YtmlhnpggjkoinaaDoorW.PrintWords Go.Proofs.YtmlhnpggjkoinaaDoorW.PrintLast Go.Proofs.YtmlhnpggjkoinaaDoorW.PrintMore
attribute [local go_sem] max2_int min2_int max_two min_two max_three min_three max_four min_four   -- for this text's walks alone
set_option linter.unusedVariables false
set_option linter.unusedSimpArgs false

/-! ### spec_l07Belongs: function 82 -/
def spec_l07Belongs.j0 : Nat → Int → Bool → Option (Bool)
 | 0, _, _ => none
 | k + 1, x1, x20 => if x20 = true then (some false) else ((spec_l07Control.f k x1).bind fun t207 => (if t207 = true then (some false) else ((spec_l01Cat.f k x1).bind fun t208 => (some (t208 != 2)))))
def spec_l07Belongs.f (k : Nat) (a0 : Int) (a1 : Int) : Option (Bool) := (spec_l07Mark.f k a0).bind fun t205 => (if t205 = true then (spec_l07Belongs.j0 k a1 false) else ((spec_l01Cat.f k a0).bind fun t206 => (if t206 = 11 then (if a0 = 7954 then (spec_l07Belongs.j0 k a1 true) else (spec_l07Belongs.j0 k a1 (a0 == 173))) else (spec_l07Belongs.j0 k a1 true))))
set_option maxHeartbeats 8000000 in
set_option maxRecDepth 100000 in
theorem spec_l07Belongs.calls (k : Nat) (a0 : Int) (a1 : Int) (r : Bool) (w : World) (h : spec_l07Belongs.f k a0 a1 = some r) :
  Calls Tryd.prog 82 #[.int .i64 a0, .int .i64 a1] w fun e w' => e = .returned (.bool r) ∧ Below w.heap.size w w' := by
 have HB := am (Below.refl w.heap.size w)
 have H : ((spec_l07Mark.f k a0).bind fun t205 => (if t205 = true then (spec_l07Belongs.j0 k a1 false) else ((spec_l01Cat.f k a0).bind fun t206 => (if t206 = 11 then (if a0 = 7954 then (spec_l07Belongs.j0 k a1 true) else (spec_l07Belongs.j0 k a1 (a0 == 173))) else (spec_l07Belongs.j0 k a1 true))))) = some r := h
 clear h
 have HC3 := am H
 clear H
 go_enter Tryd.func82, Tryd.ntmps82
 go_upto_region 1 with (fail)
 go_cut [20] (fun v20 wc => ∃ (kq : Nat) (x20_2 : Bool), v20 = .bool x20_2 ∧ Aside0 (spec_l07Belongs.j0 kq a1 x20_2 = some r) ∧ Aside0 (kq ≤ k) ∧ Aside0 (Below w.heap.size w wc))
 case first =>
  have H := HC3.out
  clear HC3
  obtain ⟨t205, A4, H⟩ := bb H
  by_cases c5 : t205 = true
  ·subst c5
   replace H := iT H
   have H' := am H
   clear H
   go_wp2_with (first | ((with_reducible refine gate_callee (f := 110) rfl ?_); refine gl 6 Tryd.func110 #[.int .i64 a0] ?_; (with_reducible refine (spec_l07Mark.calls k a0 true _ A4.out).mono ?_); rintro e w6 ⟨rfl, hb⟩; refine ⟨_, rfl, ?_⟩; replace HB := am (below_step bB hb); (try clear hb)))
   go_meet
   case rel => exact ⟨_, (false), sr, H', ⟨kl⟩, ⟨bB⟩⟩
  replace c5 := Bool.eq_false_iff.mpr c5
  subst c5
  replace H := iF H
  obtain ⟨t206, A7, H⟩ := bb H
  by_cases c8 : t206 = 11
  rotate_left
  ·rw [if_neg c8] at H
   have c8b0 : (t206 == 11) = false := beq_eq_false_iff_ne.mpr c8
   have c8b1 : (t206 != 11) = true := bne_iff_ne.mpr c8
   (first | rw [c8b0] | (simp only [i64_w, i32_w]; rw [c8b0]) | skip)
   have H' := am H
   clear H
   go_wp2_with (first | ((with_reducible refine gate_callee (f := 110) rfl ?_); refine gl 6 Tryd.func110 #[.int .i64 a0] ?_; (with_reducible refine (spec_l07Mark.calls k a0 false _ A4.out).mono ?_); rintro e w14 ⟨rfl, hb⟩; refine ⟨_, rfl, ?_⟩; replace HB := am (below_step bB hb); (try clear hb)) | (go_at_call 94; (with_reducible refine (spec_l01Cat.calls k a0 t206 _ A7.out).mono ?_); rintro e w15 ⟨rfl, hb⟩; replace HB := am (below_step bB hb); (try clear hb)))
   go_meet
   case rel => exact ⟨_, (true), sr, H', ⟨kl⟩, ⟨bB⟩⟩
  rw [if_pos c8] at H
  have c8b0 : (t206 == 11) = true := beq_iff_eq.mpr c8
  have c8b1 : (t206 != 11) = false := bne_eq_false_iff_eq.mpr c8
  clear c8
  (first | rw [c8b0] | (simp only [i64_w, i32_w]; rw [c8b0]) | skip)
  by_cases c9 : a0 = 7954
  rotate_left
  ·rw [if_neg c9] at H
   have c9b0 : (a0 == 7954) = false := beq_eq_false_iff_ne.mpr c9
   have c9b1 : (a0 != 7954) = true := bne_iff_ne.mpr c9
   have H' := am H
   clear H
   go_wp2_with (first | ((with_reducible refine gate_callee (f := 110) rfl ?_); refine gl 6 Tryd.func110 #[.int .i64 a0] ?_; (with_reducible refine (spec_l07Mark.calls k a0 false _ A4.out).mono ?_); rintro e w12 ⟨rfl, hb⟩; refine ⟨_, rfl, ?_⟩; replace HB := am (below_step bB hb); (try clear hb)) | (go_at_call 94; (with_reducible refine (spec_l01Cat.calls k a0 t206 _ A7.out).mono ?_); rintro e w13 ⟨rfl, hb⟩; replace HB := am (below_step bB hb); (try clear hb)))
   go_meet
   case rel => exact ⟨_, ((a0 == 173)), sr, H', ⟨kl⟩, ⟨bB⟩⟩
  rw [if_pos c9] at H
  have c9b0 : (a0 == 7954) = true := beq_iff_eq.mpr c9
  have c9b1 : (a0 != 7954) = false := bne_eq_false_iff_eq.mpr c9
  clear c9
  have H' := am H
  clear H
  go_wp2_with (first | ((with_reducible refine gate_callee (f := 110) rfl ?_); refine gl 6 Tryd.func110 #[.int .i64 a0] ?_; (with_reducible refine (spec_l07Mark.calls k a0 false _ A4.out).mono ?_); rintro e w10 ⟨rfl, hb⟩; refine ⟨_, rfl, ?_⟩; replace HB := am (below_step bB hb); (try clear hb)) | (go_at_call 94; (with_reducible refine (spec_l01Cat.calls k a0 t206 _ A7.out).mono ?_); rintro e w11 ⟨rfl, hb⟩; replace HB := am (below_step bB hb); (try clear hb)))
  go_meet
  case rel => exact ⟨_, (true), sr, H', ⟨kl⟩, ⟨bB⟩⟩
 case rest =>
  clear HC3
  obtain ⟨kq, x20_2, rfl, HA, HJ2, HB⟩ := hcut
  cases kq with
  | zero => exact absurd HA.out (by simp [spec_l07Belongs.j0])
  | succ kj2 =>
   have H := HA.out
   clear HA
   simp only [spec_l07Belongs.j0] at H
   by_cases c16 : x20_2 = true
   ·subst c16
    replace H := iT H
    obtain rfl := Option.some.inj H
    go_wp2
    go_ret
    exact ⟨rv, bB⟩
   replace c16 := Bool.eq_false_iff.mpr c16
   subst c16
   replace H := iF H
   obtain ⟨t207, A17, H⟩ := bb H
   by_cases c18 : t207 = true
   ·subst c18
    replace H := iT H
    obtain rfl := Option.some.inj H
    go_wp2_with (first | ((with_reducible refine gate_callee (f := 108) rfl ?_); refine gl 22 Tryd.func108 #[.int .i64 a1] ?_; (with_reducible refine (spec_l07Control.calls kj2 a1 true _ A17.out).mono ?_); rintro e w19 ⟨rfl, hb⟩; refine ⟨_, rfl, ?_⟩; replace HB := am (below_step bB hb); (try clear hb)))
    go_ret
    exact ⟨rv, bB⟩
   replace c18 := Bool.eq_false_iff.mpr c18
   subst c18
   replace H := iF H
   obtain ⟨t208, A20, H⟩ := bb H
   obtain rfl := Option.some.inj H
   go_wp2_with (first | ((with_reducible refine gate_callee (f := 108) rfl ?_); refine gl 22 Tryd.func108 #[.int .i64 a1] ?_; (with_reducible refine (spec_l07Control.calls kj2 a1 false _ A17.out).mono ?_); rintro e w21 ⟨rfl, hb⟩; refine ⟨_, rfl, ?_⟩; replace HB := am (below_step bB hb); (try clear hb)) | (go_at_call 94; (with_reducible refine (spec_l01Cat.calls kj2 a1 t208 _ A20.out).mono ?_); rintro e w22 ⟨rfl, hb⟩; replace HB := am (below_step bB hb); (try clear hb)))
   go_ret
   exact ⟨rv, bB⟩
/-! ### spec_l01Script: function 63 -/
def spec_l01Script.f (k : Nat) (a0 : Int) : Option (Int) := (spec_l01Known.f k a0).bind fun bt209 => (some bt209.2)
set_option maxHeartbeats 8000000 in
set_option maxRecDepth 100000 in
theorem spec_l01Script.calls (k : Nat) (a0 : Int) (r : Int) (w : World) (h : spec_l01Script.f k a0 = some r) :
  Calls Tryd.prog 63 #[.int .i64 a0] w fun e w' => e = .returned (.int .i64 r) ∧ Below w.heap.size w w' := by
 have HB := am (Below.refl w.heap.size w)
 have H : ((spec_l01Known.f k a0).bind fun bt209 => (some bt209.2)) = some r := h
 clear h
 replace H := Option.bind_eq_some_iff.mp H
 obtain ⟨⟨t209, t210⟩, A20, H⟩ := H
 replace H : (some t210) = some r := H
 have A2 := am A20
 clear A20
 obtain rfl := Option.some.inj H
 go_enter Tryd.func63, Tryd.ntmps63
 go_wp2_with (first | ((with_reducible refine gate_callee (f := 95) rfl ?_); refine gl 7 Tryd.func95 #[.int .i64 a0] ?_; (with_reducible refine (spec_l01Known.calls k a0 t209 t210 _ A2.out).mono ?_); rintro e w3 ⟨rfl, hb⟩; refine ⟨_, rfl, ?_⟩; replace HB := am (below_step bB hb); (try clear hb)))
 go_ret
 exact ⟨rv, bB⟩
/-! ### spec_l07Word: function 62 -/
mutual
def spec_l07Word.j0 : Nat → Int → Int → Bool → Option (Int)
 | 0, _, _, _ => none
 | k + 1, x0, x3, x9 => if x9 = true then (some 5) else ((spec_l01Script.f k x0).bind fun t213 => (if t213 = 9 then (spec_l07Word.j1 k x0 false) else (if x3 = 4 then (spec_l07Word.j1 k x0 true) else (if x3 = 5 then (spec_l07Word.j1 k x0 true) else (if x3 = 6 then (spec_l07Word.j1 k x0 true) else (spec_l07Word.j1 k x0 (x3 == 7)))))))
def spec_l07Word.j1 : Nat → Int → Bool → Option (Int)
 | 0, _, _ => none
 | k + 1, x0, x17 => if x17 = true then (some 1) else (if x0 = 95 then (some 3) else (some 0))
end
def spec_l07Word.f (k : Nat) (a0 : Int) : Option (Int) := (spec_l01Cat.f k a0).bind fun t211 => (if t211 = 8 then (some 2) else ((spec_l01Script.f k a0).bind fun t212 => (if t212 = 8 then (spec_l07Word.j0 k a0 t211 (t211 == 7)) else (spec_l07Word.j0 k a0 t211 false))))
set_option maxHeartbeats 8000000 in
set_option maxRecDepth 100000 in
theorem spec_l07Word.calls (k : Nat) (a0 : Int) (r : Int) (w : World) (h : spec_l07Word.f k a0 = some r) :
  Calls Tryd.prog 62 #[.int .i64 a0] w fun e w' => e = .returned (.int .i64 r) ∧ Below w.heap.size w w' := by
 have HB := am (Below.refl w.heap.size w)
 have H : ((spec_l01Cat.f k a0).bind fun t211 => (if t211 = 8 then (some 2) else ((spec_l01Script.f k a0).bind fun t212 => (if t212 = 8 then (spec_l07Word.j0 k a0 t211 (t211 == 7)) else (spec_l07Word.j0 k a0 t211 false))))) = some r := h
 clear h
 obtain ⟨t211, A2, H⟩ := bb H
 by_cases c3 : t211 = 8
 ·rw [if_pos c3] at H
  have c3b0 : (t211 == 8) = true := beq_iff_eq.mpr c3
  have c3b1 : (t211 != 8) = false := bne_eq_false_iff_eq.mpr c3
  clear c3
  obtain rfl := Option.some.inj H
  go_enter Tryd.func62, Tryd.ntmps62
  go_wp2_with (first | ((with_reducible refine gate_callee (f := 94) rfl ?_); refine gl 5 Tryd.func94 #[.int .i64 a0] ?_; (with_reducible refine (spec_l01Cat.calls k a0 t211 _ A2.out).mono ?_); rintro e w4 ⟨rfl, hb⟩; refine ⟨_, rfl, ?_⟩; replace HB := am (below_step bB hb); (try clear hb)))
  go_ret
  exact ⟨rv, bB⟩
 rw [if_neg c3] at H
 have c3b0 : (t211 == 8) = false := beq_eq_false_iff_ne.mpr c3
 have c3b1 : (t211 != 8) = true := bne_iff_ne.mpr c3
 have HC5 := am H
 clear H
 go_enter Tryd.func62, Tryd.ntmps62
 go_upto_region 4 with (first | ((with_reducible refine gate_callee (f := 94) rfl ?_); refine gl 5 Tryd.func94 #[.int .i64 a0] ?_; (with_reducible refine (spec_l01Cat.calls k a0 t211 _ A2.out).mono ?_); rintro e w6 ⟨rfl, hb⟩; refine ⟨_, rfl, ?_⟩; replace HB := am (below_step bB hb); (try clear hb)))
 (try simp only [Act.put, List.setIfInBounds_toArray, List.set_cons_zero, List.set_cons_succ])
 go_cut [9] (fun v9 wc => ∃ (kq : Nat) (x9_4 : Bool), v9 = .bool x9_4 ∧ Aside0 (spec_l07Word.j0 kq a0 t211 x9_4 = some r) ∧ Aside0 (kq ≤ k) ∧ Aside0 (Below w.heap.size w wc))
 case first =>
  have H := HC5.out
  clear HC5
  obtain ⟨t212, A7, H⟩ := bb H
  by_cases c8 : t212 = 8
  rotate_left
  ·rw [if_neg c8] at H
   have c8b0 : (t212 == 8) = false := beq_eq_false_iff_ne.mpr c8
   have c8b1 : (t212 != 8) = true := bne_iff_ne.mpr c8
   (first | rw [c8b0] | (simp only [i64_w, i32_w]; rw [c8b0]) | skip)
   have H' := am H
   clear H
   go_wp2_with (first | ((with_reducible refine gate_callee (f := 63) rfl ?_); refine gl 11 Tryd.func63 #[.int .i64 a0] ?_; (with_reducible refine (spec_l01Script.calls k a0 t212 _ A7.out).mono ?_); rintro e w10 ⟨rfl, hb⟩; refine ⟨_, rfl, ?_⟩; replace HB := am (below_step bB hb); (try clear hb)))
   go_meet
   case rel => exact ⟨_, (false), sr, H', ⟨kl⟩, ⟨bB⟩⟩
  rw [if_pos c8] at H
  have c8b0 : (t212 == 8) = true := beq_iff_eq.mpr c8
  have c8b1 : (t212 != 8) = false := bne_eq_false_iff_eq.mpr c8
  clear c8
  (first | rw [c8b0] | (simp only [i64_w, i32_w]; rw [c8b0]) | skip)
  have H' := am H
  clear H
  go_wp2_with (first | ((with_reducible refine gate_callee (f := 63) rfl ?_); refine gl 11 Tryd.func63 #[.int .i64 a0] ?_; (with_reducible refine (spec_l01Script.calls k a0 t212 _ A7.out).mono ?_); rintro e w9 ⟨rfl, hb⟩; refine ⟨_, rfl, ?_⟩; replace HB := am (below_step bB hb); (try clear hb)))
  go_meet
  case rel => exact ⟨_, ((t211 == 7)), sr, H', ⟨kl⟩, ⟨bB⟩⟩
 case rest =>
  clear HC5
  try clear c3
  try clear c3b0
  try clear c3b1
  obtain ⟨kq, x9_4, rfl, HA, HJ4, HB⟩ := hcut
  cases kq with
  | zero => exact absurd HA.out (by simp [spec_l07Word.j0])
  | succ kj4 =>
   have H := HA.out
   clear HA
   simp only [spec_l07Word.j0] at H
   by_cases c11 : x9_4 = true
   ·subst c11
    replace H := iT H
    obtain rfl := Option.some.inj H
    go_wp2
    go_ret
    exact ⟨rv, bB⟩
   replace c11 := Bool.eq_false_iff.mpr c11
   subst c11
   replace H := iF H
   have HC12 := am H
   clear H
   go_upto_region 6 with (fail)
   go_cut [17] (fun v17 wc => ∃ (kq : Nat) (x17_11 : Bool), v17 = .bool x17_11 ∧ Aside0 (spec_l07Word.j1 kq a0 x17_11 = some r) ∧ Aside0 (kq ≤ kj4) ∧ Aside0 (Below w.heap.size w wc))
   case first =>
    have H := HC12.out
    clear HC12
    obtain ⟨t213, A13, H⟩ := bb H
    by_cases c14 : t213 = 9
    ·rw [if_pos c14] at H
     have c14b0 : (t213 == 9) = true := beq_iff_eq.mpr c14
     have c14b1 : (t213 != 9) = false := bne_eq_false_iff_eq.mpr c14
     clear c14
     (first | rw [c14b0] | (simp only [i64_w, i32_w]; rw [c14b0]) | skip)
     have H' := am H
     clear H
     go_wp2_with (first | ((with_reducible refine gate_callee (f := 63) rfl ?_); refine gl 19 Tryd.func63 #[.int .i64 a0] ?_; (with_reducible refine (spec_l01Script.calls kj4 a0 t213 _ A13.out).mono ?_); rintro e w15 ⟨rfl, hb⟩; refine ⟨_, rfl, ?_⟩; replace HB := am (below_step bB hb); (try clear hb)))
     go_meet
     case rel => exact ⟨_, (false), sr, H', ⟨kl⟩, ⟨bB⟩⟩
    rw [if_neg c14] at H
    have c14b0 : (t213 == 9) = false := beq_eq_false_iff_ne.mpr c14
    have c14b1 : (t213 != 9) = true := bne_iff_ne.mpr c14
    (first | rw [c14b0] | (simp only [i64_w, i32_w]; rw [c14b0]) | skip)
    by_cases c16 : t211 = 4
    ·rw [if_pos c16] at H
     have c16b0 : (t211 == 4) = true := beq_iff_eq.mpr c16
     have c16b1 : (t211 != 4) = false := bne_eq_false_iff_eq.mpr c16
     clear c16
     have H' := am H
     clear H
     go_wp2_with (first | ((with_reducible refine gate_callee (f := 63) rfl ?_); refine gl 19 Tryd.func63 #[.int .i64 a0] ?_; (with_reducible refine (spec_l01Script.calls kj4 a0 t213 _ A13.out).mono ?_); rintro e w17 ⟨rfl, hb⟩; refine ⟨_, rfl, ?_⟩; replace HB := am (below_step bB hb); (try clear hb)))
     go_meet
     case rel => exact ⟨_, (true), sr, H', ⟨kl⟩, ⟨bB⟩⟩
    rw [if_neg c16] at H
    have c16b0 : (t211 == 4) = false := beq_eq_false_iff_ne.mpr c16
    have c16b1 : (t211 != 4) = true := bne_iff_ne.mpr c16
    by_cases c18 : t211 = 5
    ·rw [if_pos c18] at H
     have c18b0 : (t211 == 5) = true := beq_iff_eq.mpr c18
     have c18b1 : (t211 != 5) = false := bne_eq_false_iff_eq.mpr c18
     clear c18
     have H' := am H
     clear H
     go_wp2_with (first | ((with_reducible refine gate_callee (f := 63) rfl ?_); refine gl 19 Tryd.func63 #[.int .i64 a0] ?_; (with_reducible refine (spec_l01Script.calls kj4 a0 t213 _ A13.out).mono ?_); rintro e w19 ⟨rfl, hb⟩; refine ⟨_, rfl, ?_⟩; replace HB := am (below_step bB hb); (try clear hb)))
     go_meet
     case rel => exact ⟨_, (true), sr, H', ⟨kl⟩, ⟨bB⟩⟩
    rw [if_neg c18] at H
    have c18b0 : (t211 == 5) = false := beq_eq_false_iff_ne.mpr c18
    have c18b1 : (t211 != 5) = true := bne_iff_ne.mpr c18
    by_cases c20 : t211 = 6
    rotate_left
    ·rw [if_neg c20] at H
     have c20b0 : (t211 == 6) = false := beq_eq_false_iff_ne.mpr c20
     have c20b1 : (t211 != 6) = true := bne_iff_ne.mpr c20
     have H' := am H
     clear H
     go_wp2_with (first | ((with_reducible refine gate_callee (f := 63) rfl ?_); refine gl 19 Tryd.func63 #[.int .i64 a0] ?_; (with_reducible refine (spec_l01Script.calls kj4 a0 t213 _ A13.out).mono ?_); rintro e w22 ⟨rfl, hb⟩; refine ⟨_, rfl, ?_⟩; replace HB := am (below_step bB hb); (try clear hb)))
     go_meet
     case rel => exact ⟨_, ((t211 == 7)), sr, H', ⟨kl⟩, ⟨bB⟩⟩
    rw [if_pos c20] at H
    have c20b0 : (t211 == 6) = true := beq_iff_eq.mpr c20
    have c20b1 : (t211 != 6) = false := bne_eq_false_iff_eq.mpr c20
    clear c20
    have H' := am H
    clear H
    go_wp2_with (first | ((with_reducible refine gate_callee (f := 63) rfl ?_); refine gl 19 Tryd.func63 #[.int .i64 a0] ?_; (with_reducible refine (spec_l01Script.calls kj4 a0 t213 _ A13.out).mono ?_); rintro e w21 ⟨rfl, hb⟩; refine ⟨_, rfl, ?_⟩; replace HB := am (below_step bB hb); (try clear hb)))
    go_meet
    case rel => exact ⟨_, (true), sr, H', ⟨kl⟩, ⟨bB⟩⟩
   case rest =>
    clear HC12
    try clear c11
    obtain ⟨kq, x17_11, rfl, HA, HJ11, HB⟩ := hcut
    cases kq with
    | zero => exact absurd HA.out (by simp [spec_l07Word.j1])
    | succ kj11 =>
     have H := HA.out
     clear HA
     simp only [spec_l07Word.j1] at H
     by_cases c23 : x17_11 = true
     ·subst c23
      replace H := iT H
      obtain rfl := Option.some.inj H
      go_wp2
      go_ret
      exact ⟨rv, bB⟩
     replace c23 := Bool.eq_false_iff.mpr c23
     subst c23
     replace H := iF H
     by_cases c24 : a0 = 95
     rotate_left
     ·rw [if_neg c24] at H
      have c24b0 : (a0 == 95) = false := beq_eq_false_iff_ne.mpr c24
      have c24b1 : (a0 != 95) = true := bne_iff_ne.mpr c24
      obtain rfl := Option.some.inj H
      go_wp2
      go_ret
      exact ⟨rv, bB⟩
     rw [if_pos c24] at H
     have c24b0 : (a0 == 95) = true := beq_iff_eq.mpr c24
     have c24b1 : (a0 != 95) = false := bne_eq_false_iff_eq.mpr c24
     clear c24
     obtain rfl := Option.some.inj H
     go_wp2
     go_ret
     exact ⟨rv, bB⟩
/-! ### spec_l07IsJoint: function 129 -/
def spec_l07IsJoint.f (a0 : Int) : Option (Bool) := if a0 = 39 then (some true) else (if a0 = 46 then (some true) else (some (a0 == 58)))
set_option maxHeartbeats 8000000 in
set_option maxRecDepth 100000 in
theorem spec_l07IsJoint.calls (a0 : Int) (r : Bool) (w : World) (h : spec_l07IsJoint.f a0 = some r) :
  Calls Tryd.prog 129 #[.int .i64 a0] w fun e w' => e = .returned (.bool r) ∧ Drawn0 w w' := by
 have H : (if a0 = 39 then (some true) else (if a0 = 46 then (some true) else (some (a0 == 58)))) = some r := h
 clear h
 by_cases c2 : a0 = 39
 ·rw [if_pos c2] at H
  have c2b0 : (a0 == 39) = true := beq_iff_eq.mpr c2
  have c2b1 : (a0 != 39) = false := bne_eq_false_iff_eq.mpr c2
  clear c2
  obtain rfl := Option.some.inj H
  go_enter Tryd.func129, Tryd.ntmps129
  go_wp2
  go_ret
  exact rdd
 rw [if_neg c2] at H
 have c2b0 : (a0 == 39) = false := beq_eq_false_iff_ne.mpr c2
 have c2b1 : (a0 != 39) = true := bne_iff_ne.mpr c2
 by_cases c3 : a0 = 46
 rotate_left
 ·rw [if_neg c3] at H
  have c3b0 : (a0 == 46) = false := beq_eq_false_iff_ne.mpr c3
  have c3b1 : (a0 != 46) = true := bne_iff_ne.mpr c3
  obtain rfl := Option.some.inj H
  go_enter Tryd.func129, Tryd.ntmps129
  go_wp2
  go_ret
  exact rdd
 rw [if_pos c3] at H
 have c3b0 : (a0 == 46) = true := beq_iff_eq.mpr c3
 have c3b1 : (a0 != 46) = false := bne_eq_false_iff_eq.mpr c3
 clear c3
 obtain rfl := Option.some.inj H
 go_enter Tryd.func129, Tryd.ntmps129
 go_wp2
 go_ret
 exact rdd
/-! ### spec_l07IsPoint: function 130 -/
def spec_l07IsPoint.f (a0 : Int) : Option (Bool) := if a0 = 46 then (some true) else (some (a0 == 44))
set_option maxHeartbeats 8000000 in
set_option maxRecDepth 100000 in
theorem spec_l07IsPoint.calls (a0 : Int) (r : Bool) (w : World) (h : spec_l07IsPoint.f a0 = some r) :
  Calls Tryd.prog 130 #[.int .i64 a0] w fun e w' => e = .returned (.bool r) ∧ Drawn0 w w' := by
 have H : (if a0 = 46 then (some true) else (some (a0 == 44))) = some r := h
 clear h
 by_cases c2 : a0 = 46
 rotate_left
 ·rw [if_neg c2] at H
  have c2b0 : (a0 == 46) = false := beq_eq_false_iff_ne.mpr c2
  have c2b1 : (a0 != 46) = true := bne_iff_ne.mpr c2
  obtain rfl := Option.some.inj H
  go_enter Tryd.func130, Tryd.ntmps130
  go_wp2
  go_ret
  exact rdd
 rw [if_pos c2] at H
 have c2b0 : (a0 == 46) = true := beq_iff_eq.mpr c2
 have c2b1 : (a0 != 46) = false := bne_eq_false_iff_eq.mpr c2
 clear c2
 obtain rfl := Option.some.inj H
 go_enter Tryd.func130, Tryd.ntmps130
 go_wp2
 go_ret
 exact rdd
end Go.Proofs.YtmlhnpggjkoinaaDoor.PFnExactWords

-- Written by a program of this session: what the printed functions compute.
import Derived.Test.YtnbedmihgnjdpaaDoorPFnExactCollatorFaultx0
import Derived.Test.YtnbedmihgnjdpaaDoorSlimMore
import Derived.Test.YtnbedmihgnjdpaaDoorPFnExactCollatorFaultx8
import Derived.Test.YtnbedmihgnjdpaaDoorPFnExactCollatorFaultx12
namespace Go.Proofs.YtnbedmihgnjdpaaDoor.PFnExactCollatorFault
open Go.RowKit Go.Proofs.YtnbedmihgnjdpaaDoorW.PrintWords Go.Proofs.YtnbedmihgnjdpaaDoorW.PrintLast Go.Proofs.YtnbedmihgnjdpaaDoorW.PrintMore
attribute [local go_sem] max2_int min2_int max_two min_two max_three min_three max_four min_four
set_option linter.unusedVariables false
set_option linter.unusedSimpArgs false
def utf8_ValidString.f (a0 : ByteArray) : Option Bool := if a0.size ≤ 9223372036854775807 then some (Go.Lib.validD a0.data.toList) else none
theorem utf8_ValidString.calls (a0 : ByteArray) (r : Bool) (w : World) (hG : GL w) (h : utf8_ValidString.f a0 = some r) :
  Calls Tryd.prog 69 #[.string a0] w fun e w' => e = .returned (.bool r) ∧ Below w.heap.size w w' := by
 unfold utf8_ValidString.f at h
 by_cases c : a0.size ≤ 9223372036854775807
 ·rw [if_pos c] at h
  obtain rfl := Option.some.inj h
  exact Go.Proofs.Any.utf8_ValidString Tryd.laysValid a0 w c hG
 ·rw [if_neg c] at h
  cases h
def impl_well.f (a0 : ByteArray) : Option (Bool) := (utf8_ValidString.f a0).bind fun t474 => (some t474)
set_option maxHeartbeats 8000000 in
set_option maxRecDepth 100000 in
theorem impl_well.calls (a0 : ByteArray) (r : Bool) (w : World) (hG : GL w) (h : impl_well.f a0 = some r) :
  Calls Tryd.prog 44 #[.string a0] w fun e w' => e = .returned (.bool r) ∧ Below w.heap.size w w' := by
 have HGL := am hG
 clear hG
 have HB := am (Below.refl w.heap.size w)
 have H : ((utf8_ValidString.f a0).bind fun t474 => (some t474)) = some r := h
 clear h
 replace H := Option.bind_eq_some_iff.mp H
 obtain ⟨t474, A20, H⟩ := H
 replace H : (some t474) = some r := H
 have A2 := am A20
 clear A20
 obtain rfl := Option.some.inj H
 go_enter Tryd.func44, Tryd.ntmps44
 go_wp2_with (first | ((with_reducible refine gate_callee (f := 69) rfl ?_); refine gl 4 Tryd.func69 #[.string a0] ?_; (with_reducible refine (utf8_ValidString.calls a0 t474 _ ?side1 A2.out).mono ?_); (case side1 => first | exact HGL.out | exact GL_below HGL.out bB); rintro e w3 ⟨rfl, hb⟩; refine ⟨_, rfl, ?_⟩; replace HB := am (below_step bB hb); (try clear hb); (try clear hb2); (try clear hk); (try clear hi)))
 go_ret
 exact ⟨rv, bB⟩
def impl_IsNormal.f (k : Nat) (a0 : Int) (a1 : ByteArray) : Option (Bool) := (impl_long.f a1).bind fun t475 => (if t475 = true then (some false) else ((impl_isNorm.f a0).bind fun t476 => (if t476 = true then ((impl_well.f a1).bind fun t477 => (if t477 = true then ((impl_norm.f k a0 a1).bind fun t478 => (some (t478.toList == a1.toList))) else (some false))) else (some false))))
set_option maxHeartbeats 8000000 in
set_option maxRecDepth 100000 in
theorem impl_IsNormal.calls (k : Nat) (a0 : Int) (a1 : ByteArray) (r : Bool) (w : World) (hG : GL w) (h : impl_IsNormal.f k a0 a1 = some r) :
  Calls Tryd.prog 15 #[.int .i64 a0, .string a1] w fun e w' => e = .returned (.bool r) ∧ Below w.heap.size w w' := by
 have HGL := am hG
 clear hG
 have HB := am (Below.refl w.heap.size w)
 have H : ((impl_long.f a1).bind fun t475 => (if t475 = true then (some false) else ((impl_isNorm.f a0).bind fun t476 => (if t476 = true then ((impl_well.f a1).bind fun t477 => (if t477 = true then ((impl_norm.f k a0 a1).bind fun t478 => (some (t478.toList == a1.toList))) else (some false))) else (some false))))) = some r := h
 clear h
 replace H := Option.bind_eq_some_iff.mp H
 obtain ⟨t475, A30, H⟩ := H
 replace H : (if t475 = true then (some false) else ((impl_isNorm.f a0).bind fun t476 => (if t476 = true then ((impl_well.f a1).bind fun t477 => (if t477 = true then ((impl_norm.f k a0 a1).bind fun t478 => (some (t478.toList == a1.toList))) else (some false))) else (some false)))) = some r := H
 have A3 := am A30
 clear A30
 by_cases c4 : t475 = true
 ·subst c4
  have H1 : (some false) = some r := by rw [if_pos rfl] at H; exact H
  clear H
  have H := H1
  clear H1
  obtain rfl := Option.some.inj H
  go_enter Tryd.func15, Tryd.ntmps15
  go_wp2_with (first | ((with_reducible refine gate_callee (f := 39) rfl ?_); refine gl 6 Tryd.func39 #[.string a1] ?_; (with_reducible refine (impl_long.calls a1 true _ A3.out).mono ?_); rintro e w' ⟨rfl, ⟨nd, rfl⟩⟩; refine ⟨_, rfl, ?_⟩))
  go_ret
  exact ⟨rv, bB⟩
 ·replace c4 := Bool.eq_false_iff.mpr c4
  subst c4
  have H1 : ((impl_isNorm.f a0).bind fun t476 => (if t476 = true then ((impl_well.f a1).bind fun t477 => (if t477 = true then ((impl_norm.f k a0 a1).bind fun t478 => (some (t478.toList == a1.toList))) else (some false))) else (some false))) = some r := by rw [if_neg (show ¬ (false = true) by decide)] at H; exact H
  clear H
  have H := H1
  clear H1
  replace H := Option.bind_eq_some_iff.mp H
  obtain ⟨t476, A50, H⟩ := H
  replace H : (if t476 = true then ((impl_well.f a1).bind fun t477 => (if t477 = true then ((impl_norm.f k a0 a1).bind fun t478 => (some (t478.toList == a1.toList))) else (some false))) else (some false)) = some r := H
  have A5 := am A50
  clear A50
  by_cases c6 : t476 = true
  ·subst c6
   have H1 : ((impl_well.f a1).bind fun t477 => (if t477 = true then ((impl_norm.f k a0 a1).bind fun t478 => (some (t478.toList == a1.toList))) else (some false))) = some r := by rw [if_pos rfl] at H; exact H
   clear H
   have H := H1
   clear H1
   replace H := Option.bind_eq_some_iff.mp H
   obtain ⟨t477, A70, H⟩ := H
   replace H : (if t477 = true then ((impl_norm.f k a0 a1).bind fun t478 => (some (t478.toList == a1.toList))) else (some false)) = some r := H
   have A7 := am A70
   clear A70
   by_cases c8 : t477 = true
   ·subst c8
    have H1 : ((impl_norm.f k a0 a1).bind fun t478 => (some (t478.toList == a1.toList))) = some r := by rw [if_pos rfl] at H; exact H
    clear H
    have H := H1
    clear H1
    replace H := Option.bind_eq_some_iff.mp H
    obtain ⟨t478, A90, H⟩ := H
    replace H : (some (t478.toList == a1.toList)) = some r := H
    have A9 := am A90
    clear A90
    obtain rfl := Option.some.inj H
    go_enter Tryd.func15, Tryd.ntmps15
    go_wp2_with (first | ((with_reducible refine gate_callee (f := 39) rfl ?_); refine gl 6 Tryd.func39 #[.string a1] ?_; (with_reducible refine (impl_long.calls a1 false _ A3.out).mono ?_); rintro e w' ⟨rfl, ⟨nd, rfl⟩⟩; refine ⟨_, rfl, ?_⟩) | (go_at_call 40; (with_reducible refine (impl_isNorm.calls a0 true _ A5.out).mono ?_); rintro e w' ⟨rfl, ⟨nd, rfl⟩⟩) | (go_at_call 44; (with_reducible refine (impl_well.calls a1 true _ ?side1 A7.out).mono ?_); (case side1 => first | exact HGL.out | exact GL_below HGL.out bB); rintro e w10 ⟨rfl, hb⟩; replace HB := am (below_step bB hb); (try clear hb); (try clear hb2); (try clear hk); (try clear hi)) | (go_at_call 42; (with_reducible refine (impl_norm.calls k a0 a1 t478 _ ?side1 A9.out).mono ?_); (case side1 => first | exact HGL.out | exact GL_below HGL.out bB); rintro e w11 ⟨rfl, hb⟩; replace HB := am (below_step bB hb); (try clear hb); (try clear hb2); (try clear hk); (try clear hi)))
    go_ret
    exact ⟨rv, bB⟩
   ·replace c8 := Bool.eq_false_iff.mpr c8
    subst c8
    have H1 : (some false) = some r := by rw [if_neg (show ¬ (false = true) by decide)] at H; exact H
    clear H
    have H := H1
    clear H1
    obtain rfl := Option.some.inj H
    go_enter Tryd.func15, Tryd.ntmps15
    go_wp2_with (first | ((with_reducible refine gate_callee (f := 39) rfl ?_); refine gl 6 Tryd.func39 #[.string a1] ?_; (with_reducible refine (impl_long.calls a1 false _ A3.out).mono ?_); rintro e w' ⟨rfl, ⟨nd, rfl⟩⟩; refine ⟨_, rfl, ?_⟩) | (go_at_call 40; (with_reducible refine (impl_isNorm.calls a0 true _ A5.out).mono ?_); rintro e w' ⟨rfl, ⟨nd, rfl⟩⟩) | (go_at_call 44; (with_reducible refine (impl_well.calls a1 false _ ?side1 A7.out).mono ?_); (case side1 => first | exact HGL.out | exact GL_below HGL.out bB); rintro e w12 ⟨rfl, hb⟩; replace HB := am (below_step bB hb); (try clear hb); (try clear hb2); (try clear hk); (try clear hi)))
    go_ret
    exact ⟨rv, bB⟩
  ·replace c6 := Bool.eq_false_iff.mpr c6
   subst c6
   have H1 : (some false) = some r := by rw [if_neg (show ¬ (false = true) by decide)] at H; exact H
   clear H
   have H := H1
   clear H1
   obtain rfl := Option.some.inj H
   go_enter Tryd.func15, Tryd.ntmps15
   go_wp2_with (first | ((with_reducible refine gate_callee (f := 39) rfl ?_); refine gl 6 Tryd.func39 #[.string a1] ?_; (with_reducible refine (impl_long.calls a1 false _ A3.out).mono ?_); rintro e w' ⟨rfl, ⟨nd, rfl⟩⟩; refine ⟨_, rfl, ?_⟩) | (go_at_call 40; (with_reducible refine (impl_isNorm.calls a0 false _ A5.out).mono ?_); rintro e w' ⟨rfl, ⟨nd, rfl⟩⟩))
   go_ret
   exact ⟨rv, bB⟩
end Go.Proofs.YtnbedmihgnjdpaaDoor.PFnExactCollatorFault

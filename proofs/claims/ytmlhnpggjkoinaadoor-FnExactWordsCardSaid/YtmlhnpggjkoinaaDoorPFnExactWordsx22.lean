-- Written by a program of this session (wip/tools/myprint.py) that runs the kit's print with hooks of its own. Lean checks it.
import Derived.Test.YtmlhnpggjkoinaaDoorPFnExactWordsx0
import Derived.Test.YtmlhnpggjkoinaaDoorSlimMore
import Derived.Test.YtmlhnpggjkoinaaDoorPFnExactWordsx1
import Derived.Test.YtmlhnpggjkoinaaDoorPFnExactWordsx2
import Derived.Test.YtmlhnpggjkoinaaDoorPFnExactWordsx12
import Derived.Test.YtmlhnpggjkoinaaDoorPFnExactWordsx18
import Derived.Test.YtmlhnpggjkoinaaDoorPFnExactWordsx21
namespace Go.Proofs.YtmlhnpggjkoinaaDoor.PFnExactWords
open Go.RowKit Go.Proofs.YtmlhnpggjkoinaaDoorW.PrintWords Go.Proofs.YtmlhnpggjkoinaaDoorW.PrintLast Go.Proofs.YtmlhnpggjkoinaaDoorW.PrintMore
attribute [local go_sem] max2_int min2_int max_two min_two max_three min_three max_four min_four   -- for this text's walks alone
set_option linter.unusedVariables false
set_option linter.unusedSimpArgs false

/-! ### impl_Words: function 34 -/
mutual
def impl_Words.l0 : Nat → List ByteArray → List ByteArray → Int → Int → Option (List ByteArray)
 | 0, _, _, _, _ => none
 | k + 1, x5, x14, x15, x16 => if x16 < x15 then (if 0 ≤ x16 then (if x16 < (x14.length : Int) then ((impl_points.f k (rdOf ByteArray.empty x14 x16)).bind fun t575 => (impl_Words.l1 k x5 (rdOf ByteArray.empty x14 x16) x14 x15 x16 t575 (t575.length : Int) 0)) else (none)) else (none)) else (some x5)
def impl_Words.l1 : Nat → List ByteArray → ByteArray → List ByteArray → Int → Int → List Int → Int → Int → Option (List ByteArray)
 | 0, _, _, _, _, _, _, _, _ => none
 | k + 1, x5, x7, x14, x15, x16, x21, x22, x23 => if x23 < x22 then (if 0 ≤ x23 then (if x23 < (x21.length : Int) then ((impl_wordLetter.f k (rd x21 x23)).bind fun t579 => (if t579 = true then (if x5.length < 8796093022208 then (impl_Words.l0 k (x5 ++ [x7]) x14 x15 (wrap64 (x16 + 1))) else (none)) else ((impl_wordPart.f k (rd x21 x23)).bind fun t583 => (if t583 = true then (if x5.length < 8796093022208 then (impl_Words.l0 k (x5 ++ [x7]) x14 x15 (wrap64 (x16 + 1))) else (none)) else ((impl_isDigit.f k (rd x21 x23)).bind fun t587 => (if t587 = true then (if x5.length < 8796093022208 then (impl_Words.l0 k (x5 ++ [x7]) x14 x15 (wrap64 (x16 + 1))) else (none)) else ((impl_Script.f k (rd x21 x23)).bind fun t591 => (if t591 = 9 then (if x5.length < 8796093022208 then (impl_Words.l0 k (x5 ++ [x7]) x14 x15 (wrap64 (x16 + 1))) else (none)) else (impl_Words.l1 k x5 x7 x14 x15 x16 x21 x22 (wrap64 (x23 + 1))))))))))) else (none)) else (none)) else (impl_Words.l0 k x5 x14 x15 (wrap64 (x16 + 1)))
end
def impl_Words.f (k : Nat) (a0 : ByteArray) (l1 : List (S54)) : Option (List ByteArray) := (impl_WordCuts.f k a0 l1).bind fun t568 => ((impl_piecesOf.f k a0 t568).bind fun t571 => (impl_Words.l0 k ([] : List ByteArray) t571 (t571.length : Int) 0))
set_option maxHeartbeats 8000000 in
set_option maxRecDepth 100000 in
theorem impl_Words.calls (k : Nat) (a0 : ByteArray) (A1 : Option Addr) (c1 : Nat) (l1 : List (S54)) (r : List ByteArray) (w : World) (hr1 : Kd.C k54 w A1 l1.length l1) (hc1 : l1.length ≤ c1) (hG : GL w) (h : impl_Words.f k a0 l1 = some r) :
  Calls Tryd.prog 34 #[.string a0, .slice A1 l1.length c1] w fun e w' => ∃ v0_ : Value, e = .returned (v0_) ∧ Kd.R Kd.string 9 w' w.heap.size (fun _ => True) v0_ r ∧ Below w.heap.size w w' := by
 have HR1 := am hr1
 have HC1 := am hc1
 clear hr1 hc1
 have HGL := am hG
 clear hG
 have HB := am (Below.refl w.heap.size w)
 have H : ((impl_WordCuts.f k a0 l1).bind fun t568 => ((impl_piecesOf.f k a0 t568).bind fun t571 => (impl_Words.l0 k ([] : List ByteArray) t571 (t571.length : Int) 0))) = some r := h
 clear h
 obtain ⟨t568, A3, H⟩ := bb H
 obtain ⟨t571, A4, H⟩ := bb H
 have H' := am H
 clear H
 go_enter Tryd.func34, Tryd.ntmps34
 go_wp2_with (first | ((with_reducible refine gate_callee (f := 30) rfl ?_); refine gl 13 Tryd.func30 #[.string a0, .slice A1 l1.length c1] ?_; (with_reducible refine (impl_WordCuts.calls k a0 _ _ l1 t568 _ ?side1 ?side2 ?side3 A3.out).mono ?_); (case side1 => exact cC HR1.out); (case side2 => exact HC1.out); (case side3 => first | exact HGL.out | exact GL_below HGL.out bB); rintro e w5 ⟨v569, rfl, ho0, hb⟩; refine ⟨_, rfl, ?_⟩; have HO570 := am (Kd.R_lower ho0 (below_size bB)); replace HB := am (below_step bB hb); (try clear hb); (try clear ho0); obtain ⟨Ao6, co6, eo6⟩ := Kd.R_slice HO570.out; subst eo6) | ((with_reducible refine gate_callee (f := 64) rfl ?_); refine gl 14 Tryd.func64 #[.string a0, .slice Ao6 t568.length co6] ?_; (with_reducible refine (impl_piecesOf.calls k a0 _ _ t568 t571 _ ?side1 ?side2 A4.out).mono ?_); (case side1 => repeat (first | exact (Kd.R_reads' HO570.out).2.2 | (with_reducible refine Kd.C_alloc ?_ _) | (with_reducible refine Kd.C_drewN ?_ _) | (with_reducible refine Kd.C_drew ?_))); (case side2 => exact (Kd.R_reads' HO570.out).2.1); rintro e w7 ⟨v572, rfl, ho0, hb⟩; refine ⟨_, rfl, ?_⟩; replace HO570 := am (Kd.R_below (kR HO570.out) hb); have HO573 := am (Kd.R_lower ho0 (below_size bB)); replace HB := am (below_step bB hb); (try clear hb); (try clear ho0); obtain ⟨Ao8, co8, eo8⟩ := Kd.R_slice HO573.out; subst eo8))
 go_loopg [5, 16] k (fun kq v5 v16 w' => ∃ (x5_1 : List ByteArray) (x16_1 : Int), v16 = .int .i64 x16_1 ∧ Aside0 (impl_Words.l0 kq x5_1 t571 (t571.length : Int) x16_1 = some r) ∧ Aside0 (kq ≤ k) ∧ Aside0 (Kd.R Kd.string 9 w' w.heap.size (fun k_ => some k_ ≠ ((.slice Ao8 t571.length co8) : Value).ownBlock) v5 x5_1) ∧ Aside0 (Kd.R Kd.string 9 w' w.heap.size (fun k_ => some k_ ≠ (v5 : Value).ownBlock) (.slice Ao8 t571.length co8) t571) ∧ Aside0 (Below w.heap.size w w'))
 case atStart => exact ⟨(([] : List ByteArray)), (0), sr, H', ⟨Nat.le_refl _⟩, ⟨by first | exact Kd.R_nil _ _ _ _ _ | exact Kd.N_nil _ _ _ _ _ | exact Kd.V_nil _ _ _ _ _ | exact Kd.Q_nil _ _ _ _ _ | exact Kd.S_nil _ _ _ _ _⟩, ⟨kR (Kd.R_mono HO573.out (fun _ hk => (by simp [Value.ownBlock])))⟩, ⟨bB⟩⟩
 case round =>
  clear H'
  try clear c1
  obtain ⟨x5_1, x16_1, rfl, HA, HK1, HO_5, HO_14, HB⟩ := hrel
  cases gk with
  | zero => exact absurd HA.out (by simp [impl_Words.l0])
  | succ k1 =>
   have H := HA.out
   clear HA
   simp only [impl_Words.l0] at H
   by_cases c9 : x16_1 < (t571.length : Int)
   rotate_left
   ·rw [if_neg c9] at H
    have c9b0 := decide_eq_false c9
    clear c9
    obtain rfl := Option.some.inj H
    go_wp2
    go_ret
    exact ⟨_, rv, by (with_reducible repeat (first | apply Kd.R_alloc | apply Kd.R_drewN | apply Kd.R_drew)); exact Kd.R_mono HO_5.out (fun _ hk => trivial), bB⟩
   rw [if_pos c9] at H
   have c9b0 := decide_eq_true c9
   clear c9
   replace H := iteN H
   obtain ⟨c10, H⟩ := H
   have c10b0 := decide_eq_true c10
   clear c10
   replace H := iteN H
   obtain ⟨c11, H⟩ := H
   have c11b0 := decide_eq_true c11
   clear c11
   obtain ⟨t575, A12, H⟩ := bb H
   have H' := am H
   clear H
   have p574 : 0 ≤ (x16_1 : Int) := od
   have q574 : x16_1 < (t571.length : Int) := od
   obtain ⟨ad574, e574, hx574_0⟩ := Kd.at_string (Kd.R_reads' HO_14.out).2.2 x16_1 p574 q574
   cases e574
   replace p574 := eq_true p574; replace q574 := eq_true q574
   go_wp2_with (first | ((with_reducible refine gate_callee (f := 65) rfl ?_); refine gl 21 Tryd.func65 #[.string (rdOf ByteArray.empty t571 x16_1)] ?_; (with_reducible refine (impl_points.calls k1 (rdOf ByteArray.empty t571 x16_1) t575 _ ?side1 A12.out).mono ?_); (case side1 => first | exact HGL.out | exact GL_below HGL.out bB); rintro e w13 ⟨v576, rfl, ho0, hb⟩; refine ⟨_, rfl, ?_⟩; replace HO_5 := am (Kd.R_below (kR HO_5.out) hb); replace HO_14 := am (Kd.R_below (kR HO_14.out) hb); have HO577 := am (Kd.R_lower ho0 (below_size bB)); replace HB := am (below_step bB hb); (try clear hb); (try clear ho0); obtain ⟨Ao14, co14, eo14⟩ := Kd.R_slice HO577.out; subst eo14))
   go_loopg [5, 23] k1 (fun kq v5 v23 w' => ∃ (x5_2 : List ByteArray) (x23_2 : Int), v23 = .int .i64 x23_2 ∧ Aside0 (impl_Words.l1 kq x5_2 (rdOf ByteArray.empty t571 x16_1) t571 (t571.length : Int) x16_1 t575 (t575.length : Int) x23_2 = some r) ∧ Aside0 (kq ≤ k1) ∧ Aside0 (Kd.R Kd.string 9 w' w.heap.size (fun k_ => some k_ ≠ ((.slice (some ad574) t571.length co8) : Value).ownBlock) v5 x5_2) ∧ Aside0 (Kd.R Kd.string 9 w' w.heap.size (fun k_ => some k_ ≠ (v5 : Value).ownBlock) (.slice (some ad574) t571.length co8) t571) ∧ Aside0 (Kd.R (Kd.int .i64) 2 w' w.heap.size (fun _ => True) (.slice Ao14 t575.length co14) t575) ∧ Aside0 (Below w.heap.size w w'))
   case atStart => exact ⟨(x5_1), (0), sr, H', ⟨Nat.le_refl _⟩, ⟨kR HO_5.out⟩, ⟨kR HO_14.out⟩, ⟨kR HO577.out⟩, ⟨bB⟩⟩
   case round =>
    clear H'
    try clear c9b0
    try clear c10b0
    try clear c11b0
    try clear hx574_0
    try clear p574
    try clear q574
    obtain ⟨x5_2, x23_2, rfl, HA, HK2, HO_5, HO_14, HO_21, HB⟩ := hrel
    cases gk with
    | zero => exact absurd HA.out (by simp [impl_Words.l1])
    | succ k2 =>
     have H := HA.out
     clear HA
     simp only [impl_Words.l1] at H
     by_cases c15 : x23_2 < (t575.length : Int)
     rotate_left
     ·rw [if_neg c15] at H
      have c15b0 := decide_eq_false c15
      clear c15
      have H' := am H
      clear H
      go_wp2
      go_roundg k2
      case measure => have := HK1.out; have := HK2.out; omega
      case rel => exact ⟨(x5_2), (wrap64 (x16_1 + 1)), sr, H', ⟨kl⟩, ⟨kR HO_5.out⟩, ⟨kR HO_14.out⟩, ⟨bB⟩⟩
     rw [if_pos c15] at H
     have c15b0 := decide_eq_true c15
     clear c15
     replace H := iteN H
     obtain ⟨c16, H⟩ := H
     have c16b0 := decide_eq_true c16
     clear c16
     replace H := iteN H
     obtain ⟨c17, H⟩ := H
     have c17b0 := decide_eq_true c17
     clear c17
     obtain ⟨t579, A18, H⟩ := bb H
     by_cases c19 : t579 = true
     ·subst c19
      replace H := iT H
      replace H := iteN H
      obtain ⟨c20, H⟩ := H
      have LMc20 := am c20
      clear c20
      obtain ⟨y580, hy580⟩ : ∃ y_ : List ByteArray, y_ = (x5_2 ++ [(rdOf ByteArray.empty t571 x16_1)]) := ⟨_, rfl⟩
      replace H : (impl_Words.l0 k2 y580 t571 (t571.length : Int) (wrap64 (x16_1 + 1))) = some r := rY hy580
      have Ny580 := am hy580
      clear hy580
      have H' := am H
      clear H
      have p578 : 0 ≤ (x23_2 : Int) := od
      have q578 : x23_2 < (t575.length : Int) := od
      obtain ⟨ad578, e578, hx578_0⟩ := Kd.at_int (Kd.R_reads' HO_21.out).2.2 x23_2 p578 q578
      cases e578
      replace p578 := eq_true p578; replace q578 := eq_true q578
      go_wp2_with (first | ((with_reducible refine gate_callee (f := 66) rfl ?_); refine gq 28 Tryd.func66 (impl_wordLetter.calls k2 (rd t575 x23_2) true _ A18.out) fun nd => ?_) | ((with_reducible refine gate_builtin (b := .append) (xs := #[.tmp 42, .tmp 44]) rfl ?_); at_builtin; refine Kd.R_append Kd.string (w0 := w) w.heap.size rfl (.tmp 42) (.tmp 44) 27 9 (.string ⟨#[]⟩) 16 rfl Tryd.underlying27 info9 rfl (by decide) (by omega) u5 x5_2 (rdOf ByteArray.empty t571 x16_1) [.string (rdOf ByteArray.empty t571 x16_1)] (fun k_ => some k_ ≠ (.slice (some ad574) t571.length co8 : Value).ownBlock) (fun _ => False) rfl rfl ?aP (fun _ hk => hk.elim) ?aF ?aO ?aB ?aS ?aL ?_; (case aP => exact rfl); (case aB => exact bB); (case aF => exact (fun k_ hk => Kd.fresh' (Kd.R_lt (kR HO_14.out)) k_ hk)); (case aO => exact (kR HO_5.out)); (case aS => exact (below_size bB)); (case aL => have := LMc20.out; omega); intro v581 w21 ho hb hg hat; rw [← Ny580.out] at ho; replace HO_14 := am (Kd.R_after (ok := (fun _ => True)) (kR (Kd.R_mono HO_14.out (fun _ hk => ⟨trivial, hk⟩))) hg hat); replace HO_21 := am (Kd.R_over' (kR HO_21.out) (Kd.R_typed (kR HO_5.out)) (by decide) hg); replace HB := am (hb); have HO582 := am (ho); clear HO_5; clear ho hb hg hat))
      go_roundg k2
      case measure => have := HK1.out; have := HK2.out; omega
      case rel => exact ⟨(y580), (wrap64 (x16_1 + 1)), sr, H', ⟨kl⟩, ⟨kR HO582.out⟩, ⟨kR (Kd.R_mono HO_14.out (fun _ hk => hk.2))⟩, ⟨bB⟩⟩
     replace c19 := Bool.eq_false_iff.mpr c19
     subst c19
     replace H := iF H
     obtain ⟨t583, A22, H⟩ := bb H
     by_cases c23 : t583 = true
     ·subst c23
      replace H := iT H
      replace H := iteN H
      obtain ⟨c24, H⟩ := H
      have LMc24 := am c24
      clear c24
      obtain ⟨y584, hy584⟩ : ∃ y_ : List ByteArray, y_ = (x5_2 ++ [(rdOf ByteArray.empty t571 x16_1)]) := ⟨_, rfl⟩
      replace H : (impl_Words.l0 k2 y584 t571 (t571.length : Int) (wrap64 (x16_1 + 1))) = some r := rY hy584
      have Ny584 := am hy584
      clear hy584
      have H' := am H
      clear H
      have p578 : 0 ≤ (x23_2 : Int) := od
      have q578 : x23_2 < (t575.length : Int) := od
      obtain ⟨ad578, e578, hx578_0⟩ := Kd.at_int (Kd.R_reads' HO_21.out).2.2 x23_2 p578 q578
      cases e578
      replace p578 := eq_true p578; replace q578 := eq_true q578
      go_wp2_with (first | ((with_reducible refine gate_callee (f := 66) rfl ?_); refine gq 28 Tryd.func66 (impl_wordLetter.calls k2 (rd t575 x23_2) false _ A18.out) fun nd => ?_) | (go_at_call 67; (with_reducible refine (impl_wordPart.calls k2 (rd t575 x23_2) true _ A22.out).mono ?_); rintro e w' ⟨rfl, ⟨nd, rfl⟩⟩) | ((with_reducible refine gate_builtin (b := .append) (xs := #[.tmp 42, .tmp 44]) rfl ?_); at_builtin; refine Kd.R_append Kd.string (w0 := w) w.heap.size rfl (.tmp 42) (.tmp 44) 27 9 (.string ⟨#[]⟩) 16 rfl Tryd.underlying27 info9 rfl (by decide) (by omega) u5 x5_2 (rdOf ByteArray.empty t571 x16_1) [.string (rdOf ByteArray.empty t571 x16_1)] (fun k_ => some k_ ≠ (.slice (some ad574) t571.length co8 : Value).ownBlock) (fun _ => False) rfl rfl ?aP (fun _ hk => hk.elim) ?aF ?aO ?aB ?aS ?aL ?_; (case aP => exact rfl); (case aB => exact bB); (case aF => exact (fun k_ hk => Kd.fresh' (Kd.R_lt (kR HO_14.out)) k_ hk)); (case aO => exact (kR HO_5.out)); (case aS => exact (below_size bB)); (case aL => have := LMc24.out; omega); intro v585 w25 ho hb hg hat; rw [← Ny584.out] at ho; replace HO_14 := am (Kd.R_after (ok := (fun _ => True)) (kR (Kd.R_mono HO_14.out (fun _ hk => ⟨trivial, hk⟩))) hg hat); replace HO_21 := am (Kd.R_over' (kR HO_21.out) (Kd.R_typed (kR HO_5.out)) (by decide) hg); replace HB := am (hb); have HO586 := am (ho); clear HO_5; clear ho hb hg hat))
      go_roundg k2
      case measure => have := HK1.out; have := HK2.out; omega
      case rel => exact ⟨(y584), (wrap64 (x16_1 + 1)), sr, H', ⟨kl⟩, ⟨kR HO586.out⟩, ⟨kR (Kd.R_mono HO_14.out (fun _ hk => hk.2))⟩, ⟨bB⟩⟩
     replace c23 := Bool.eq_false_iff.mpr c23
     subst c23
     replace H := iF H
     obtain ⟨t587, A26, H⟩ := bb H
     by_cases c27 : t587 = true
     ·subst c27
      replace H := iT H
      replace H := iteN H
      obtain ⟨c28, H⟩ := H
      have LMc28 := am c28
      clear c28
      obtain ⟨y588, hy588⟩ : ∃ y_ : List ByteArray, y_ = (x5_2 ++ [(rdOf ByteArray.empty t571 x16_1)]) := ⟨_, rfl⟩
      replace H : (impl_Words.l0 k2 y588 t571 (t571.length : Int) (wrap64 (x16_1 + 1))) = some r := rY hy588
      have Ny588 := am hy588
      clear hy588
      have H' := am H
      clear H
      have p578 : 0 ≤ (x23_2 : Int) := od
      have q578 : x23_2 < (t575.length : Int) := od
      obtain ⟨ad578, e578, hx578_0⟩ := Kd.at_int (Kd.R_reads' HO_21.out).2.2 x23_2 p578 q578
      cases e578
      replace p578 := eq_true p578; replace q578 := eq_true q578
      go_wp2_with (first | ((with_reducible refine gate_callee (f := 66) rfl ?_); refine gq 28 Tryd.func66 (impl_wordLetter.calls k2 (rd t575 x23_2) false _ A18.out) fun nd => ?_) | (go_at_call 67; (with_reducible refine (impl_wordPart.calls k2 (rd t575 x23_2) false _ A22.out).mono ?_); rintro e w' ⟨rfl, ⟨nd, rfl⟩⟩) | (go_at_call 68; (with_reducible refine (impl_isDigit.calls k2 (rd t575 x23_2) true _ A26.out).mono ?_); rintro e w' ⟨rfl, ⟨nd, rfl⟩⟩) | ((with_reducible refine gate_builtin (b := .append) (xs := #[.tmp 42, .tmp 44]) rfl ?_); at_builtin; refine Kd.R_append Kd.string (w0 := w) w.heap.size rfl (.tmp 42) (.tmp 44) 27 9 (.string ⟨#[]⟩) 16 rfl Tryd.underlying27 info9 rfl (by decide) (by omega) u5 x5_2 (rdOf ByteArray.empty t571 x16_1) [.string (rdOf ByteArray.empty t571 x16_1)] (fun k_ => some k_ ≠ (.slice (some ad574) t571.length co8 : Value).ownBlock) (fun _ => False) rfl rfl ?aP (fun _ hk => hk.elim) ?aF ?aO ?aB ?aS ?aL ?_; (case aP => exact rfl); (case aB => exact bB); (case aF => exact (fun k_ hk => Kd.fresh' (Kd.R_lt (kR HO_14.out)) k_ hk)); (case aO => exact (kR HO_5.out)); (case aS => exact (below_size bB)); (case aL => have := LMc28.out; omega); intro v589 w29 ho hb hg hat; rw [← Ny588.out] at ho; replace HO_14 := am (Kd.R_after (ok := (fun _ => True)) (kR (Kd.R_mono HO_14.out (fun _ hk => ⟨trivial, hk⟩))) hg hat); replace HO_21 := am (Kd.R_over' (kR HO_21.out) (Kd.R_typed (kR HO_5.out)) (by decide) hg); replace HB := am (hb); have HO590 := am (ho); clear HO_5; clear ho hb hg hat))
      go_roundg k2
      case measure => have := HK1.out; have := HK2.out; omega
      case rel => exact ⟨(y588), (wrap64 (x16_1 + 1)), sr, H', ⟨kl⟩, ⟨kR HO590.out⟩, ⟨kR (Kd.R_mono HO_14.out (fun _ hk => hk.2))⟩, ⟨bB⟩⟩
     replace c27 := Bool.eq_false_iff.mpr c27
     subst c27
     replace H := iF H
     obtain ⟨t591, A30, H⟩ := bb H
     by_cases c31 : t591 = 9
     rotate_left
     ·rw [if_neg c31] at H
      have c31b0 : (t591 == 9) = false := beq_eq_false_iff_ne.mpr c31
      have c31b1 : (t591 != 9) = true := bne_iff_ne.mpr c31
      have H' := am H
      clear H
      have p578 : 0 ≤ (x23_2 : Int) := od
      have q578 : x23_2 < (t575.length : Int) := od
      obtain ⟨ad578, e578, hx578_0⟩ := Kd.at_int (Kd.R_reads' HO_21.out).2.2 x23_2 p578 q578
      cases e578
      replace p578 := eq_true p578; replace q578 := eq_true q578
      go_wp2_with (first | ((with_reducible refine gate_callee (f := 66) rfl ?_); refine gq 28 Tryd.func66 (impl_wordLetter.calls k2 (rd t575 x23_2) false _ A18.out) fun nd => ?_) | (go_at_call 67; (with_reducible refine (impl_wordPart.calls k2 (rd t575 x23_2) false _ A22.out).mono ?_); rintro e w' ⟨rfl, ⟨nd, rfl⟩⟩) | (go_at_call 68; (with_reducible refine (impl_isDigit.calls k2 (rd t575 x23_2) false _ A26.out).mono ?_); rintro e w' ⟨rfl, ⟨nd, rfl⟩⟩) | (go_at_call 69; (with_reducible refine (impl_Script.calls k2 (rd t575 x23_2) t591 _ A30.out).mono ?_); rintro e w' ⟨rfl, ⟨nd, rfl⟩⟩))
      go_roundg k2
      case measure => have := HK1.out; have := HK2.out; omega
      case rel => exact ⟨(x5_2), (wrap64 (x23_2 + 1)), sr, H', ⟨kl⟩, ⟨kR HO_5.out⟩, ⟨kR HO_14.out⟩, ⟨kR HO_21.out⟩, ⟨bB⟩⟩
     rw [if_pos c31] at H
     have c31b0 : (t591 == 9) = true := beq_iff_eq.mpr c31
     have c31b1 : (t591 != 9) = false := bne_eq_false_iff_eq.mpr c31
     clear c31
     replace H := iteN H
     obtain ⟨c32, H⟩ := H
     have LMc32 := am c32
     clear c32
     obtain ⟨y592, hy592⟩ : ∃ y_ : List ByteArray, y_ = (x5_2 ++ [(rdOf ByteArray.empty t571 x16_1)]) := ⟨_, rfl⟩
     replace H : (impl_Words.l0 k2 y592 t571 (t571.length : Int) (wrap64 (x16_1 + 1))) = some r := rY hy592
     have Ny592 := am hy592
     clear hy592
     have H' := am H
     clear H
     have p578 : 0 ≤ (x23_2 : Int) := od
     have q578 : x23_2 < (t575.length : Int) := od
     obtain ⟨ad578, e578, hx578_0⟩ := Kd.at_int (Kd.R_reads' HO_21.out).2.2 x23_2 p578 q578
     cases e578
     replace p578 := eq_true p578; replace q578 := eq_true q578
     go_wp2_with (first | ((with_reducible refine gate_callee (f := 66) rfl ?_); refine gq 28 Tryd.func66 (impl_wordLetter.calls k2 (rd t575 x23_2) false _ A18.out) fun nd => ?_) | (go_at_call 67; (with_reducible refine (impl_wordPart.calls k2 (rd t575 x23_2) false _ A22.out).mono ?_); rintro e w' ⟨rfl, ⟨nd, rfl⟩⟩) | (go_at_call 68; (with_reducible refine (impl_isDigit.calls k2 (rd t575 x23_2) false _ A26.out).mono ?_); rintro e w' ⟨rfl, ⟨nd, rfl⟩⟩) | (go_at_call 69; (with_reducible refine (impl_Script.calls k2 (rd t575 x23_2) t591 _ A30.out).mono ?_); rintro e w' ⟨rfl, ⟨nd, rfl⟩⟩) | ((with_reducible refine gate_builtin (b := .append) (xs := #[.tmp 42, .tmp 44]) rfl ?_); at_builtin; refine Kd.R_append Kd.string (w0 := w) w.heap.size rfl (.tmp 42) (.tmp 44) 27 9 (.string ⟨#[]⟩) 16 rfl Tryd.underlying27 info9 rfl (by decide) (by omega) u5 x5_2 (rdOf ByteArray.empty t571 x16_1) [.string (rdOf ByteArray.empty t571 x16_1)] (fun k_ => some k_ ≠ (.slice (some ad574) t571.length co8 : Value).ownBlock) (fun _ => False) rfl rfl ?aP (fun _ hk => hk.elim) ?aF ?aO ?aB ?aS ?aL ?_; (case aP => exact rfl); (case aB => exact bB); (case aF => exact (fun k_ hk => Kd.fresh' (Kd.R_lt (kR HO_14.out)) k_ hk)); (case aO => exact (kR HO_5.out)); (case aS => exact (below_size bB)); (case aL => have := LMc32.out; omega); intro v593 w33 ho hb hg hat; rw [← Ny592.out] at ho; replace HO_14 := am (Kd.R_after (ok := (fun _ => True)) (kR (Kd.R_mono HO_14.out (fun _ hk => ⟨trivial, hk⟩))) hg hat); replace HO_21 := am (Kd.R_over' (kR HO_21.out) (Kd.R_typed (kR HO_5.out)) (by decide) hg); replace HB := am (hb); have HO594 := am (ho); clear HO_5; clear ho hb hg hat))
     go_roundg k2
     case measure => have := HK1.out; have := HK2.out; omega
     case rel => exact ⟨(y592), (wrap64 (x16_1 + 1)), sr, H', ⟨kl⟩, ⟨kR HO594.out⟩, ⟨kR (Kd.R_mono HO_14.out (fun _ hk => hk.2))⟩, ⟨bB⟩⟩
/-! ### laws_FnExactWords: function 8 -/
def laws_FnExactWords.j0 : Nat → ByteArray → List (S56) → List ByteArray → List ByteArray → Bool → Option (Bool)
 | 0, _, _, _, _, _ => none
 | k + 1, x0, x1, x6, x8, x49 => if x49 = true then (some false) else ((laws_markStringS.f k x8 1).bind fun bt616 => ((laws_heldStringS.f k bt616.2 1).bind fun t618 => (if t618 < 0 then (some false) else (if t618 = bt616.1 then ((laws_toTailorS.f k x1).bind fun t619 => ((impl_Words.f k x0 t619).bind fun t622 => ((laws_eqStringS.f k t622 x6).bind fun t625 => (if t625 = true then ((laws_heldStringS.f k bt616.2 1).bind fun t626 => (if t626 < 0 then (some false) else (if t626 = bt616.1 then (some true) else (some false)))) else (some false))))) else (some false)))))
def laws_FnExactWords.f (k : Nat) (a0 : ByteArray) (l1 : List (S56)) : Option (Bool) := if (a0.size : Int) > 1048576 then (some true) else ((laws_szTailorS.f l1 1048576).bind fun t595 => (if t595 < 0 then (some true) else ((laws_toTailorS.f k l1).bind fun t596 => ((spec_Words.f k a0 t596).bind fun t599 => ((laws_toTailorS.f k l1).bind fun t602 => ((impl_Words.f k a0 t602).bind fun t605 => ((laws_eqStringS.f k t605 t599).bind fun t608 => (if t608 = true then ((laws_toTailorS.f k l1).bind fun t609 => ((laws_eqTailorS.f k t602 t609).bind fun t612 => (if t612 = true then ((laws_markTailorS.f k t602 1).bind fun bt613 => (if bt613.1 < 0 then (laws_FnExactWords.j0 k a0 l1 t599 t605 true) else ((laws_eqStringS.f k t605 t599).bind fun t615 => (laws_FnExactWords.j0 k a0 l1 t599 t605 (!t615))))) else (some false)))) else (some false)))))))))
set_option maxHeartbeats 8000000 in
set_option maxRecDepth 100000 in
theorem laws_FnExactWords.calls (k : Nat) (a0 : ByteArray) (A1 : Option Addr) (c1 : Nat) (l1 : List (S56)) (r : Bool) (w : World) (hr1 : Kd.C k56 w A1 l1.length l1) (hc1 : l1.length ≤ c1) (hG : GL w) (h : laws_FnExactWords.f k a0 l1 = some r) :
  Calls Tryd.prog 8 #[.string a0, .slice A1 l1.length c1] w fun e w' => e = .returned (.bool r) ∧ Below w.heap.size w w' := by
 have HR1 := am hr1
 have HC1 := am hc1
 clear hr1 hc1
 have HGL := am hG
 clear hG
 have HB := am (Below.refl w.heap.size w)
 have H : (if (a0.size : Int) > 1048576 then (some true) else ((laws_szTailorS.f l1 1048576).bind fun t595 => (if t595 < 0 then (some true) else ((laws_toTailorS.f k l1).bind fun t596 => ((spec_Words.f k a0 t596).bind fun t599 => ((laws_toTailorS.f k l1).bind fun t602 => ((impl_Words.f k a0 t602).bind fun t605 => ((laws_eqStringS.f k t605 t599).bind fun t608 => (if t608 = true then ((laws_toTailorS.f k l1).bind fun t609 => ((laws_eqTailorS.f k t602 t609).bind fun t612 => (if t612 = true then ((laws_markTailorS.f k t602 1).bind fun bt613 => (if bt613.1 < 0 then (laws_FnExactWords.j0 k a0 l1 t599 t605 true) else ((laws_eqStringS.f k t605 t599).bind fun t615 => (laws_FnExactWords.j0 k a0 l1 t599 t605 (!t615))))) else (some false)))) else (some false)))))))))) = some r := h
 clear h
 by_cases c3 : (a0.size : Int) > 1048576
 ·rw [if_pos c3] at H
  have c3b0 : decide (1048576 < (a0.size : Int)) = true := decide_eq_true c3
  have c3b1 : decide (1048576 < a0.size) = true := decide_eq_true (by omega)
  clear c3
  obtain rfl := Option.some.inj H
  go_enter Tryd.func8, Tryd.ntmps8
  go_wp2
  go_ret
  exact ⟨rv, bB⟩
 rw [if_neg c3] at H
 have c3b0 : decide (1048576 < (a0.size : Int)) = false := decide_eq_false c3
 have c3b1 : decide (1048576 < a0.size) = false := decide_eq_false (by omega)
 clear c3
 obtain ⟨t595, A4, H⟩ := bb H
 by_cases c5 : t595 < 0
 ·rw [if_pos c5] at H
  have c5b0 := decide_eq_true c5
  clear c5
  obtain rfl := Option.some.inj H
  go_enter Tryd.func8, Tryd.ntmps8
  go_wp2_with (first | ((with_reducible refine gate_callee (f := 27) rfl ?_); refine gl 18 Tryd.func27 #[.slice A1 l1.length c1, .int .i64 1048576] ?_; (with_reducible refine (laws_szTailorS.calls _ _ l1 1048576 t595 _ ?side1 ?side2 A4.out).mono ?_); (case side1 => exact cC HR1.out); (case side2 => exact HC1.out); rintro e w' ⟨rfl, ⟨nd, rfl⟩⟩; refine ⟨_, rfl, ?_⟩))
  go_ret
  exact ⟨rv, bB⟩
 rw [if_neg c5] at H
 have c5b0 := decide_eq_false c5
 clear c5
 obtain ⟨t596, A6, H⟩ := bb H
 obtain ⟨t599, A7, H⟩ := bb H
 obtain ⟨t602, A8, H⟩ := bb H
 obtain ⟨t605, A9, H⟩ := bb H
 obtain ⟨t608, A10, H⟩ := bb H
 by_cases c11 : t608 = true
 rotate_left
 ·replace c11 := Bool.eq_false_iff.mpr c11
  subst c11
  replace H := iF H
  obtain rfl := Option.some.inj H
  go_enter Tryd.func8, Tryd.ntmps8
  go_wp2_with (first | ((with_reducible refine gate_callee (f := 27) rfl ?_); refine gl 18 Tryd.func27 #[.slice A1 l1.length c1, .int .i64 1048576] ?_; (with_reducible refine (laws_szTailorS.calls _ _ l1 1048576 t595 _ ?side1 ?side2 A4.out).mono ?_); (case side1 => exact cC HR1.out); (case side2 => exact HC1.out); rintro e w' ⟨rfl, ⟨nd, rfl⟩⟩; refine ⟨_, rfl, ?_⟩) | ((with_reducible refine gate_callee (f := 29) rfl ?_); refine gl 23 Tryd.func29 #[.slice A1 l1.length c1] ?_; (with_reducible refine (laws_toTailorS.calls k _ _ l1 t596 _ ?side1 ?side2 A6.out).mono ?_); (case side1 => exact cC HR1.out); (case side2 => exact HC1.out); rintro e w85 ⟨v597, rfl, ho0, hb⟩; refine ⟨_, rfl, ?_⟩; have HO598 := am (Kd.R_lower ho0 (below_size bB)); replace HB := am (below_step bB hb); (try clear hb); (try clear ho0); obtain ⟨Ao86, co86, eo86⟩ := Kd.R_slice HO598.out; subst eo86) | ((with_reducible refine gate_callee (f := 33) rfl ?_); refine gl 24 Tryd.func33 #[.string a0, .slice Ao86 t596.length co86] ?_; (with_reducible refine (spec_Words.calls k a0 _ _ t596 t599 _ ?side1 ?side2 A7.out).mono ?_); (case side1 => repeat (first | exact (Kd.R_reads' HO598.out).2.2 | (with_reducible refine Kd.C_alloc ?_ _) | (with_reducible refine Kd.C_drewN ?_ _) | (with_reducible refine Kd.C_drew ?_))); (case side2 => exact (Kd.R_reads' HO598.out).2.1); rintro e w87 ⟨v600, rfl, ho0, hb⟩; refine ⟨_, rfl, ?_⟩; replace HO598 := am (Kd.R_below (kR HO598.out) hb); have HO601 := am (Kd.R_lower ho0 (below_size bB)); replace HB := am (below_step bB hb); (try clear hb); (try clear ho0)) | ((with_reducible refine gate_callee (f := 29) rfl ?_); refine gl 26 Tryd.func29 #[.slice A1 l1.length c1] ?_; (with_reducible refine (laws_toTailorS.calls k _ _ l1 t602 _ ?side1 ?side2 A8.out).mono ?_); (case side1 => exact cC (Kd.C_below HR1.out HB.out)); (case side2 => exact HC1.out); rintro e w88 ⟨v603, rfl, ho0, hb⟩; refine ⟨_, rfl, ?_⟩; replace HO601 := am (Kd.R_below (kR HO601.out) hb); have HO604 := am (Kd.R_lower (Kd.R_new' ho0 (Kd.R_lt (kR HO598.out))) (below_size bB)); replace HO598 := am (Kd.R_elder' (kR HO598.out) (Kd.R_base ho0) hb); replace HB := am (below_step bB hb); (try clear hb); (try clear ho0); obtain ⟨Ao89, co89, eo89⟩ := Kd.R_slice HO604.out; subst eo89) | ((with_reducible refine gate_callee (f := 34) rfl ?_); refine gl 29 Tryd.func34 #[.string a0, .slice Ao89 t602.length co89] ?_; (with_reducible refine (impl_Words.calls k a0 _ _ t602 t605 _ ?side1 ?side2 ?side3 A9.out).mono ?_); (case side1 => repeat (first | exact (Kd.R_reads' HO604.out).2.2 | (with_reducible refine Kd.C_alloc ?_ _) | (with_reducible refine Kd.C_drewN ?_ _) | (with_reducible refine Kd.C_drew ?_))); (case side2 => exact (Kd.R_reads' HO604.out).2.1); (case side3 => first | exact HGL.out | exact GL_below HGL.out bB); rintro e w90 ⟨v606, rfl, ho0, hb⟩; refine ⟨_, rfl, ?_⟩; replace HO598 := am (Kd.R_below (kR HO598.out) hb); replace HO604 := am (Kd.R_below (kR HO604.out) hb); have HO607 := am (Kd.R_lower (Kd.R_new' ho0 (Kd.R_lt (kR HO601.out))) (below_size bB)); replace HO601 := am (Kd.R_elder' (kR HO601.out) (Kd.R_base ho0) hb); replace HB := am (below_step bB hb); (try clear hb); (try clear ho0); obtain ⟨Ao91, co91, eo91⟩ := Kd.R_slice HO607.out; subst eo91; obtain ⟨Ao92, co92, eo92⟩ := Kd.R_slice HO601.out; subst eo92) | ((with_reducible refine gate_callee (f := 20) rfl ?_); refine gl 32 Tryd.func20 #[.slice Ao91 t605.length co91, .slice Ao92 t599.length co92] ?_; (with_reducible refine (laws_eqStringS.calls k _ _ t605 _ _ t599 false _ ?side1 ?side2 ?side3 ?side4 A10.out).mono ?_); (case side1 => repeat (first | exact (Kd.R_reads' HO607.out).2.2 | (with_reducible refine Kd.C_alloc ?_ _) | (with_reducible refine Kd.C_drewN ?_ _) | (with_reducible refine Kd.C_drew ?_))); (case side2 => exact (Kd.R_reads' HO607.out).2.1); (case side3 => repeat (first | exact (Kd.R_reads' HO601.out).2.2 | (with_reducible refine Kd.C_alloc ?_ _) | (with_reducible refine Kd.C_drewN ?_ _) | (with_reducible refine Kd.C_drew ?_))); (case side4 => exact (Kd.R_reads' HO601.out).2.1); rintro e w' ⟨rfl, ⟨nd, rfl⟩⟩; refine ⟨_, rfl, ?_⟩))
  go_ret
  exact ⟨rv, bB⟩
 subst c11
 replace H := iT H
 obtain ⟨t609, A12, H⟩ := bb H
 obtain ⟨t612, A13, H⟩ := bb H
 by_cases c14 : t612 = true
 rotate_left
 ·replace c14 := Bool.eq_false_iff.mpr c14
  subst c14
  replace H := iF H
  obtain rfl := Option.some.inj H
  go_enter Tryd.func8, Tryd.ntmps8
  go_wp2_with (first | ((with_reducible refine gate_callee (f := 27) rfl ?_); refine gl 18 Tryd.func27 #[.slice A1 l1.length c1, .int .i64 1048576] ?_; (with_reducible refine (laws_szTailorS.calls _ _ l1 1048576 t595 _ ?side1 ?side2 A4.out).mono ?_); (case side1 => exact cC HR1.out); (case side2 => exact HC1.out); rintro e w' ⟨rfl, ⟨nd, rfl⟩⟩; refine ⟨_, rfl, ?_⟩) | ((with_reducible refine gate_callee (f := 29) rfl ?_); refine gl 23 Tryd.func29 #[.slice A1 l1.length c1] ?_; (with_reducible refine (laws_toTailorS.calls k _ _ l1 t596 _ ?side1 ?side2 A6.out).mono ?_); (case side1 => exact cC HR1.out); (case side2 => exact HC1.out); rintro e w74 ⟨v597, rfl, ho0, hb⟩; refine ⟨_, rfl, ?_⟩; have HO598 := am (Kd.R_lower ho0 (below_size bB)); replace HB := am (below_step bB hb); (try clear hb); (try clear ho0); obtain ⟨Ao75, co75, eo75⟩ := Kd.R_slice HO598.out; subst eo75) | ((with_reducible refine gate_callee (f := 33) rfl ?_); refine gl 24 Tryd.func33 #[.string a0, .slice Ao75 t596.length co75] ?_; (with_reducible refine (spec_Words.calls k a0 _ _ t596 t599 _ ?side1 ?side2 A7.out).mono ?_); (case side1 => repeat (first | exact (Kd.R_reads' HO598.out).2.2 | (with_reducible refine Kd.C_alloc ?_ _) | (with_reducible refine Kd.C_drewN ?_ _) | (with_reducible refine Kd.C_drew ?_))); (case side2 => exact (Kd.R_reads' HO598.out).2.1); rintro e w76 ⟨v600, rfl, ho0, hb⟩; refine ⟨_, rfl, ?_⟩; replace HO598 := am (Kd.R_below (kR HO598.out) hb); have HO601 := am (Kd.R_lower ho0 (below_size bB)); replace HB := am (below_step bB hb); (try clear hb); (try clear ho0)) | ((with_reducible refine gate_callee (f := 29) rfl ?_); refine gl 26 Tryd.func29 #[.slice A1 l1.length c1] ?_; (with_reducible refine (laws_toTailorS.calls k _ _ l1 t602 _ ?side1 ?side2 A8.out).mono ?_); (case side1 => exact cC (Kd.C_below HR1.out HB.out)); (case side2 => exact HC1.out); rintro e w77 ⟨v603, rfl, ho0, hb⟩; refine ⟨_, rfl, ?_⟩; replace HO601 := am (Kd.R_below (kR HO601.out) hb); have HO604 := am (Kd.R_lower (Kd.R_new' ho0 (Kd.R_lt (kR HO598.out))) (below_size bB)); replace HO598 := am (Kd.R_elder' (kR HO598.out) (Kd.R_base ho0) hb); replace HB := am (below_step bB hb); (try clear hb); (try clear ho0); obtain ⟨Ao78, co78, eo78⟩ := Kd.R_slice HO604.out; subst eo78) | ((with_reducible refine gate_callee (f := 34) rfl ?_); refine gl 29 Tryd.func34 #[.string a0, .slice Ao78 t602.length co78] ?_; (with_reducible refine (impl_Words.calls k a0 _ _ t602 t605 _ ?side1 ?side2 ?side3 A9.out).mono ?_); (case side1 => repeat (first | exact (Kd.R_reads' HO604.out).2.2 | (with_reducible refine Kd.C_alloc ?_ _) | (with_reducible refine Kd.C_drewN ?_ _) | (with_reducible refine Kd.C_drew ?_))); (case side2 => exact (Kd.R_reads' HO604.out).2.1); (case side3 => first | exact HGL.out | exact GL_below HGL.out bB); rintro e w79 ⟨v606, rfl, ho0, hb⟩; refine ⟨_, rfl, ?_⟩; replace HO598 := am (Kd.R_below (kR HO598.out) hb); replace HO604 := am (Kd.R_below (kR HO604.out) hb); have HO607 := am (Kd.R_lower (Kd.R_new' ho0 (Kd.R_lt (kR HO601.out))) (below_size bB)); replace HO601 := am (Kd.R_elder' (kR HO601.out) (Kd.R_base ho0) hb); replace HB := am (below_step bB hb); (try clear hb); (try clear ho0); obtain ⟨Ao80, co80, eo80⟩ := Kd.R_slice HO607.out; subst eo80; obtain ⟨Ao81, co81, eo81⟩ := Kd.R_slice HO601.out; subst eo81) | ((with_reducible refine gate_callee (f := 20) rfl ?_); refine gl 32 Tryd.func20 #[.slice Ao80 t605.length co80, .slice Ao81 t599.length co81] ?_; (with_reducible refine (laws_eqStringS.calls k _ _ t605 _ _ t599 true _ ?side1 ?side2 ?side3 ?side4 A10.out).mono ?_); (case side1 => repeat (first | exact (Kd.R_reads' HO607.out).2.2 | (with_reducible refine Kd.C_alloc ?_ _) | (with_reducible refine Kd.C_drewN ?_ _) | (with_reducible refine Kd.C_drew ?_))); (case side2 => exact (Kd.R_reads' HO607.out).2.1); (case side3 => repeat (first | exact (Kd.R_reads' HO601.out).2.2 | (with_reducible refine Kd.C_alloc ?_ _) | (with_reducible refine Kd.C_drewN ?_ _) | (with_reducible refine Kd.C_drew ?_))); (case side4 => exact (Kd.R_reads' HO601.out).2.1); rintro e w' ⟨rfl, ⟨nd, rfl⟩⟩; refine ⟨_, rfl, ?_⟩) | ((with_reducible refine gate_callee (f := 29) rfl ?_); refine gl 36 Tryd.func29 #[.slice A1 l1.length c1] ?_; (with_reducible refine (laws_toTailorS.calls k _ _ l1 t609 _ ?side1 ?side2 A12.out).mono ?_); (case side1 => repeat (first | exact (Kd.C_below HR1.out bB) | (with_reducible refine Kd.C_alloc ?_ _) | (with_reducible refine Kd.C_drewN ?_ _) | (with_reducible refine Kd.C_drew ?_))); (case side2 => exact HC1.out); rintro e w82 ⟨v610, rfl, ho0, hb⟩; refine ⟨_, rfl, ?_⟩; replace HO601 := am (Kd.R_below (kR HO601.out) hb); replace HO607 := am (Kd.R_below (kR HO607.out) hb); have HO611 := am (Kd.R_lower (Kd.R_new' (Kd.R_new' ho0 (Kd.R_lt (kR HO598.out))) (Kd.R_lt (kR HO604.out))) (below_size bB)); replace HO598 := am (Kd.R_elder' (kR HO598.out) (Kd.R_base ho0) hb); replace HO604 := am (Kd.R_elder' (kR HO604.out) (Kd.R_base ho0) hb); replace HB := am (below_step bB hb); (try clear hb); (try clear ho0); obtain ⟨Ao83, co83, eo83⟩ := Kd.R_slice HO611.out; subst eo83) | ((with_reducible refine gate_callee (f := 31) rfl ?_); refine gl 37 Tryd.func31 #[.slice Ao78 t602.length co78, .slice Ao83 t609.length co83] ?_; (with_reducible refine (laws_eqTailorS.calls k _ _ t602 _ _ t609 false _ ?side1 ?side2 ?side3 ?side4 A13.out).mono ?_); (case side1 => repeat (first | exact (Kd.R_reads' HO604.out).2.2 | (with_reducible refine Kd.C_alloc ?_ _) | (with_reducible refine Kd.C_drewN ?_ _) | (with_reducible refine Kd.C_drew ?_))); (case side2 => exact (Kd.R_reads' HO604.out).2.1); (case side3 => repeat (first | exact (Kd.R_reads' HO611.out).2.2 | (with_reducible refine Kd.C_alloc ?_ _) | (with_reducible refine Kd.C_drewN ?_ _) | (with_reducible refine Kd.C_drew ?_))); (case side4 => exact (Kd.R_reads' HO611.out).2.1); rintro e w84 ⟨rfl, hb⟩; refine ⟨_, rfl, ?_⟩; replace HO598 := am (Kd.R_below (kR HO598.out) hb); replace HO601 := am (Kd.R_below (kR HO601.out) hb); replace HO604 := am (Kd.R_below (kR HO604.out) hb); replace HO607 := am (Kd.R_below (kR HO607.out) hb); replace HO611 := am (Kd.R_below (kR HO611.out) hb); replace HB := am (below_step bB hb); (try clear hb)))
  go_ret
  exact ⟨rv, bB⟩
 subst c14
 replace H := iT H
 replace H := Option.bind_eq_some_iff.mp H
 obtain ⟨⟨t613, t614⟩, A150, H⟩ := H
 replace H : (if t613 < 0 then (laws_FnExactWords.j0 k a0 l1 t599 t605 true) else ((laws_eqStringS.f k t605 t599).bind fun t615 => (laws_FnExactWords.j0 k a0 l1 t599 t605 (!t615)))) = some r := H
 have A15 := am A150
 clear A150
 have HC16 := am H
 clear H
 go_enter Tryd.func8, Tryd.ntmps8
 go_upto_region 16 with (first | ((with_reducible refine gate_callee (f := 27) rfl ?_); refine gl 18 Tryd.func27 #[.slice A1 l1.length c1, .int .i64 1048576] ?_; (with_reducible refine (laws_szTailorS.calls _ _ l1 1048576 t595 _ ?side1 ?side2 A4.out).mono ?_); (case side1 => exact cC HR1.out); (case side2 => exact HC1.out); rintro e w' ⟨rfl, ⟨nd, rfl⟩⟩; refine ⟨_, rfl, ?_⟩) | ((with_reducible refine gate_callee (f := 29) rfl ?_); refine gl 23 Tryd.func29 #[.slice A1 l1.length c1] ?_; (with_reducible refine (laws_toTailorS.calls k _ _ l1 t596 _ ?side1 ?side2 A6.out).mono ?_); (case side1 => exact cC HR1.out); (case side2 => exact HC1.out); rintro e w17 ⟨v597, rfl, ho0, hb⟩; refine ⟨_, rfl, ?_⟩; have HO598 := am (Kd.R_lower ho0 (below_size bB)); replace HB := am (below_step bB hb); (try clear hb); (try clear ho0); obtain ⟨Ao18, co18, eo18⟩ := Kd.R_slice HO598.out; subst eo18) | ((with_reducible refine gate_callee (f := 33) rfl ?_); refine gl 24 Tryd.func33 #[.string a0, .slice Ao18 t596.length co18] ?_; (with_reducible refine (spec_Words.calls k a0 _ _ t596 t599 _ ?side1 ?side2 A7.out).mono ?_); (case side1 => repeat (first | exact (Kd.R_reads' HO598.out).2.2 | (with_reducible refine Kd.C_alloc ?_ _) | (with_reducible refine Kd.C_drewN ?_ _) | (with_reducible refine Kd.C_drew ?_))); (case side2 => exact (Kd.R_reads' HO598.out).2.1); rintro e w19 ⟨v600, rfl, ho0, hb⟩; refine ⟨_, rfl, ?_⟩; replace HO598 := am (Kd.R_below (kR HO598.out) hb); have HO601 := am (Kd.R_lower ho0 (below_size bB)); replace HB := am (below_step bB hb); (try clear hb); (try clear ho0)) | ((with_reducible refine gate_callee (f := 29) rfl ?_); refine gl 26 Tryd.func29 #[.slice A1 l1.length c1] ?_; (with_reducible refine (laws_toTailorS.calls k _ _ l1 t602 _ ?side1 ?side2 A8.out).mono ?_); (case side1 => exact cC (Kd.C_below HR1.out HB.out)); (case side2 => exact HC1.out); rintro e w20 ⟨v603, rfl, ho0, hb⟩; refine ⟨_, rfl, ?_⟩; replace HO601 := am (Kd.R_below (kR HO601.out) hb); have HO604 := am (Kd.R_lower (Kd.R_new' ho0 (Kd.R_lt (kR HO598.out))) (below_size bB)); replace HO598 := am (Kd.R_elder' (kR HO598.out) (Kd.R_base ho0) hb); replace HB := am (below_step bB hb); (try clear hb); (try clear ho0); obtain ⟨Ao21, co21, eo21⟩ := Kd.R_slice HO604.out; subst eo21) | ((with_reducible refine gate_callee (f := 34) rfl ?_); refine gl 29 Tryd.func34 #[.string a0, .slice Ao21 t602.length co21] ?_; (with_reducible refine (impl_Words.calls k a0 _ _ t602 t605 _ ?side1 ?side2 ?side3 A9.out).mono ?_); (case side1 => repeat (first | exact (Kd.R_reads' HO604.out).2.2 | (with_reducible refine Kd.C_alloc ?_ _) | (with_reducible refine Kd.C_drewN ?_ _) | (with_reducible refine Kd.C_drew ?_))); (case side2 => exact (Kd.R_reads' HO604.out).2.1); (case side3 => first | exact HGL.out | exact GL_below HGL.out bB); rintro e w22 ⟨v606, rfl, ho0, hb⟩; refine ⟨_, rfl, ?_⟩; replace HO598 := am (Kd.R_below (kR HO598.out) hb); replace HO604 := am (Kd.R_below (kR HO604.out) hb); have HO607 := am (Kd.R_lower (Kd.R_new' ho0 (Kd.R_lt (kR HO601.out))) (below_size bB)); replace HO601 := am (Kd.R_elder' (kR HO601.out) (Kd.R_base ho0) hb); replace HB := am (below_step bB hb); (try clear hb); (try clear ho0); obtain ⟨Ao23, co23, eo23⟩ := Kd.R_slice HO607.out; subst eo23; obtain ⟨Ao24, co24, eo24⟩ := Kd.R_slice HO601.out; subst eo24) | ((with_reducible refine gate_callee (f := 20) rfl ?_); refine gl 32 Tryd.func20 #[.slice Ao23 t605.length co23, .slice Ao24 t599.length co24] ?_; (with_reducible refine (laws_eqStringS.calls k _ _ t605 _ _ t599 true _ ?side1 ?side2 ?side3 ?side4 A10.out).mono ?_); (case side1 => repeat (first | exact (Kd.R_reads' HO607.out).2.2 | (with_reducible refine Kd.C_alloc ?_ _) | (with_reducible refine Kd.C_drewN ?_ _) | (with_reducible refine Kd.C_drew ?_))); (case side2 => exact (Kd.R_reads' HO607.out).2.1); (case side3 => repeat (first | exact (Kd.R_reads' HO601.out).2.2 | (with_reducible refine Kd.C_alloc ?_ _) | (with_reducible refine Kd.C_drewN ?_ _) | (with_reducible refine Kd.C_drew ?_))); (case side4 => exact (Kd.R_reads' HO601.out).2.1); rintro e w' ⟨rfl, ⟨nd, rfl⟩⟩; refine ⟨_, rfl, ?_⟩) | ((with_reducible refine gate_callee (f := 29) rfl ?_); refine gl 36 Tryd.func29 #[.slice A1 l1.length c1] ?_; (with_reducible refine (laws_toTailorS.calls k _ _ l1 t609 _ ?side1 ?side2 A12.out).mono ?_); (case side1 => repeat (first | exact (Kd.C_below HR1.out bB) | (with_reducible refine Kd.C_alloc ?_ _) | (with_reducible refine Kd.C_drewN ?_ _) | (with_reducible refine Kd.C_drew ?_))); (case side2 => exact HC1.out); rintro e w25 ⟨v610, rfl, ho0, hb⟩; refine ⟨_, rfl, ?_⟩; replace HO601 := am (Kd.R_below (kR HO601.out) hb); replace HO607 := am (Kd.R_below (kR HO607.out) hb); have HO611 := am (Kd.R_lower (Kd.R_new' (Kd.R_new' ho0 (Kd.R_lt (kR HO598.out))) (Kd.R_lt (kR HO604.out))) (below_size bB)); replace HO598 := am (Kd.R_elder' (kR HO598.out) (Kd.R_base ho0) hb); replace HO604 := am (Kd.R_elder' (kR HO604.out) (Kd.R_base ho0) hb); replace HB := am (below_step bB hb); (try clear hb); (try clear ho0); obtain ⟨Ao26, co26, eo26⟩ := Kd.R_slice HO611.out; subst eo26) | ((with_reducible refine gate_callee (f := 31) rfl ?_); refine gl 37 Tryd.func31 #[.slice Ao21 t602.length co21, .slice Ao26 t609.length co26] ?_; (with_reducible refine (laws_eqTailorS.calls k _ _ t602 _ _ t609 true _ ?side1 ?side2 ?side3 ?side4 A13.out).mono ?_); (case side1 => repeat (first | exact (Kd.R_reads' HO604.out).2.2 | (with_reducible refine Kd.C_alloc ?_ _) | (with_reducible refine Kd.C_drewN ?_ _) | (with_reducible refine Kd.C_drew ?_))); (case side2 => exact (Kd.R_reads' HO604.out).2.1); (case side3 => repeat (first | exact (Kd.R_reads' HO611.out).2.2 | (with_reducible refine Kd.C_alloc ?_ _) | (with_reducible refine Kd.C_drewN ?_ _) | (with_reducible refine Kd.C_drew ?_))); (case side4 => exact (Kd.R_reads' HO611.out).2.1); rintro e w27 ⟨rfl, hb⟩; refine ⟨_, rfl, ?_⟩; replace HO598 := am (Kd.R_below (kR HO598.out) hb); replace HO601 := am (Kd.R_below (kR HO601.out) hb); replace HO604 := am (Kd.R_below (kR HO604.out) hb); replace HO607 := am (Kd.R_below (kR HO607.out) hb); replace HO611 := am (Kd.R_below (kR HO611.out) hb); replace HB := am (below_step bB hb); (try clear hb)) | ((with_reducible refine gate_callee (f := 32) rfl ?_); refine gl 41 Tryd.func32 #[.slice Ao21 t602.length co21, .int .i64 1] ?_; (with_reducible refine (laws_markTailorS.calls k (fun k_ => some k_ = (.slice Ao21 t602.length co21 : Value).ownBlock) (.slice Ao21 t602.length co21) t602 1 t613 t614 w _ ?side1 ?side2 A15.out).mono ?_); (case side1 => repeat (first | (with_reducible first | exact HB.out | apply below_alloc | apply pw_below_drewN | apply below_drew1) | exact HB.out)); (case side2 => exact Kd.R_tight rfl HO604.out); rintro e w28 ⟨rfl, hy0, hb, hkp⟩; refine ⟨_, rfl, ?_⟩; replace HO598 := am (Kd.R_mono (ok' := fun k_ => some k_ ≠ (.slice Ao21 t602.length co21 : Value).ownBlock ∧ some k_ ≠ (.slice Ao26 t609.length co26 : Value).ownBlock) (Kd.R_keptB (HO598.out) hkp (fun k_ hk_ hs_ => (hk_.1.2) hs_)) (fun k_ hk_ => ⟨hk_.1.1.2, hk_.1.2⟩)); replace HO601 := am (Kd.R_mono (ok' := fun k_ => some k_ ≠ (.slice Ao23 t605.length co23 : Value).ownBlock) (Kd.R_keptB ((Kd.R_apart' HO601.out (Kd.R_typed HO604.out) (by decide))) hkp (fun k_ hk_ hs_ => (hk_.2) hs_)) (fun k_ hk_ => hk_.1.1.2)); replace HO607 := am (Kd.R_mono (ok' := fun k_ => some k_ ≠ (.slice Ao24 t599.length co24 : Value).ownBlock) (Kd.R_keptB ((Kd.R_apart' HO607.out (Kd.R_typed HO604.out) (by decide))) hkp (fun k_ hk_ hs_ => (hk_.2) hs_)) (fun k_ hk_ => hk_.1.1.2)); replace HO604 := am (Kd.R_reok rfl hy0 (fun k_ e_ => HO604.out.1 k_ e_)); replace HO611 := am (Kd.R_mono (ok' := fun k_ => some k_ ≠ (.slice Ao18 t596.length co18 : Value).ownBlock ∧ some k_ ≠ (.slice Ao21 t602.length co21 : Value).ownBlock) (Kd.R_keptB (HO611.out) hkp (fun k_ hk_ hs_ => (hk_.2) hs_)) (fun k_ hk_ => ⟨hk_.1.1.2, hk_.1.2⟩)); replace HB := am (hb); (try clear hb); (try clear hkp); (try clear hy0)))
 (try simp only [Act.put, List.setIfInBounds_toArray, List.set_cons_zero, List.set_cons_succ])
 go_cut [49] (fun v49 wc => ∃ (kq : Nat) (x49_15 : Bool), v49 = .bool x49_15 ∧ Aside0 (laws_FnExactWords.j0 kq a0 l1 t599 t605 x49_15 = some r) ∧ Aside0 (kq ≤ k) ∧ Aside0 (Kd.R Kd.string 9 wc w.heap.size (fun k_ => some k_ ≠ ((.slice Ao23 t605.length co23) : Value).ownBlock) (.slice Ao24 t599.length co24) t599) ∧ Aside0 (Kd.R Kd.string 9 wc w.heap.size (fun k_ => some k_ ≠ ((.slice Ao24 t599.length co24) : Value).ownBlock) (.slice Ao23 t605.length co23) t605) ∧ Aside0 (Below w.heap.size w wc))
 case first =>
  have H := HC16.out
  clear HC16
  by_cases c29 : t613 < 0
  ·rw [if_pos c29] at H
   have c29b0 := decide_eq_true c29
   clear c29
   (first | rw [c29b0] | (simp only [i64_w, i32_w]; rw [c29b0]) | skip)
   have H' := am H
   clear H
   go_wp2
   go_meet
   case rel => exact ⟨_, (true), sr, H', ⟨kl⟩, ⟨kR HO601.out⟩, ⟨kR HO607.out⟩, ⟨bB⟩⟩
  rw [if_neg c29] at H
  have c29b0 := decide_eq_false c29
  clear c29
  (first | rw [c29b0] | (simp only [i64_w, i32_w]; rw [c29b0]) | skip)
  obtain ⟨t615, A30, H⟩ := bb H
  have H' := am H
  clear H
  go_wp2_with (first | (go_at_call 20; (with_reducible refine (laws_eqStringS.calls k _ _ t605 _ _ t599 t615 _ ?side1 ?side2 ?side3 ?side4 A30.out).mono ?_); (case side1 => repeat (first | exact (Kd.R_reads' HO607.out).2.2 | (with_reducible refine Kd.C_alloc ?_ _) | (with_reducible refine Kd.C_drewN ?_ _) | (with_reducible refine Kd.C_drew ?_))); (case side2 => exact (Kd.R_reads' HO607.out).2.1); (case side3 => repeat (first | exact (Kd.R_reads' HO601.out).2.2 | (with_reducible refine Kd.C_alloc ?_ _) | (with_reducible refine Kd.C_drewN ?_ _) | (with_reducible refine Kd.C_drew ?_))); (case side4 => exact (Kd.R_reads' HO601.out).2.1); rintro e w' ⟨rfl, ⟨nd, rfl⟩⟩))
  go_meet
  case rel => exact ⟨_, (!t615), sr, H', ⟨kl⟩, ⟨kR HO601.out⟩, ⟨kR HO607.out⟩, ⟨bB⟩⟩
 case rest =>
  clear HC16
  try clear c1
  try clear c3b0
  try clear c3b1
  try clear c5b0
  try clear c11
  try clear c14
  obtain ⟨kq, x49_15, rfl, HA, HJ15, HO_6, HO_8, HB⟩ := hcut
  cases kq with
  | zero => exact absurd HA.out (by simp [laws_FnExactWords.j0])
  | succ kj15 =>
   have H := HA.out
   clear HA
   simp only [laws_FnExactWords.j0] at H
   by_cases c31 : x49_15 = true
   ·subst c31
    replace H := iT H
    obtain rfl := Option.some.inj H
    go_wp2
    go_ret
    exact ⟨rv, bB⟩
   replace c31 := Bool.eq_false_iff.mpr c31
   subst c31
   replace H := iF H
   replace H := Option.bind_eq_some_iff.mp H
   obtain ⟨⟨t616, t617⟩, A320, H⟩ := H
   replace H : ((laws_heldStringS.f kj15 t617 1).bind fun t618 => (if t618 < 0 then (some false) else (if t618 = t616 then ((laws_toTailorS.f kj15 l1).bind fun t619 => ((impl_Words.f kj15 a0 t619).bind fun t622 => ((laws_eqStringS.f kj15 t622 t599).bind fun t625 => (if t625 = true then ((laws_heldStringS.f kj15 t617 1).bind fun t626 => (if t626 < 0 then (some false) else (if t626 = t616 then (some true) else (some false)))) else (some false))))) else (some false)))) = some r := H
   have A32 := am A320
   clear A320
   obtain ⟨t618, A33, H⟩ := bb H
   by_cases c34 : t618 < 0
   ·rw [if_pos c34] at H
    have c34b0 := decide_eq_true c34
    clear c34
    obtain rfl := Option.some.inj H
    go_wp2_with (first | ((with_reducible refine gate_callee (f := 21) rfl ?_); refine gl 52 Tryd.func21 #[.slice Ao23 t605.length co23, .int .i64 1] ?_; (with_reducible refine (laws_markStringS.calls kj15 (fun k_ => some k_ = (.slice Ao23 t605.length co23 : Value).ownBlock) (.slice Ao23 t605.length co23) t605 1 t616 t617 w _ ?side1 ?side2 A32.out).mono ?_); (case side1 => repeat (first | (with_reducible first | exact HB.out | apply below_alloc | apply pw_below_drewN | apply below_drew1) | exact HB.out)); (case side2 => exact Kd.R_tight rfl HO_8.out); rintro e w35 ⟨rfl, hy0, hb, hkp⟩; refine ⟨_, rfl, ?_⟩; replace HO_6 := am (Kd.R_mono (ok' := fun k_ => some k_ ≠ (.slice Ao23 t605.length co23 : Value).ownBlock) (Kd.R_keptB (HO_6.out) hkp (fun k_ hk_ hs_ => (hk_) hs_)) (fun k_ hk_ => hk_.1)); replace HO_8 := am (Kd.R_reok rfl hy0 (fun k_ e_ => HO_8.out.1 k_ e_)); replace HB := am (hb); (try clear hb); (try clear hkp); (try clear hy0)) | ((with_reducible refine gate_callee (f := 22) rfl ?_); refine goesL_ (some 55) rfl rfl Tryd.func22 (by kernel_rfl) rfl #[.slice Ao23 t617.length co23, .int .i64 1] rfl (by (try simp only [List.map_toArray, List.map_cons, List.map_nil]); first | done | (rw [show t617.length = t605.length from (Kd.R_reads' HO_8.out).1.symm] <;> rfl) | rfl | (simp only [List.length_drop, List.length_take]; rfl)) ?_; (with_reducible refine (laws_heldStringS.calls kj15 _ _ t617 1 t618 _ ?side1 ?side2 A33.out).mono ?_); (case side1 => repeat (first | exact (Kd.R_reads' HO_8.out).2.2 | (with_reducible refine Kd.C_alloc ?_ _) | (with_reducible refine Kd.C_drewN ?_ _) | (with_reducible refine Kd.C_drew ?_))); (case side2 => rw [show t617.length = t605.length from (Kd.R_reads' HO_8.out).1.symm]; exact (Kd.R_reads' HO_8.out).2.1); rintro e w36 ⟨rfl, hb⟩; refine ⟨_, rfl, ?_⟩; replace HO_6 := am (Kd.R_below (kR HO_6.out) hb); replace HO_8 := am (Kd.R_below (kR HO_8.out) hb); replace HB := am (below_step bB hb); (try clear hb)))
    go_ret
    exact ⟨rv, bB⟩
   rw [if_neg c34] at H
   have c34b0 := decide_eq_false c34
   clear c34
   by_cases c37 : t618 = t616
   rotate_left
   ·rw [if_neg c37] at H
    have c37b0 : (t618 == t616) = false := beq_eq_false_iff_ne.mpr c37
    have c37b1 : (t618 != t616) = true := bne_iff_ne.mpr c37
    obtain rfl := Option.some.inj H
    go_wp2_with (first | ((with_reducible refine gate_callee (f := 21) rfl ?_); refine gl 52 Tryd.func21 #[.slice Ao23 t605.length co23, .int .i64 1] ?_; (with_reducible refine (laws_markStringS.calls kj15 (fun k_ => some k_ = (.slice Ao23 t605.length co23 : Value).ownBlock) (.slice Ao23 t605.length co23) t605 1 t616 t617 w _ ?side1 ?side2 A32.out).mono ?_); (case side1 => repeat (first | (with_reducible first | exact HB.out | apply below_alloc | apply pw_below_drewN | apply below_drew1) | exact HB.out)); (case side2 => exact Kd.R_tight rfl HO_8.out); rintro e w72 ⟨rfl, hy0, hb, hkp⟩; refine ⟨_, rfl, ?_⟩; replace HO_6 := am (Kd.R_mono (ok' := fun k_ => some k_ ≠ (.slice Ao23 t605.length co23 : Value).ownBlock) (Kd.R_keptB (HO_6.out) hkp (fun k_ hk_ hs_ => (hk_) hs_)) (fun k_ hk_ => hk_.1)); replace HO_8 := am (Kd.R_reok rfl hy0 (fun k_ e_ => HO_8.out.1 k_ e_)); replace HB := am (hb); (try clear hb); (try clear hkp); (try clear hy0)) | ((with_reducible refine gate_callee (f := 22) rfl ?_); refine goesL_ (some 55) rfl rfl Tryd.func22 (by kernel_rfl) rfl #[.slice Ao23 t617.length co23, .int .i64 1] rfl (by (try simp only [List.map_toArray, List.map_cons, List.map_nil]); first | done | (rw [show t617.length = t605.length from (Kd.R_reads' HO_8.out).1.symm] <;> rfl) | rfl | (simp only [List.length_drop, List.length_take]; rfl)) ?_; (with_reducible refine (laws_heldStringS.calls kj15 _ _ t617 1 t618 _ ?side1 ?side2 A33.out).mono ?_); (case side1 => repeat (first | exact (Kd.R_reads' HO_8.out).2.2 | (with_reducible refine Kd.C_alloc ?_ _) | (with_reducible refine Kd.C_drewN ?_ _) | (with_reducible refine Kd.C_drew ?_))); (case side2 => rw [show t617.length = t605.length from (Kd.R_reads' HO_8.out).1.symm]; exact (Kd.R_reads' HO_8.out).2.1); rintro e w73 ⟨rfl, hb⟩; refine ⟨_, rfl, ?_⟩; replace HO_6 := am (Kd.R_below (kR HO_6.out) hb); replace HO_8 := am (Kd.R_below (kR HO_8.out) hb); replace HB := am (below_step bB hb); (try clear hb)))
    go_ret
    exact ⟨rv, bB⟩
   rw [if_pos c37] at H
   have c37b0 : (t618 == t616) = true := beq_iff_eq.mpr c37
   have c37b1 : (t618 != t616) = false := bne_eq_false_iff_eq.mpr c37
   clear c37
   obtain ⟨t619, A38, H⟩ := bb H
   obtain ⟨t622, A39, H⟩ := bb H
   obtain ⟨t625, A40, H⟩ := bb H
   by_cases c41 : t625 = true
   rotate_left
   ·replace c41 := Bool.eq_false_iff.mpr c41
    subst c41
    replace H := iF H
    obtain rfl := Option.some.inj H
    go_wp2_with (first | ((with_reducible refine gate_callee (f := 21) rfl ?_); refine gl 52 Tryd.func21 #[.slice Ao23 t605.length co23, .int .i64 1] ?_; (with_reducible refine (laws_markStringS.calls kj15 (fun k_ => some k_ = (.slice Ao23 t605.length co23 : Value).ownBlock) (.slice Ao23 t605.length co23) t605 1 t616 t617 w _ ?side1 ?side2 A32.out).mono ?_); (case side1 => repeat (first | (with_reducible first | exact HB.out | apply below_alloc | apply pw_below_drewN | apply below_drew1) | exact HB.out)); (case side2 => exact Kd.R_tight rfl HO_8.out); rintro e w66 ⟨rfl, hy0, hb, hkp⟩; refine ⟨_, rfl, ?_⟩; replace HO_6 := am (Kd.R_mono (ok' := fun k_ => some k_ ≠ (.slice Ao23 t605.length co23 : Value).ownBlock) (Kd.R_keptB (HO_6.out) hkp (fun k_ hk_ hs_ => (hk_) hs_)) (fun k_ hk_ => hk_.1)); replace HO_8 := am (Kd.R_reok rfl hy0 (fun k_ e_ => HO_8.out.1 k_ e_)); replace HB := am (hb); (try clear hb); (try clear hkp); (try clear hy0)) | ((with_reducible refine gate_callee (f := 22) rfl ?_); refine goesL_ (some 55) rfl rfl Tryd.func22 (by kernel_rfl) rfl #[.slice Ao23 t617.length co23, .int .i64 1] rfl (by (try simp only [List.map_toArray, List.map_cons, List.map_nil]); first | done | (rw [show t617.length = t605.length from (Kd.R_reads' HO_8.out).1.symm] <;> rfl) | rfl | (simp only [List.length_drop, List.length_take]; rfl)) ?_; (with_reducible refine (laws_heldStringS.calls kj15 _ _ t617 1 t618 _ ?side1 ?side2 A33.out).mono ?_); (case side1 => repeat (first | exact (Kd.R_reads' HO_8.out).2.2 | (with_reducible refine Kd.C_alloc ?_ _) | (with_reducible refine Kd.C_drewN ?_ _) | (with_reducible refine Kd.C_drew ?_))); (case side2 => rw [show t617.length = t605.length from (Kd.R_reads' HO_8.out).1.symm]; exact (Kd.R_reads' HO_8.out).2.1); rintro e w67 ⟨rfl, hb⟩; refine ⟨_, rfl, ?_⟩; replace HO_6 := am (Kd.R_below (kR HO_6.out) hb); replace HO_8 := am (Kd.R_below (kR HO_8.out) hb); replace HB := am (below_step bB hb); (try clear hb)) | ((with_reducible refine gate_callee (f := 29) rfl ?_); refine gl 63 Tryd.func29 #[.slice A1 l1.length c1] ?_; (with_reducible refine (laws_toTailorS.calls kj15 _ _ l1 t619 _ ?side1 ?side2 A38.out).mono ?_); (case side1 => exact cC (Kd.C_below HR1.out HB.out)); (case side2 => exact HC1.out); rintro e w68 ⟨v620, rfl, ho0, hb⟩; refine ⟨_, rfl, ?_⟩; replace HO_6 := am (Kd.R_below (kR HO_6.out) hb); replace HO_8 := am (Kd.R_below (kR HO_8.out) hb); have HO621 := am (Kd.R_lower ho0 (below_size bB)); replace HB := am (below_step bB hb); (try clear hb); (try clear ho0); obtain ⟨Ao69, co69, eo69⟩ := Kd.R_slice HO621.out; subst eo69) | ((with_reducible refine gate_callee (f := 34) rfl ?_); refine gl 64 Tryd.func34 #[.string a0, .slice Ao69 t619.length co69] ?_; (with_reducible refine (impl_Words.calls kj15 a0 _ _ t619 t622 _ ?side1 ?side2 ?side3 A39.out).mono ?_); (case side1 => repeat (first | exact (Kd.R_reads' HO621.out).2.2 | (with_reducible refine Kd.C_alloc ?_ _) | (with_reducible refine Kd.C_drewN ?_ _) | (with_reducible refine Kd.C_drew ?_))); (case side2 => exact (Kd.R_reads' HO621.out).2.1); (case side3 => first | exact HGL.out | exact GL_below HGL.out bB); rintro e w70 ⟨v623, rfl, ho0, hb⟩; refine ⟨_, rfl, ?_⟩; replace HO621 := am (Kd.R_below (kR HO621.out) hb); have HO624 := am (Kd.R_lower (Kd.R_new' (Kd.R_new' ho0 (Kd.R_lt (kR HO_6.out))) (Kd.R_lt (kR HO_8.out))) (below_size bB)); replace HO_6 := am (Kd.R_elder' (kR HO_6.out) (Kd.R_base ho0) hb); replace HO_8 := am (Kd.R_elder' (kR HO_8.out) (Kd.R_base ho0) hb); replace HB := am (below_step bB hb); (try clear hb); (try clear ho0); obtain ⟨Ao71, co71, eo71⟩ := Kd.R_slice HO624.out; subst eo71) | ((with_reducible refine gate_callee (f := 20) rfl ?_); refine gl 67 Tryd.func20 #[.slice Ao71 t622.length co71, .slice Ao24 t599.length co24] ?_; (with_reducible refine (laws_eqStringS.calls kj15 _ _ t622 _ _ t599 false _ ?side1 ?side2 ?side3 ?side4 A40.out).mono ?_); (case side1 => repeat (first | exact (Kd.R_reads' HO624.out).2.2 | (with_reducible refine Kd.C_alloc ?_ _) | (with_reducible refine Kd.C_drewN ?_ _) | (with_reducible refine Kd.C_drew ?_))); (case side2 => exact (Kd.R_reads' HO624.out).2.1); (case side3 => repeat (first | exact (Kd.R_reads' HO_6.out).2.2 | (with_reducible refine Kd.C_alloc ?_ _) | (with_reducible refine Kd.C_drewN ?_ _) | (with_reducible refine Kd.C_drew ?_))); (case side4 => exact (Kd.R_reads' HO_6.out).2.1); rintro e w' ⟨rfl, ⟨nd, rfl⟩⟩; refine ⟨_, rfl, ?_⟩))
    go_ret
    exact ⟨rv, bB⟩
   subst c41
   replace H := iT H
   obtain ⟨t626, A42, H⟩ := bb H
   by_cases c43 : t626 < 0
   ·rw [if_pos c43] at H
    have c43b0 := decide_eq_true c43
    clear c43
    obtain rfl := Option.some.inj H
    go_wp2_with (first | ((with_reducible refine gate_callee (f := 21) rfl ?_); refine gl 52 Tryd.func21 #[.slice Ao23 t605.length co23, .int .i64 1] ?_; (with_reducible refine (laws_markStringS.calls kj15 (fun k_ => some k_ = (.slice Ao23 t605.length co23 : Value).ownBlock) (.slice Ao23 t605.length co23) t605 1 t616 t617 w _ ?side1 ?side2 A32.out).mono ?_); (case side1 => repeat (first | (with_reducible first | exact HB.out | apply below_alloc | apply pw_below_drewN | apply below_drew1) | exact HB.out)); (case side2 => exact Kd.R_tight rfl HO_8.out); rintro e w44 ⟨rfl, hy0, hb, hkp⟩; refine ⟨_, rfl, ?_⟩; replace HO_6 := am (Kd.R_mono (ok' := fun k_ => some k_ ≠ (.slice Ao23 t605.length co23 : Value).ownBlock) (Kd.R_keptB (HO_6.out) hkp (fun k_ hk_ hs_ => (hk_) hs_)) (fun k_ hk_ => hk_.1)); replace HO_8 := am (Kd.R_reok rfl hy0 (fun k_ e_ => HO_8.out.1 k_ e_)); replace HB := am (hb); (try clear hb); (try clear hkp); (try clear hy0)) | ((with_reducible refine gate_callee (f := 22) rfl ?_); refine goesL_ (some 55) rfl rfl Tryd.func22 (by kernel_rfl) rfl #[.slice Ao23 t617.length co23, .int .i64 1] rfl (by (try simp only [List.map_toArray, List.map_cons, List.map_nil]); first | done | (rw [show t617.length = t605.length from (Kd.R_reads' HO_8.out).1.symm] <;> rfl) | rfl | (simp only [List.length_drop, List.length_take]; rfl)) ?_; (with_reducible refine (laws_heldStringS.calls kj15 _ _ t617 1 t618 _ ?side1 ?side2 A33.out).mono ?_); (case side1 => repeat (first | exact (Kd.R_reads' HO_8.out).2.2 | (with_reducible refine Kd.C_alloc ?_ _) | (with_reducible refine Kd.C_drewN ?_ _) | (with_reducible refine Kd.C_drew ?_))); (case side2 => rw [show t617.length = t605.length from (Kd.R_reads' HO_8.out).1.symm]; exact (Kd.R_reads' HO_8.out).2.1); rintro e w45 ⟨rfl, hb⟩; refine ⟨_, rfl, ?_⟩; replace HO_6 := am (Kd.R_below (kR HO_6.out) hb); replace HO_8 := am (Kd.R_below (kR HO_8.out) hb); replace HB := am (below_step bB hb); (try clear hb)) | ((with_reducible refine gate_callee (f := 29) rfl ?_); refine gl 63 Tryd.func29 #[.slice A1 l1.length c1] ?_; (with_reducible refine (laws_toTailorS.calls kj15 _ _ l1 t619 _ ?side1 ?side2 A38.out).mono ?_); (case side1 => exact cC (Kd.C_below HR1.out HB.out)); (case side2 => exact HC1.out); rintro e w46 ⟨v620, rfl, ho0, hb⟩; refine ⟨_, rfl, ?_⟩; replace HO_6 := am (Kd.R_below (kR HO_6.out) hb); replace HO_8 := am (Kd.R_below (kR HO_8.out) hb); have HO621 := am (Kd.R_lower ho0 (below_size bB)); replace HB := am (below_step bB hb); (try clear hb); (try clear ho0); obtain ⟨Ao47, co47, eo47⟩ := Kd.R_slice HO621.out; subst eo47) | ((with_reducible refine gate_callee (f := 34) rfl ?_); refine gl 64 Tryd.func34 #[.string a0, .slice Ao47 t619.length co47] ?_; (with_reducible refine (impl_Words.calls kj15 a0 _ _ t619 t622 _ ?side1 ?side2 ?side3 A39.out).mono ?_); (case side1 => repeat (first | exact (Kd.R_reads' HO621.out).2.2 | (with_reducible refine Kd.C_alloc ?_ _) | (with_reducible refine Kd.C_drewN ?_ _) | (with_reducible refine Kd.C_drew ?_))); (case side2 => exact (Kd.R_reads' HO621.out).2.1); (case side3 => first | exact HGL.out | exact GL_below HGL.out bB); rintro e w48 ⟨v623, rfl, ho0, hb⟩; refine ⟨_, rfl, ?_⟩; replace HO621 := am (Kd.R_below (kR HO621.out) hb); have HO624 := am (Kd.R_lower (Kd.R_new' (Kd.R_new' ho0 (Kd.R_lt (kR HO_6.out))) (Kd.R_lt (kR HO_8.out))) (below_size bB)); replace HO_6 := am (Kd.R_elder' (kR HO_6.out) (Kd.R_base ho0) hb); replace HO_8 := am (Kd.R_elder' (kR HO_8.out) (Kd.R_base ho0) hb); replace HB := am (below_step bB hb); (try clear hb); (try clear ho0); obtain ⟨Ao49, co49, eo49⟩ := Kd.R_slice HO624.out; subst eo49) | ((with_reducible refine gate_callee (f := 20) rfl ?_); refine gl 67 Tryd.func20 #[.slice Ao49 t622.length co49, .slice Ao24 t599.length co24] ?_; (with_reducible refine (laws_eqStringS.calls kj15 _ _ t622 _ _ t599 true _ ?side1 ?side2 ?side3 ?side4 A40.out).mono ?_); (case side1 => repeat (first | exact (Kd.R_reads' HO624.out).2.2 | (with_reducible refine Kd.C_alloc ?_ _) | (with_reducible refine Kd.C_drewN ?_ _) | (with_reducible refine Kd.C_drew ?_))); (case side2 => exact (Kd.R_reads' HO624.out).2.1); (case side3 => repeat (first | exact (Kd.R_reads' HO_6.out).2.2 | (with_reducible refine Kd.C_alloc ?_ _) | (with_reducible refine Kd.C_drewN ?_ _) | (with_reducible refine Kd.C_drew ?_))); (case side4 => exact (Kd.R_reads' HO_6.out).2.1); rintro e w' ⟨rfl, ⟨nd, rfl⟩⟩; refine ⟨_, rfl, ?_⟩) | ((with_reducible refine gate_callee (f := 22) rfl ?_); refine goesL_ (some 71) rfl rfl Tryd.func22 (by kernel_rfl) rfl #[.slice Ao23 t617.length co23, .int .i64 1] rfl (by (try simp only [List.map_toArray, List.map_cons, List.map_nil]); first | done | (rw [show t617.length = t605.length from (Kd.R_reads' HO_8.out).1.symm] <;> rfl) | rfl | (simp only [List.length_drop, List.length_take]; rfl)) ?_; (with_reducible refine (laws_heldStringS.calls kj15 _ _ t617 1 t626 _ ?side1 ?side2 A42.out).mono ?_); (case side1 => repeat (first | exact (Kd.R_reads' HO_8.out).2.2 | (with_reducible refine Kd.C_alloc ?_ _) | (with_reducible refine Kd.C_drewN ?_ _) | (with_reducible refine Kd.C_drew ?_))); (case side2 => rw [show t617.length = t605.length from (Kd.R_reads' HO_8.out).1.symm]; exact (Kd.R_reads' HO_8.out).2.1); rintro e w50 ⟨rfl, hb⟩; refine ⟨_, rfl, ?_⟩; replace HO_6 := am (Kd.R_below (kR HO_6.out) hb); replace HO_8 := am (Kd.R_below (kR HO_8.out) hb); replace HO621 := am (Kd.R_below (kR HO621.out) hb); replace HO624 := am (Kd.R_below (kR HO624.out) hb); replace HB := am (below_step bB hb); (try clear hb)))
    go_ret
    exact ⟨rv, bB⟩
   rw [if_neg c43] at H
   have c43b0 := decide_eq_false c43
   clear c43
   by_cases c51 : t626 = t616
   rotate_left
   ·rw [if_neg c51] at H
    have c51b0 : (t626 == t616) = false := beq_eq_false_iff_ne.mpr c51
    have c51b1 : (t626 != t616) = true := bne_iff_ne.mpr c51
    obtain rfl := Option.some.inj H
    go_wp2_with (first | ((with_reducible refine gate_callee (f := 21) rfl ?_); refine gl 52 Tryd.func21 #[.slice Ao23 t605.length co23, .int .i64 1] ?_; (with_reducible refine (laws_markStringS.calls kj15 (fun k_ => some k_ = (.slice Ao23 t605.length co23 : Value).ownBlock) (.slice Ao23 t605.length co23) t605 1 t616 t617 w _ ?side1 ?side2 A32.out).mono ?_); (case side1 => repeat (first | (with_reducible first | exact HB.out | apply below_alloc | apply pw_below_drewN | apply below_drew1) | exact HB.out)); (case side2 => exact Kd.R_tight rfl HO_8.out); rintro e w59 ⟨rfl, hy0, hb, hkp⟩; refine ⟨_, rfl, ?_⟩; replace HO_6 := am (Kd.R_mono (ok' := fun k_ => some k_ ≠ (.slice Ao23 t605.length co23 : Value).ownBlock) (Kd.R_keptB (HO_6.out) hkp (fun k_ hk_ hs_ => (hk_) hs_)) (fun k_ hk_ => hk_.1)); replace HO_8 := am (Kd.R_reok rfl hy0 (fun k_ e_ => HO_8.out.1 k_ e_)); replace HB := am (hb); (try clear hb); (try clear hkp); (try clear hy0)) | ((with_reducible refine gate_callee (f := 22) rfl ?_); refine goesL_ (some 55) rfl rfl Tryd.func22 (by kernel_rfl) rfl #[.slice Ao23 t617.length co23, .int .i64 1] rfl (by (try simp only [List.map_toArray, List.map_cons, List.map_nil]); first | done | (rw [show t617.length = t605.length from (Kd.R_reads' HO_8.out).1.symm] <;> rfl) | rfl | (simp only [List.length_drop, List.length_take]; rfl)) ?_; (with_reducible refine (laws_heldStringS.calls kj15 _ _ t617 1 t618 _ ?side1 ?side2 A33.out).mono ?_); (case side1 => repeat (first | exact (Kd.R_reads' HO_8.out).2.2 | (with_reducible refine Kd.C_alloc ?_ _) | (with_reducible refine Kd.C_drewN ?_ _) | (with_reducible refine Kd.C_drew ?_))); (case side2 => rw [show t617.length = t605.length from (Kd.R_reads' HO_8.out).1.symm]; exact (Kd.R_reads' HO_8.out).2.1); rintro e w60 ⟨rfl, hb⟩; refine ⟨_, rfl, ?_⟩; replace HO_6 := am (Kd.R_below (kR HO_6.out) hb); replace HO_8 := am (Kd.R_below (kR HO_8.out) hb); replace HB := am (below_step bB hb); (try clear hb)) | ((with_reducible refine gate_callee (f := 29) rfl ?_); refine gl 63 Tryd.func29 #[.slice A1 l1.length c1] ?_; (with_reducible refine (laws_toTailorS.calls kj15 _ _ l1 t619 _ ?side1 ?side2 A38.out).mono ?_); (case side1 => exact cC (Kd.C_below HR1.out HB.out)); (case side2 => exact HC1.out); rintro e w61 ⟨v620, rfl, ho0, hb⟩; refine ⟨_, rfl, ?_⟩; replace HO_6 := am (Kd.R_below (kR HO_6.out) hb); replace HO_8 := am (Kd.R_below (kR HO_8.out) hb); have HO621 := am (Kd.R_lower ho0 (below_size bB)); replace HB := am (below_step bB hb); (try clear hb); (try clear ho0); obtain ⟨Ao62, co62, eo62⟩ := Kd.R_slice HO621.out; subst eo62) | ((with_reducible refine gate_callee (f := 34) rfl ?_); refine gl 64 Tryd.func34 #[.string a0, .slice Ao62 t619.length co62] ?_; (with_reducible refine (impl_Words.calls kj15 a0 _ _ t619 t622 _ ?side1 ?side2 ?side3 A39.out).mono ?_); (case side1 => repeat (first | exact (Kd.R_reads' HO621.out).2.2 | (with_reducible refine Kd.C_alloc ?_ _) | (with_reducible refine Kd.C_drewN ?_ _) | (with_reducible refine Kd.C_drew ?_))); (case side2 => exact (Kd.R_reads' HO621.out).2.1); (case side3 => first | exact HGL.out | exact GL_below HGL.out bB); rintro e w63 ⟨v623, rfl, ho0, hb⟩; refine ⟨_, rfl, ?_⟩; replace HO621 := am (Kd.R_below (kR HO621.out) hb); have HO624 := am (Kd.R_lower (Kd.R_new' (Kd.R_new' ho0 (Kd.R_lt (kR HO_6.out))) (Kd.R_lt (kR HO_8.out))) (below_size bB)); replace HO_6 := am (Kd.R_elder' (kR HO_6.out) (Kd.R_base ho0) hb); replace HO_8 := am (Kd.R_elder' (kR HO_8.out) (Kd.R_base ho0) hb); replace HB := am (below_step bB hb); (try clear hb); (try clear ho0); obtain ⟨Ao64, co64, eo64⟩ := Kd.R_slice HO624.out; subst eo64) | ((with_reducible refine gate_callee (f := 20) rfl ?_); refine gl 67 Tryd.func20 #[.slice Ao64 t622.length co64, .slice Ao24 t599.length co24] ?_; (with_reducible refine (laws_eqStringS.calls kj15 _ _ t622 _ _ t599 true _ ?side1 ?side2 ?side3 ?side4 A40.out).mono ?_); (case side1 => repeat (first | exact (Kd.R_reads' HO624.out).2.2 | (with_reducible refine Kd.C_alloc ?_ _) | (with_reducible refine Kd.C_drewN ?_ _) | (with_reducible refine Kd.C_drew ?_))); (case side2 => exact (Kd.R_reads' HO624.out).2.1); (case side3 => repeat (first | exact (Kd.R_reads' HO_6.out).2.2 | (with_reducible refine Kd.C_alloc ?_ _) | (with_reducible refine Kd.C_drewN ?_ _) | (with_reducible refine Kd.C_drew ?_))); (case side4 => exact (Kd.R_reads' HO_6.out).2.1); rintro e w' ⟨rfl, ⟨nd, rfl⟩⟩; refine ⟨_, rfl, ?_⟩) | ((with_reducible refine gate_callee (f := 22) rfl ?_); refine goesL_ (some 71) rfl rfl Tryd.func22 (by kernel_rfl) rfl #[.slice Ao23 t617.length co23, .int .i64 1] rfl (by (try simp only [List.map_toArray, List.map_cons, List.map_nil]); first | done | (rw [show t617.length = t605.length from (Kd.R_reads' HO_8.out).1.symm] <;> rfl) | rfl | (simp only [List.length_drop, List.length_take]; rfl)) ?_; (with_reducible refine (laws_heldStringS.calls kj15 _ _ t617 1 t626 _ ?side1 ?side2 A42.out).mono ?_); (case side1 => repeat (first | exact (Kd.R_reads' HO_8.out).2.2 | (with_reducible refine Kd.C_alloc ?_ _) | (with_reducible refine Kd.C_drewN ?_ _) | (with_reducible refine Kd.C_drew ?_))); (case side2 => rw [show t617.length = t605.length from (Kd.R_reads' HO_8.out).1.symm]; exact (Kd.R_reads' HO_8.out).2.1); rintro e w65 ⟨rfl, hb⟩; refine ⟨_, rfl, ?_⟩; replace HO_6 := am (Kd.R_below (kR HO_6.out) hb); replace HO_8 := am (Kd.R_below (kR HO_8.out) hb); replace HO621 := am (Kd.R_below (kR HO621.out) hb); replace HO624 := am (Kd.R_below (kR HO624.out) hb); replace HB := am (below_step bB hb); (try clear hb)))
    go_ret
    exact ⟨rv, bB⟩
   rw [if_pos c51] at H
   have c51b0 : (t626 == t616) = true := beq_iff_eq.mpr c51
   have c51b1 : (t626 != t616) = false := bne_eq_false_iff_eq.mpr c51
   clear c51
   obtain rfl := Option.some.inj H
   go_wp2_with (first | ((with_reducible refine gate_callee (f := 21) rfl ?_); refine gl 52 Tryd.func21 #[.slice Ao23 t605.length co23, .int .i64 1] ?_; (with_reducible refine (laws_markStringS.calls kj15 (fun k_ => some k_ = (.slice Ao23 t605.length co23 : Value).ownBlock) (.slice Ao23 t605.length co23) t605 1 t616 t617 w _ ?side1 ?side2 A32.out).mono ?_); (case side1 => repeat (first | (with_reducible first | exact HB.out | apply below_alloc | apply pw_below_drewN | apply below_drew1) | exact HB.out)); (case side2 => exact Kd.R_tight rfl HO_8.out); rintro e w52 ⟨rfl, hy0, hb, hkp⟩; refine ⟨_, rfl, ?_⟩; replace HO_6 := am (Kd.R_mono (ok' := fun k_ => some k_ ≠ (.slice Ao23 t605.length co23 : Value).ownBlock) (Kd.R_keptB (HO_6.out) hkp (fun k_ hk_ hs_ => (hk_) hs_)) (fun k_ hk_ => hk_.1)); replace HO_8 := am (Kd.R_reok rfl hy0 (fun k_ e_ => HO_8.out.1 k_ e_)); replace HB := am (hb); (try clear hb); (try clear hkp); (try clear hy0)) | ((with_reducible refine gate_callee (f := 22) rfl ?_); refine goesL_ (some 55) rfl rfl Tryd.func22 (by kernel_rfl) rfl #[.slice Ao23 t617.length co23, .int .i64 1] rfl (by (try simp only [List.map_toArray, List.map_cons, List.map_nil]); first | done | (rw [show t617.length = t605.length from (Kd.R_reads' HO_8.out).1.symm] <;> rfl) | rfl | (simp only [List.length_drop, List.length_take]; rfl)) ?_; (with_reducible refine (laws_heldStringS.calls kj15 _ _ t617 1 t618 _ ?side1 ?side2 A33.out).mono ?_); (case side1 => repeat (first | exact (Kd.R_reads' HO_8.out).2.2 | (with_reducible refine Kd.C_alloc ?_ _) | (with_reducible refine Kd.C_drewN ?_ _) | (with_reducible refine Kd.C_drew ?_))); (case side2 => rw [show t617.length = t605.length from (Kd.R_reads' HO_8.out).1.symm]; exact (Kd.R_reads' HO_8.out).2.1); rintro e w53 ⟨rfl, hb⟩; refine ⟨_, rfl, ?_⟩; replace HO_6 := am (Kd.R_below (kR HO_6.out) hb); replace HO_8 := am (Kd.R_below (kR HO_8.out) hb); replace HB := am (below_step bB hb); (try clear hb)) | ((with_reducible refine gate_callee (f := 29) rfl ?_); refine gl 63 Tryd.func29 #[.slice A1 l1.length c1] ?_; (with_reducible refine (laws_toTailorS.calls kj15 _ _ l1 t619 _ ?side1 ?side2 A38.out).mono ?_); (case side1 => exact cC (Kd.C_below HR1.out HB.out)); (case side2 => exact HC1.out); rintro e w54 ⟨v620, rfl, ho0, hb⟩; refine ⟨_, rfl, ?_⟩; replace HO_6 := am (Kd.R_below (kR HO_6.out) hb); replace HO_8 := am (Kd.R_below (kR HO_8.out) hb); have HO621 := am (Kd.R_lower ho0 (below_size bB)); replace HB := am (below_step bB hb); (try clear hb); (try clear ho0); obtain ⟨Ao55, co55, eo55⟩ := Kd.R_slice HO621.out; subst eo55) | ((with_reducible refine gate_callee (f := 34) rfl ?_); refine gl 64 Tryd.func34 #[.string a0, .slice Ao55 t619.length co55] ?_; (with_reducible refine (impl_Words.calls kj15 a0 _ _ t619 t622 _ ?side1 ?side2 ?side3 A39.out).mono ?_); (case side1 => repeat (first | exact (Kd.R_reads' HO621.out).2.2 | (with_reducible refine Kd.C_alloc ?_ _) | (with_reducible refine Kd.C_drewN ?_ _) | (with_reducible refine Kd.C_drew ?_))); (case side2 => exact (Kd.R_reads' HO621.out).2.1); (case side3 => first | exact HGL.out | exact GL_below HGL.out bB); rintro e w56 ⟨v623, rfl, ho0, hb⟩; refine ⟨_, rfl, ?_⟩; replace HO621 := am (Kd.R_below (kR HO621.out) hb); have HO624 := am (Kd.R_lower (Kd.R_new' (Kd.R_new' ho0 (Kd.R_lt (kR HO_6.out))) (Kd.R_lt (kR HO_8.out))) (below_size bB)); replace HO_6 := am (Kd.R_elder' (kR HO_6.out) (Kd.R_base ho0) hb); replace HO_8 := am (Kd.R_elder' (kR HO_8.out) (Kd.R_base ho0) hb); replace HB := am (below_step bB hb); (try clear hb); (try clear ho0); obtain ⟨Ao57, co57, eo57⟩ := Kd.R_slice HO624.out; subst eo57) | ((with_reducible refine gate_callee (f := 20) rfl ?_); refine gl 67 Tryd.func20 #[.slice Ao57 t622.length co57, .slice Ao24 t599.length co24] ?_; (with_reducible refine (laws_eqStringS.calls kj15 _ _ t622 _ _ t599 true _ ?side1 ?side2 ?side3 ?side4 A40.out).mono ?_); (case side1 => repeat (first | exact (Kd.R_reads' HO624.out).2.2 | (with_reducible refine Kd.C_alloc ?_ _) | (with_reducible refine Kd.C_drewN ?_ _) | (with_reducible refine Kd.C_drew ?_))); (case side2 => exact (Kd.R_reads' HO624.out).2.1); (case side3 => repeat (first | exact (Kd.R_reads' HO_6.out).2.2 | (with_reducible refine Kd.C_alloc ?_ _) | (with_reducible refine Kd.C_drewN ?_ _) | (with_reducible refine Kd.C_drew ?_))); (case side4 => exact (Kd.R_reads' HO_6.out).2.1); rintro e w' ⟨rfl, ⟨nd, rfl⟩⟩; refine ⟨_, rfl, ?_⟩) | ((with_reducible refine gate_callee (f := 22) rfl ?_); refine goesL_ (some 71) rfl rfl Tryd.func22 (by kernel_rfl) rfl #[.slice Ao23 t617.length co23, .int .i64 1] rfl (by (try simp only [List.map_toArray, List.map_cons, List.map_nil]); first | done | (rw [show t617.length = t605.length from (Kd.R_reads' HO_8.out).1.symm] <;> rfl) | rfl | (simp only [List.length_drop, List.length_take]; rfl)) ?_; (with_reducible refine (laws_heldStringS.calls kj15 _ _ t617 1 t626 _ ?side1 ?side2 A42.out).mono ?_); (case side1 => repeat (first | exact (Kd.R_reads' HO_8.out).2.2 | (with_reducible refine Kd.C_alloc ?_ _) | (with_reducible refine Kd.C_drewN ?_ _) | (with_reducible refine Kd.C_drew ?_))); (case side2 => rw [show t617.length = t605.length from (Kd.R_reads' HO_8.out).1.symm]; exact (Kd.R_reads' HO_8.out).2.1); rintro e w58 ⟨rfl, hb⟩; refine ⟨_, rfl, ?_⟩; replace HO_6 := am (Kd.R_below (kR HO_6.out) hb); replace HO_8 := am (Kd.R_below (kR HO_8.out) hb); replace HO621 := am (Kd.R_below (kR HO621.out) hb); replace HO624 := am (Kd.R_below (kR HO624.out) hb); replace HB := am (below_step bB hb); (try clear hb)))
   go_ret
   exact ⟨rv, bB⟩
def Q56 (x : S56) : Prop := (Lit.int .i64 x.f0).wf = true ∧ (Lit.int .i64 x.f1).wf = true ∧ True
/-- THE ONE PURE STATEMENT of laws_FnExactWords. -/
def laws_FnExactWords.Pure : Prop := ∀ (a0 : ByteArray) (l1 : List (S56)), (a0.size ≤ 140737488351232) → ((l1.length ≤ maxLen ∧ ∀ y ∈ l1, Q56 y)) → ∃ k, laws_FnExactWords.f k a0 l1 = some true
end Go.Proofs.YtmlhnpggjkoinaaDoor.PFnExactWords

-- Written by a program of this session (wip/tools/myprint.py) that runs the kit's print with hooks of its own. Lean checks it.
import Derived.Test.YtmlhnpggjkoinaaDoorPFnExactWordsx0
import Derived.Test.YtmlhnpggjkoinaaDoorSlimMore
import Derived.Test.YtmlhnpggjkoinaaDoorPFnExactWordsx12
namespace Go.Proofs.YtmlhnpggjkoinaaDoor.PFnExactWords
open Go.RowKit Go.Proofs.YtmlhnpggjkoinaaDoorW.PrintWords Go.Proofs.YtmlhnpggjkoinaaDoorW.PrintLast Go.Proofs.YtmlhnpggjkoinaaDoorW.PrintMore
attribute [local go_sem] max2_int min2_int max_two min_two max_three min_three max_four min_four   -- for this text's walks alone
set_option linter.unusedVariables false
set_option linter.unusedSimpArgs false

/-! ### impl_read: function 56 -/
def impl_read.l0 : Nat → ByteArray → List (S74) → Int → Option ((List (S74)))
 | 0, _, _, _ => none
 | k + 1, x0, x3, x4 => if x4 < (x0.size : Int) then (if 0 ≤ x4 then (if x4 ≤ (x0.size : Int) then ((utf8_DecodeRuneInString.f (x0.extract (x4 : Int).toNat x0.size)).bind fun bt351 => (if bt351.1 = 65533 then (if x3.length < 4398046511104 then (impl_read.l0 k x0 (x3 ++ [(⟨wrap64 (bt351.1), x4, wrap64 (x4 + bt351.2), (bt351.2 == 1)⟩ : S74)]) (wrap64 (x4 + bt351.2))) else (none)) else (if x3.length < 4398046511104 then (impl_read.l0 k x0 (x3 ++ [(⟨wrap64 (bt351.1), x4, wrap64 (x4 + bt351.2), false⟩ : S74)]) (wrap64 (x4 + bt351.2))) else (none)))) else (none)) else (none)) else (some x3)
def impl_read.f (k : Nat) (a0 : ByteArray) : Option ((List (S74))) := impl_read.l0 k a0 ([] : List (S74)) 0
set_option maxHeartbeats 8000000 in
set_option maxRecDepth 100000 in
theorem impl_read.calls (k : Nat) (a0 : ByteArray) (r : List (S74)) (w : World) (hG : GL w) (h : impl_read.f k a0 = some r) :
  Calls Tryd.prog 56 #[.string a0] w fun e w' => ∃ v0_ : Value, e = .returned (v0_) ∧ Kd.R k74 74 w' w.heap.size (fun _ => True) v0_ r ∧ Below w.heap.size w w' := by
 have hu74 := Tryd.underlying74
 have HGL := am hG
 clear hG
 have HB := am (Below.refl w.heap.size w)
 have H : (impl_read.l0 k a0 ([] : List (S74)) 0) = some r := h
 clear h
 have H' := am H
 clear H
 go_enter Tryd.func56, Tryd.ntmps56
 go_wp2
 go_loopg [3, 4] k (fun kq v3 v4 w' => ∃ (x3_1 : List (S74)) (x4_1 : Int), v4 = .int .i64 x4_1 ∧ Aside0 (impl_read.l0 kq a0 x3_1 x4_1 = some r) ∧ Aside0 (kq ≤ k) ∧ Aside0 (Kd.R k74 74 w' w.heap.size (fun _ => True) v3 x3_1) ∧ Aside0 (Below w.heap.size w w'))
 case atStart => exact ⟨(([] : List (S74))), (0), sr, H', ⟨Nat.le_refl _⟩, ⟨by first | exact Kd.R_nil _ _ _ _ _ | exact Kd.N_nil _ _ _ _ _ | exact Kd.V_nil _ _ _ _ _ | exact Kd.Q_nil _ _ _ _ _ | exact Kd.S_nil _ _ _ _ _⟩, ⟨bB⟩⟩
 case round =>
  clear H'
  obtain ⟨x3_1, x4_1, rfl, HA, HK1, HO_3, HB⟩ := hrel
  cases gk with
  | zero => exact absurd HA.out (by simp [impl_read.l0])
  | succ k1 =>
   have H := HA.out
   clear HA
   simp only [impl_read.l0] at H
   by_cases c2 : x4_1 < (a0.size : Int)
   rotate_left
   ·rw [if_neg c2] at H
    have c2b0 := decide_eq_false c2
    clear c2
    obtain rfl := Option.some.inj H
    go_wp2
    go_ret
    exact ⟨_, rv, kR HO_3.out, bB⟩
   rw [if_pos c2] at H
   have c2b0 := decide_eq_true c2
   clear c2
   replace H := iteN H
   obtain ⟨c3, H⟩ := H
   have c3b0 := eq_true c3
   have c3b1 := decide_eq_true c3
   clear c3
   replace H := iteN H
   obtain ⟨c4, H⟩ := H
   have c4b0 := eq_true c4
   have c4b1 := decide_eq_true c4
   clear c4
   replace H := Option.bind_eq_some_iff.mp H
   obtain ⟨⟨t351, t352⟩, A50, H⟩ := H
   replace H : (if t351 = 65533 then (if x3_1.length < 4398046511104 then (impl_read.l0 k1 a0 (x3_1 ++ [(⟨wrap64 (t351), x4_1, wrap64 (x4_1 + t352), (t352 == 1)⟩ : S74)]) (wrap64 (x4_1 + t352))) else (none)) else (if x3_1.length < 4398046511104 then (impl_read.l0 k1 a0 (x3_1 ++ [(⟨wrap64 (t351), x4_1, wrap64 (x4_1 + t352), false⟩ : S74)]) (wrap64 (x4_1 + t352))) else (none))) = some r := H
   have A5 := am A50
   clear A50
   by_cases c6 : t351 = 65533
   rotate_left
   ·rw [if_neg c6] at H
    have c6b0 : (t351 == 65533) = false := beq_eq_false_iff_ne.mpr c6
    have c6b1 : (t351 != 65533) = true := bne_iff_ne.mpr c6
    replace H := iteN H
    obtain ⟨c10, H⟩ := H
    have LMc10 := am c10
    clear c10
    obtain ⟨y356, hy356⟩ : ∃ y_ : List (S74), y_ = (x3_1 ++ [(⟨wrap64 (t351), x4_1, wrap64 (x4_1 + t352), false⟩ : S74)]) := ⟨_, rfl⟩
    replace H : (impl_read.l0 k1 a0 y356 (wrap64 (x4_1 + t352))) = some r := rY hy356
    have Ny356 := am hy356
    clear hy356
    have H' := am H
    clear H
    go_wp2_with (first | ((with_reducible refine gate_callee (f := 84) rfl ?_); refine gl 16 Tryd.func84 #[.string (a0.extract (x4_1 : Int).toNat a0.size)] ?_; (with_reducible refine (utf8_DecodeRuneInString.calls (a0.extract (x4_1 : Int).toNat a0.size) t351 t352 _ ?side1 A5.out).mono ?_); (case side1 => first | exact HGL.out | exact GL_below HGL.out bB); rintro e w11 ⟨rfl, hb⟩; refine ⟨_, rfl, ?_⟩; replace HO_3 := am (Kd.R_below (kR HO_3.out) hb); replace HB := am (below_step bB hb); (try clear hb)) | ((with_reducible refine gate_builtin (b := .append) (xs := #[.tmp 25, .tmp 34]) rfl ?_); at_builtin; refine Kd.R_append k74 (w0 := w) w.heap.size rfl (.tmp 25) (.tmp 34) 57 74 (.agg #[(.int .i64 0), (.int .i64 0), (.int .i64 0), (.bool false)]) 32 rfl Tryd.underlying57 info74 rfl (by decide) (by omega) u3 x3_1 (⟨wrap64 (t351), x4_1, wrap64 (x4_1 + t352), false⟩ : S74) [.int .i64 (wrap64 (t351)), .int .i64 x4_1, .int .i64 (wrap64 (x4_1 + t352)), .bool false] (fun _ => True) (fun _ => False) rfl rfl ?aP (fun _ hk => hk.elim) ?aF ?aO ?aB ?aS ?aL ?_; (case aP => exact k74_mkM _ _ _ (⟨wrap64 (t351), x4_1, wrap64 (x4_1 + t352), false⟩ : S74)); (case aB => exact bB); (case aF => exact (fun _ _ => trivial)); (case aO => exact (kR HO_3.out)); (case aS => exact (below_size bB)); (case aL => have := LMc10.out; omega); intro v357 w12 ho hb hg hat; rw [← Ny356.out] at ho; replace HB := am (hb); have HO358 := am (ho); clear HO_3; clear ho hb hg hat))
    go_roundg k1
    case measure => have := HK1.out; omega
    case rel => exact ⟨(y356), (wrap64 (x4_1 + t352)), sr, H', ⟨kl⟩, ⟨kR HO358.out⟩, ⟨bB⟩⟩
   rw [if_pos c6] at H
   have c6b0 : (t351 == 65533) = true := beq_iff_eq.mpr c6
   have c6b1 : (t351 != 65533) = false := bne_eq_false_iff_eq.mpr c6
   clear c6
   replace H := iteN H
   obtain ⟨c7, H⟩ := H
   have LMc7 := am c7
   clear c7
   obtain ⟨y353, hy353⟩ : ∃ y_ : List (S74), y_ = (x3_1 ++ [(⟨wrap64 (t351), x4_1, wrap64 (x4_1 + t352), (t352 == 1)⟩ : S74)]) := ⟨_, rfl⟩
   replace H : (impl_read.l0 k1 a0 y353 (wrap64 (x4_1 + t352))) = some r := rY hy353
   have Ny353 := am hy353
   clear hy353
   have H' := am H
   clear H
   go_wp2_with (first | ((with_reducible refine gate_callee (f := 84) rfl ?_); refine gl 16 Tryd.func84 #[.string (a0.extract (x4_1 : Int).toNat a0.size)] ?_; (with_reducible refine (utf8_DecodeRuneInString.calls (a0.extract (x4_1 : Int).toNat a0.size) t351 t352 _ ?side1 A5.out).mono ?_); (case side1 => first | exact HGL.out | exact GL_below HGL.out bB); rintro e w8 ⟨rfl, hb⟩; refine ⟨_, rfl, ?_⟩; replace HO_3 := am (Kd.R_below (kR HO_3.out) hb); replace HB := am (below_step bB hb); (try clear hb)) | ((with_reducible refine gate_builtin (b := .append) (xs := #[.tmp 25, .tmp 34]) rfl ?_); at_builtin; refine Kd.R_append k74 (w0 := w) w.heap.size rfl (.tmp 25) (.tmp 34) 57 74 (.agg #[(.int .i64 0), (.int .i64 0), (.int .i64 0), (.bool false)]) 32 rfl Tryd.underlying57 info74 rfl (by decide) (by omega) u3 x3_1 (⟨wrap64 (t351), x4_1, wrap64 (x4_1 + t352), (t352 == 1)⟩ : S74) [.int .i64 (wrap64 (t351)), .int .i64 x4_1, .int .i64 (wrap64 (x4_1 + t352)), .bool (t352 == 1)] (fun _ => True) (fun _ => False) rfl rfl ?aP (fun _ hk => hk.elim) ?aF ?aO ?aB ?aS ?aL ?_; (case aP => exact k74_mkM _ _ _ (⟨wrap64 (t351), x4_1, wrap64 (x4_1 + t352), (t352 == 1)⟩ : S74)); (case aB => exact bB); (case aF => exact (fun _ _ => trivial)); (case aO => exact (kR HO_3.out)); (case aS => exact (below_size bB)); (case aL => have := LMc7.out; omega); intro v354 w9 ho hb hg hat; rw [← Ny353.out] at ho; replace HB := am (hb); have HO355 := am (ho); clear HO_3; clear ho hb hg hat))
   go_roundg k1
   case measure => have := HK1.out; omega
   case rel => exact ⟨(y353), (wrap64 (x4_1 + t352)), sr, H', ⟨kl⟩, ⟨kR HO355.out⟩, ⟨bB⟩⟩
/-! ### impl_placesOf: function 57 -/
def impl_placesOf.l0 : Nat → Int → List Bool → List Int → List (S74) → Int → Int → Option (List Int)
 | 0, _, _, _, _, _, _ => none
 | k + 1, x1, x2, x7, x13, x14, x15 => if x15 < x14 then (if 0 ≤ x15 then (if x15 < (x13.length : Int) then (if x15 > 0 then (if x15 < (x2.length : Int) then (if rdOf false x2 x15 = true then (if x7.length < 17592186044416 then (impl_placesOf.l0 k x1 x2 (x7 ++ [(rd_T74 x13 x15).f1]) x13 x14 (wrap64 (x15 + 1))) else (none)) else (impl_placesOf.l0 k x1 x2 x7 x13 x14 (wrap64 (x15 + 1)))) else (none)) else (impl_placesOf.l0 k x1 x2 x7 x13 x14 (wrap64 (x15 + 1)))) else (none)) else (none)) else (if x7.length < 17592186044416 then (some (x7 ++ [x1])) else (none))
def impl_placesOf.f (k : Nat) (l0 : List (S74)) (a1 : Int) (l2 : List Bool) : Option (List Int) := if a1 = 0 then (some ([] : List Int)) else (impl_placesOf.l0 k a1 l2 (([0] : List Int)) l0 (l0.length : Int) 0)
set_option maxHeartbeats 8000000 in
set_option maxRecDepth 100000 in
theorem impl_placesOf.calls (k : Nat) (A0 : Option Addr) (c0 : Nat) (l0 : List (S74)) (a1 : Int) (A2 : Option Addr) (c2 : Nat) (l2 : List Bool) (r : List Int) (w : World) (hr0 : Kd.C k74 w A0 l0.length l0) (hc0 : l0.length ≤ c0) (hr2 : Kd.C Kd.bool w A2 l2.length l2) (hc2 : l2.length ≤ c2) (h : impl_placesOf.f k l0 a1 l2 = some r) :
  Calls Tryd.prog 57 #[.slice A0 l0.length c0, .int .i64 a1, .slice A2 l2.length c2] w fun e w' => ∃ v0_ : Value, e = .returned (v0_) ∧ Kd.R (Kd.int .i64) 2 w' w.heap.size (fun _ => True) v0_ r ∧ Below w.heap.size w w' := by
 have hu74 := Tryd.underlying74
 have HR0 := am hr0
 have HC0 := am hc0
 clear hr0 hc0
 have HR2 := am hr2
 have HC2 := am hc2
 clear hr2 hc2
 have HB := am (Below.refl w.heap.size w)
 have H : (if a1 = 0 then (some ([] : List Int)) else (impl_placesOf.l0 k a1 l2 (([0] : List Int)) l0 (l0.length : Int) 0)) = some r := h
 clear h
 by_cases c4 : a1 = 0
 ·rw [if_pos c4] at H
  have c4b0 : (a1 == 0) = true := beq_iff_eq.mpr c4
  have c4b1 : (a1 != 0) = false := bne_eq_false_iff_eq.mpr c4
  clear c4
  obtain rfl := Option.some.inj H
  go_enter Tryd.func57, Tryd.ntmps57
  go_wp2
  go_ret
  exact ⟨_, rv, by first | exact Kd.R_nil _ _ _ _ _ | exact Kd.N_nil _ _ _ _ _ | exact Kd.V_nil _ _ _ _ _ | exact Kd.Q_nil _ _ _ _ _ | exact Kd.S_nil _ _ _ _ _, bB⟩
 rw [if_neg c4] at H
 have c4b0 : (a1 == 0) = false := beq_eq_false_iff_ne.mpr c4
 have c4b1 : (a1 != 0) = true := bne_iff_ne.mpr c4
 obtain ⟨y359, hy359⟩ : ∃ y_ : List Int, y_ = (([0] : List Int)) := ⟨_, rfl⟩
 replace H : (impl_placesOf.l0 k a1 l2 y359 l0 (l0.length : Int) 0) = some r := rY hy359
 have Ny359 := am hy359
 clear hy359
 have H' := am H
 clear H
 go_enter Tryd.func57, Tryd.ntmps57
 go_wp2_with (first | ((with_reducible refine gate_dst (N := 12) rfl ?_); refine Kd.R_lit (Kd.int .i64) _ 2 ?hg (N := 12) ?hd (xs := ([0] : List Int)) (inner := [.int .i64 0]) (ok := fun _ => True) (okp := fun _ => True) ?hr ?hp (fun _ hk => hk) trivial (Below.refl _ _) (Nat.le_refl _) (by simp) ?_; (case hd => rfl); (case hg => rfl); (case hr => first | (go_simp; done) | (go_simp; rfl)); (case hp => exact (Reps.one (show Kd.M (Kd.int .i64) _ _ _ 0 [.int .i64 0] from rfl) (Reps.none _ _))); intro v360 w5 ho6 hb hg_ hnew_; clear hg_ hnew_; (first | rw [← Ny359.out] at ho6 | (simp only [Int.reduceToNat] at ho6; rw [← Ny359.out] at ho6)); have HO361 := am (Kd.R_lower ho6 (below_size bB)); replace HB := am (below_step bB hb); clear hb ho6))
 go_loopg [7, 15] k (fun kq v7 v15 w' => ∃ (x7_1 : List Int) (x15_1 : Int), v15 = .int .i64 x15_1 ∧ Aside0 (impl_placesOf.l0 kq a1 l2 x7_1 l0 (l0.length : Int) x15_1 = some r) ∧ Aside0 (kq ≤ k) ∧ Aside0 (Kd.R (Kd.int .i64) 2 w' w.heap.size (fun _ => True) v7 x7_1) ∧ Aside0 (Below w.heap.size w w'))
 case atStart => exact ⟨(y359), (0), sr, H', ⟨Nat.le_refl _⟩, ⟨kR HO361.out⟩, ⟨bB⟩⟩
 case round =>
  clear H'
  try clear c2
  try clear c4
  try clear c4b0
  try clear c4b1
  obtain ⟨x7_1, x15_1, rfl, HA, HK1, HO_7, HB⟩ := hrel
  cases gk with
  | zero => exact absurd HA.out (by simp [impl_placesOf.l0])
  | succ k1 =>
   have H := HA.out
   clear HA
   simp only [impl_placesOf.l0] at H
   by_cases c7 : x15_1 < (l0.length : Int)
   rotate_left
   ·rw [if_neg c7] at H
    have c7b0 := decide_eq_false c7
    clear c7
    replace H := iteN H
    obtain ⟨c22, H⟩ := H
    have LMc22 := am c22
    clear c22
    obtain ⟨y368, hy368⟩ : ∃ y_ : List Int, y_ = (x7_1 ++ [a1]) := ⟨_, rfl⟩
    replace H : (some y368) = some r := rY hy368
    have Ny368 := am hy368
    clear hy368
    obtain rfl := Option.some.inj H
    go_wp2_with (first | ((with_reducible refine gate_builtin (b := .append) (xs := #[.tmp 34, .tmp 36]) rfl ?_); at_builtin; refine Kd.R_append (Kd.int .i64) (w0 := w) w.heap.size rfl (.tmp 34) (.tmp 36) 22 2 (.int .i64 0) 8 rfl Tryd.underlying22 info2 rfl (by decide) (by omega) u7 x7_1 a1 [.int .i64 a1] (fun _ => True) (fun _ => False) rfl rfl ?aP (fun _ hk => hk.elim) ?aF ?aO ?aB ?aS ?aL ?_; (case aP => exact rfl); (case aB => exact bB); (case aF => exact (fun _ _ => trivial)); (case aO => exact (kR HO_7.out)); (case aS => exact (below_size bB)); (case aL => have := LMc22.out; omega); intro v369 w23 ho hb hg hat; rw [← Ny368.out] at ho; replace HB := am (hb); have HO370 := am (ho); clear HO_7; clear ho hb hg hat))
    go_ret
    exact ⟨_, rv, kR HO370.out, bB⟩
   rw [if_pos c7] at H
   have c7b0 := decide_eq_true c7
   clear c7
   replace H := iteN H
   obtain ⟨c8, H⟩ := H
   have c8b0 := decide_eq_true c8
   clear c8
   replace H := iteN H
   obtain ⟨c9, H⟩ := H
   have c9b0 := decide_eq_true c9
   clear c9
   by_cases c10 : x15_1 > 0
   rotate_left
   ·rw [if_neg c10] at H
    have c10b0 : decide (0 < x15_1) = false := decide_eq_false c10
    clear c10
    have H' := am H
    clear H
    have p362 : 0 ≤ (x15_1 : Int) := od
    have q362 : x15_1 < (l0.length : Int) := od
    obtain ⟨ad362, e362, hx362_0, hx362_1, hx362_2, hx362_3⟩ := at_T74 HR0.out x15_1 p362 q362
    cases e362
    replace hx362_0 := cl HB hx362_0
    replace hx362_1 := cl HB hx362_1
    replace hx362_2 := cl HB hx362_2
    replace hx362_3 := cl HB hx362_3
    replace p362 := eq_true p362; replace q362 := eq_true q362
    go_wp2_with (first | ((with_reducible refine gate_dst (N := 9) rfl ?_); refine bx 9 #[.int .i64 0, .int .i64 0, .int .i64 0, .bool false] 74 ?_; intro gb363 hg w20 hbox hb; replace HO_7 := am (Kd.R_below (kR HO_7.out) hb); have BK363 := am (hbox); have GW363 := am ((by rw [hg]; exact (below_size bB) : w.heap.size ≤ gb363)); have GE363 := am ((by rw [hg]; exact (below_size bB) : w.heap.size ≤ gb363)); replace HB := am (below_step bB hb); clear hb hbox hg; have hcz21_0 := bc BK363.out 0 (.int .i64 0); have hcz21_1 := bc BK363.out 1 (.int .i64 0); have hcz21_2 := bc BK363.out 2 (.int .i64 0); have hcz21_3 := bc BK363.out 3 (.bool false); have hfz21_0 := blk_frozen BK363.out 0; have hfz21_1 := blk_frozen BK363.out 1; have hfz21_2 := blk_frozen BK363.out 2; have hfz21_3 := blk_frozen BK363.out 3))
    go_roundg k1
    case measure => have := HK1.out; omega
    case rel => exact ⟨(x7_1), (wrap64 (x15_1 + 1)), sr, H', ⟨kl⟩, ⟨kR (Kd.R_mono (Kd.R_far (p := ⟨gb363, 3, none⟩) (Kd.R_far (p := ⟨gb363, 2, none⟩) (Kd.R_far (p := ⟨gb363, 1, none⟩) (Kd.R_far (p := ⟨gb363, 0, none⟩) (Kd.R_types HO_7.out BK363.out (by decide)) (fun _ hk => hk.2) (.int .i64 ((rd_T74 l0 x15_1).f0))) (fun _ hk => hk.2) (.int .i64 ((rd_T74 l0 x15_1).f1))) (fun _ hk => hk.2) (.int .i64 ((rd_T74 l0 x15_1).f2))) (fun _ hk => hk.2) (.bool ((rd_T74 l0 x15_1).f3))) (fun _ hk => trivial))⟩, ⟨bS⟩⟩
   rw [if_pos c10] at H
   have c10b0 : decide (0 < x15_1) = true := decide_eq_true c10
   clear c10
   replace H := iteN H
   obtain ⟨c11, H⟩ := H
   have c11b0 := decide_eq_true c11
   clear c11
   obtain ⟨bq12, hbq12⟩ : ∃ b_ : Bool, b_ = (rdOf false l2 x15_1) := ⟨_, rfl⟩
   replace H : (if bq12 = true then (if x7_1.length < 17592186044416 then (impl_placesOf.l0 k1 a1 l2 (x7_1 ++ [(rd_T74 l0 x15_1).f1]) l0 (l0.length : Int) (wrap64 (x15_1 + 1))) else (none)) else (impl_placesOf.l0 k1 a1 l2 x7_1 l0 (l0.length : Int) (wrap64 (x15_1 + 1)))) = some r := by rw [← hbq12] at H; exact H
   have Nbq12 := am hbq12
   clear hbq12
   by_cases c13 : bq12 = true
   rotate_left
   ·replace c13 := Bool.eq_false_iff.mpr c13
    subst c13
    replace H := iF H
    have H' := am H
    clear H
    have p362 : 0 ≤ (x15_1 : Int) := od
    have q362 : x15_1 < (l0.length : Int) := od
    obtain ⟨ad362, e362, hx362_0, hx362_1, hx362_2, hx362_3⟩ := at_T74 HR0.out x15_1 p362 q362
    (try rw [← Nbq12.out] at hx362_3)
    cases e362
    replace hx362_0 := cl HB hx362_0
    replace hx362_1 := cl HB hx362_1
    replace hx362_2 := cl HB hx362_2
    replace hx362_3 := cl HB hx362_3
    replace p362 := eq_true p362; replace q362 := eq_true q362
    go_wp2_with (first | ((with_reducible refine gate_dst (N := 9) rfl ?_); refine bx 9 #[.int .i64 0, .int .i64 0, .int .i64 0, .bool false] 74 ?_; intro gb363 hg w18 hbox hb; replace HO_7 := am (Kd.R_below (kR HO_7.out) hb); have BK363 := am (hbox); have GW363 := am ((by rw [hg]; exact (below_size bB) : w.heap.size ≤ gb363)); have GE363 := am ((by rw [hg]; exact (below_size bB) : w.heap.size ≤ gb363)); replace HB := am (below_step bB hb); clear hb hbox hg; have hcz19_0 := bc BK363.out 0 (.int .i64 0); have hcz19_1 := bc BK363.out 1 (.int .i64 0); have hcz19_2 := bc BK363.out 2 (.int .i64 0); have hcz19_3 := bc BK363.out 3 (.bool false); have hfz19_0 := blk_frozen BK363.out 0; have hfz19_1 := blk_frozen BK363.out 1; have hfz19_2 := blk_frozen BK363.out 2; have hfz19_3 := blk_frozen BK363.out 3; have p364 : 0 ≤ (x15_1 : Int) := od; have q364 : x15_1 < (l2.length : Int) := od; obtain ⟨ad364, e364, hx364_0⟩ := Kd.at_bool HR2.out x15_1 p364 q364; (try rw [← Nbq12.out] at hx364_0); cases e364; have hn364_0 : ad364.block ≠ gb363 := Nat.ne_of_lt (Nat.lt_of_lt_of_le (by have := World.block_lt_of_cell? _ _ hx364_0; first | rwa [add_block] at this | exact this) GW363.out); have hn364_1 : ad364.block ≠ gb363 := Nat.ne_of_lt (Nat.lt_of_lt_of_le (by have := World.block_lt_of_cell? _ _ hx364_0; first | rwa [add_block] at this | exact this) GW363.out); have hn364_2 : ad364.block ≠ gb363 := Nat.ne_of_lt (Nat.lt_of_lt_of_le (by have := World.block_lt_of_cell? _ _ hx364_0; first | rwa [add_block] at this | exact this) GW363.out); have hn364_3 : ad364.block ≠ gb363 := Nat.ne_of_lt (Nat.lt_of_lt_of_le (by have := World.block_lt_of_cell? _ _ hx364_0; first | rwa [add_block] at this | exact this) GW363.out); replace hx364_0 := cl HB hx364_0; replace hx364_0 := (cell_far (p := ⟨gb363, 0, none⟩) (by first | (rw [add_block]; exact hn364_0) | (show (Addr.add _ _).block ≠ _; rw [add_block]; exact hn364_0) | exact hn364_0) (.int .i64 ((rd_T74 l0 x15_1).f0))).trans hx364_0; replace hx364_0 := (cell_far (p := ⟨gb363, 1, none⟩) (by first | (rw [add_block]; exact hn364_1) | (show (Addr.add _ _).block ≠ _; rw [add_block]; exact hn364_1) | exact hn364_1) (.int .i64 ((rd_T74 l0 x15_1).f1))).trans hx364_0; replace hx364_0 := (cell_far (p := ⟨gb363, 2, none⟩) (by first | (rw [add_block]; exact hn364_2) | (show (Addr.add _ _).block ≠ _; rw [add_block]; exact hn364_2) | exact hn364_2) (.int .i64 ((rd_T74 l0 x15_1).f2))).trans hx364_0; replace hx364_0 := (cell_far (p := ⟨gb363, 3, none⟩) (by first | (rw [add_block]; exact hn364_3) | (show (Addr.add _ _).block ≠ _; rw [add_block]; exact hn364_3) | exact hn364_3) (.bool ((rd_T74 l0 x15_1).f3))).trans hx364_0; clear hn364_0; clear hn364_1; clear hn364_2; clear hn364_3; replace p364 := eq_true p364; replace q364 := eq_true q364))
    go_roundg k1
    case measure => have := HK1.out; omega
    case rel => exact ⟨(x7_1), (wrap64 (x15_1 + 1)), sr, H', ⟨kl⟩, ⟨kR (Kd.R_mono (Kd.R_far (p := ⟨gb363, 3, none⟩) (Kd.R_far (p := ⟨gb363, 2, none⟩) (Kd.R_far (p := ⟨gb363, 1, none⟩) (Kd.R_far (p := ⟨gb363, 0, none⟩) (Kd.R_types HO_7.out BK363.out (by decide)) (fun _ hk => hk.2) (.int .i64 ((rd_T74 l0 x15_1).f0))) (fun _ hk => hk.2) (.int .i64 ((rd_T74 l0 x15_1).f1))) (fun _ hk => hk.2) (.int .i64 ((rd_T74 l0 x15_1).f2))) (fun _ hk => hk.2) (.bool ((rd_T74 l0 x15_1).f3))) (fun _ hk => trivial))⟩, ⟨bS⟩⟩
   subst c13
   replace H := iT H
   replace H := iteN H
   obtain ⟨c14, H⟩ := H
   have LMc14 := am c14
   clear c14
   obtain ⟨y365, hy365⟩ : ∃ y_ : List Int, y_ = (x7_1 ++ [(rd_T74 l0 x15_1).f1]) := ⟨_, rfl⟩
   replace H : (impl_placesOf.l0 k1 a1 l2 y365 l0 (l0.length : Int) (wrap64 (x15_1 + 1))) = some r := rY hy365
   have Ny365 := am hy365
   clear hy365
   have H' := am H
   clear H
   have p362 : 0 ≤ (x15_1 : Int) := od
   have q362 : x15_1 < (l0.length : Int) := od
   obtain ⟨ad362, e362, hx362_0, hx362_1, hx362_2, hx362_3⟩ := at_T74 HR0.out x15_1 p362 q362
   (try rw [← Nbq12.out] at hx362_3)
   cases e362
   replace hx362_0 := cl HB hx362_0
   replace hx362_1 := cl HB hx362_1
   replace hx362_2 := cl HB hx362_2
   replace hx362_3 := cl HB hx362_3
   replace p362 := eq_true p362; replace q362 := eq_true q362
   go_wp2_with (first | ((with_reducible refine gate_dst (N := 9) rfl ?_); refine bx 9 #[.int .i64 0, .int .i64 0, .int .i64 0, .bool false] 74 ?_; intro gb363 hg w15 hbox hb; replace HO_7 := am (Kd.R_below (kR HO_7.out) hb); have BK363 := am (hbox); have GW363 := am ((by rw [hg]; exact (below_size bB) : w.heap.size ≤ gb363)); have GE363 := am ((by rw [hg]; exact (below_size bB) : w.heap.size ≤ gb363)); replace HB := am (below_step bB hb); clear hb hbox hg; have hcz16_0 := bc BK363.out 0 (.int .i64 0); have hcz16_1 := bc BK363.out 1 (.int .i64 0); have hcz16_2 := bc BK363.out 2 (.int .i64 0); have hcz16_3 := bc BK363.out 3 (.bool false); have hfz16_0 := blk_frozen BK363.out 0; have hfz16_1 := blk_frozen BK363.out 1; have hfz16_2 := blk_frozen BK363.out 2; have hfz16_3 := blk_frozen BK363.out 3; have p364 : 0 ≤ (x15_1 : Int) := od; have q364 : x15_1 < (l2.length : Int) := od; obtain ⟨ad364, e364, hx364_0⟩ := Kd.at_bool HR2.out x15_1 p364 q364; (try rw [← Nbq12.out] at hx364_0); cases e364; have hn364_0 : ad364.block ≠ gb363 := Nat.ne_of_lt (Nat.lt_of_lt_of_le (by have := World.block_lt_of_cell? _ _ hx364_0; first | rwa [add_block] at this | exact this) GW363.out); have hn364_1 : ad364.block ≠ gb363 := Nat.ne_of_lt (Nat.lt_of_lt_of_le (by have := World.block_lt_of_cell? _ _ hx364_0; first | rwa [add_block] at this | exact this) GW363.out); have hn364_2 : ad364.block ≠ gb363 := Nat.ne_of_lt (Nat.lt_of_lt_of_le (by have := World.block_lt_of_cell? _ _ hx364_0; first | rwa [add_block] at this | exact this) GW363.out); have hn364_3 : ad364.block ≠ gb363 := Nat.ne_of_lt (Nat.lt_of_lt_of_le (by have := World.block_lt_of_cell? _ _ hx364_0; first | rwa [add_block] at this | exact this) GW363.out); replace hx364_0 := cl HB hx364_0; replace hx364_0 := (cell_far (p := ⟨gb363, 0, none⟩) (by first | (rw [add_block]; exact hn364_0) | (show (Addr.add _ _).block ≠ _; rw [add_block]; exact hn364_0) | exact hn364_0) (.int .i64 ((rd_T74 l0 x15_1).f0))).trans hx364_0; replace hx364_0 := (cell_far (p := ⟨gb363, 1, none⟩) (by first | (rw [add_block]; exact hn364_1) | (show (Addr.add _ _).block ≠ _; rw [add_block]; exact hn364_1) | exact hn364_1) (.int .i64 ((rd_T74 l0 x15_1).f1))).trans hx364_0; replace hx364_0 := (cell_far (p := ⟨gb363, 2, none⟩) (by first | (rw [add_block]; exact hn364_2) | (show (Addr.add _ _).block ≠ _; rw [add_block]; exact hn364_2) | exact hn364_2) (.int .i64 ((rd_T74 l0 x15_1).f2))).trans hx364_0; replace hx364_0 := (cell_far (p := ⟨gb363, 3, none⟩) (by first | (rw [add_block]; exact hn364_3) | (show (Addr.add _ _).block ≠ _; rw [add_block]; exact hn364_3) | exact hn364_3) (.bool ((rd_T74 l0 x15_1).f3))).trans hx364_0; clear hn364_0; clear hn364_1; clear hn364_2; clear hn364_3; replace p364 := eq_true p364; replace q364 := eq_true q364) | ((with_reducible refine gate_builtin (b := .append) (xs := #[.tmp 28, .tmp 31]) rfl ?_); at_builtin; refine Kd.R_append (Kd.int .i64) (w0 := w) w.heap.size rfl (.tmp 28) (.tmp 31) 22 2 (.int .i64 0) 8 rfl Tryd.underlying22 info2 rfl (by decide) (by omega) u7 x7_1 ((rd_T74 l0 x15_1).f1) [.int .i64 ((rd_T74 l0 x15_1).f1)] (fun _ => True) (fun _ => False) rfl (by first | (go_simp; done) | (go_simp; rfl)) ?aP (fun _ hk => hk.elim) ?aF ?aO ?aB ?aS ?aL ?_; (case aP => exact rfl); (case aB => exact bS); (case aF => exact (fun _ _ => trivial)); (case aO => exact (kR (Kd.R_mono (Kd.R_far (p := ⟨gb363, 3, none⟩) (Kd.R_far (p := ⟨gb363, 2, none⟩) (Kd.R_far (p := ⟨gb363, 1, none⟩) (Kd.R_far (p := ⟨gb363, 0, none⟩) (Kd.R_types HO_7.out BK363.out (by decide)) (fun _ hk => hk.2) (.int .i64 ((rd_T74 l0 x15_1).f0))) (fun _ hk => hk.2) (.int .i64 ((rd_T74 l0 x15_1).f1))) (fun _ hk => hk.2) (.int .i64 ((rd_T74 l0 x15_1).f2))) (fun _ hk => hk.2) (.bool ((rd_T74 l0 x15_1).f3))) (fun _ hk => trivial)))); (case aS => exact (below_size bS)); (case aL => have := LMc14.out; omega); intro v366 w17 ho hb hg hat; rw [← Ny365.out] at ho; replace BK363 := am (blk_grown (g := gb363) (o := .cells #[.int .i64 ((rd_T74 l0 x15_1).f0), .int .i64 ((rd_T74 l0 x15_1).f1), .int .i64 ((rd_T74 l0 x15_1).f2), .bool ((rd_T74 l0 x15_1).f3)] 74 (0, 0)) (by (with_reducible repeat (first | refine blk_drewN ?_ _ | refine blk_drew ?_ | refine blk_alloc ?_ _)); refine blk_put (cs := #[.int .i64 ((rd_T74 l0 x15_1).f0), .int .i64 ((rd_T74 l0 x15_1).f1), .int .i64 ((rd_T74 l0 x15_1).f2), .bool false]) ?_ 3 _ rfl; (with_reducible repeat (first | refine blk_drewN ?_ _ | refine blk_drew ?_ | refine blk_alloc ?_ _)); refine blk_put (cs := #[.int .i64 ((rd_T74 l0 x15_1).f0), .int .i64 ((rd_T74 l0 x15_1).f1), .int .i64 0, .bool false]) ?_ 2 _ rfl; (with_reducible repeat (first | refine blk_drewN ?_ _ | refine blk_drew ?_ | refine blk_alloc ?_ _)); refine blk_put (cs := #[.int .i64 ((rd_T74 l0 x15_1).f0), .int .i64 0, .int .i64 0, .bool false]) ?_ 1 _ rfl; (with_reducible repeat (first | refine blk_drewN ?_ _ | refine blk_drew ?_ | refine blk_alloc ?_ _)); refine blk_put (cs := #[.int .i64 0, .int .i64 0, .int .i64 0, .bool false]) ?_ 0 _ rfl; (with_reducible repeat (first | refine blk_drewN ?_ _ | refine blk_drew ?_ | refine blk_alloc ?_ _)); exact BK363.out) hg (Kd.R_ne HO_7.out BK363.out (by decide))); replace HB := am (hb); have HO367 := am (ho); clear HO_7; clear ho hb hg hat))
   go_roundg k1
   case measure => have := HK1.out; omega
   case rel => exact ⟨(y365), (wrap64 (x15_1 + 1)), sr, H', ⟨kl⟩, ⟨kR HO367.out⟩, ⟨bS⟩⟩
/-! ### impl_in: function 99 -/
def impl_in.f (a0 : Int) (a1 : Int) (a2 : Int) : Option (Bool) := if a0 ≥ a1 then (some (decide (a0 ≤ a2))) else (some false)
set_option maxHeartbeats 8000000 in
set_option maxRecDepth 100000 in
theorem impl_in.calls (a0 : Int) (a1 : Int) (a2 : Int) (r : Bool) (w : World) (h : impl_in.f a0 a1 a2 = some r) :
  Calls Tryd.prog 99 #[.int .i64 a0, .int .i64 a1, .int .i64 a2] w fun e w' => e = .returned (.bool r) ∧ Drawn0 w w' := by
 have H : (if a0 ≥ a1 then (some (decide (a0 ≤ a2))) else (some false)) = some r := h
 clear h
 by_cases c4 : a0 ≥ a1
 ·rw [if_pos c4] at H
  have c4b0 : decide (a1 ≤ a0) = true := decide_eq_true c4
  clear c4
  obtain rfl := Option.some.inj H
  go_enter Tryd.func99, Tryd.ntmps99
  go_wp2
  go_ret
  exact rdd
 rw [if_neg c4] at H
 have c4b0 : decide (a1 ≤ a0) = false := decide_eq_false c4
 clear c4
 obtain rfl := Option.some.inj H
 go_enter Tryd.func99, Tryd.ntmps99
 go_wp2
 go_ret
 exact rdd
/-! ### impl_block: function 125 -/
def impl_block.f (a0 : Int) : Option (Int × Int) := if a0 ≥ 512 then (if a0 < 1280 then (some (Go.bits .andNot .i64 a0 255, Go.bits .and .i64 a0 255)) else (some (0, 0))) else (some (0, 0))
set_option maxHeartbeats 8000000 in
set_option maxRecDepth 100000 in
theorem impl_block.calls (a0 : Int) (r1 : Int) (r2 : Int) (w : World) (h : impl_block.f a0 = some (r1, r2)) :
  Calls Tryd.prog 125 #[.int .i64 a0] w fun e w' => e = .returned (.tuple #[.int .i64 r1, .int .i64 r2]) ∧ Drawn0 w w' := by
 have H : (if a0 ≥ 512 then (if a0 < 1280 then (some (Go.bits .andNot .i64 a0 255, Go.bits .and .i64 a0 255)) else (some (0, 0))) else (some (0, 0))) = some (r1, r2) := h
 clear h
 by_cases c2 : a0 ≥ 512
 rotate_left
 ·rw [if_neg c2] at H
  have c2b0 : decide (512 ≤ a0) = false := decide_eq_false c2
  clear c2
  simp only [Option.some.injEq, Prod.mk.injEq] at H
  obtain ⟨rfl, rfl⟩ := H
  go_enter Tryd.func125, Tryd.ntmps125
  go_wp2
  go_ret2
  exact rdd
 rw [if_pos c2] at H
 have c2b0 : decide (512 ≤ a0) = true := decide_eq_true c2
 clear c2
 by_cases c3 : a0 < 1280
 ·rw [if_pos c3] at H
  have c3b0 := decide_eq_true c3
  clear c3
  simp only [Option.some.injEq, Prod.mk.injEq] at H
  obtain ⟨rfl, rfl⟩ := H
  go_enter Tryd.func125, Tryd.ntmps125
  go_wp2
  go_ret2
  exact rdd
 rw [if_neg c3] at H
 have c3b0 := decide_eq_false c3
 clear c3
 simp only [Option.some.injEq, Prod.mk.injEq] at H
 obtain ⟨rfl, rfl⟩ := H
 go_enter Tryd.func125, Tryd.ntmps125
 go_wp2
 go_ret2
 exact rdd
end Go.Proofs.YtmlhnpggjkoinaaDoor.PFnExactWords

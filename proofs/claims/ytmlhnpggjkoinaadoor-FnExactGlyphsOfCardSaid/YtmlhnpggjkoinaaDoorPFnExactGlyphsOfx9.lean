-- Written by a program of this session (wip/tools/myprint.py) that runs the kit's print with hooks of its own. Lean checks it.
import Derived.Test.YtmlhnpggjkoinaaDoorPFnExactGlyphsOfx0
import Derived.Test.YtmlhnpggjkoinaaDoorSlimMore
import Derived.Test.YtmlhnpggjkoinaaDoorPFnExactGlyphsOfx8
namespace Go.Proofs.YtmlhnpggjkoinaaDoor.PFnExactGlyphsOf
open Go.RowKit Go.Proofs.YtmlhnpggjkoinaaDoorW.PrintWords Go.Proofs.YtmlhnpggjkoinaaDoorW.PrintLast Go.Proofs.YtmlhnpggjkoinaaDoorW.PrintMore
attribute [local go_sem] max2_int min2_int max_two min_two max_three min_three max_four min_four   -- for this text's walks alone
set_option linter.unusedVariables false
set_option linter.unusedSimpArgs false

/-! ### spec_GlyphsOf: function 35 -/
def spec_GlyphsOf.f (k : Nat) (a0 : ByteArray) : Option ((List (S68))) := if (a0.size : Int) > 65536 then (some (([] : List (S68)))) else ((spec_l10Glyphs.f k a0).bind fun t267 => (some t267))
theorem spec_GlyphsOf.mono : ∀ a0 k, LeO (spec_GlyphsOf.f k a0) (spec_GlyphsOf.f (k + 1) a0) := by
 intro a0 k
 unfold spec_GlyphsOf.f
 repeat' (first | (with_reducible first | exact spec_l10Glyphs.mono .. | exact LeO.refl _ | exact LeO.none _ | refine LeO.ite ?_ ?_ | refine LeO.bind ?_ (fun _ => ?_)) | exact spec_l10Glyphs.mono .. | exact LeO.none _ | refine LeO.ite ?_ ?_ | refine LeO.bind ?_ (fun _ => ?_))
set_option maxHeartbeats 8000000 in
set_option maxRecDepth 100000 in
theorem spec_GlyphsOf.calls (k : Nat) (a0 : ByteArray) (r : List (S68)) (w : World) (h : spec_GlyphsOf.f k a0 = some r) :
  Calls Tryd.prog 35 #[.string a0] w fun e w' => ∃ v0_ : Value, e = .returned (v0_) ∧ Kd.R k68 68 w' w.heap.size (fun _ => True) v0_ r ∧ Below w.heap.size w w' := by
 have HB := am (Below.refl w.heap.size w)
 have H : (if (a0.size : Int) > 65536 then (some (([] : List (S68)))) else ((spec_l10Glyphs.f k a0).bind fun t267 => (some t267))) = some r := h
 clear h
 by_cases c2 : (a0.size : Int) > 65536
 rotate_left
 ·rw [if_neg c2] at H
  have c2b0 : decide (65536 < (a0.size : Int)) = false := decide_eq_false c2
  have c2b1 : decide (65536 < a0.size) = false := decide_eq_false (by omega)
  clear c2
  obtain ⟨t267, A5, H⟩ := bb H
  obtain rfl := Option.some.inj H
  go_enter Tryd.func35, Tryd.ntmps35
  go_wp2_with (first | ((with_reducible refine gate_callee (f := 70) rfl ?_); refine gl 8 Tryd.func70 #[.string a0] ?_; (with_reducible refine (spec_l10Glyphs.calls k a0 t267 _ A5.out).mono ?_); rintro e w6 ⟨v268, rfl, ho0, hb⟩; refine ⟨_, rfl, ?_⟩; have HO269 := am (Kd.R_lower ho0 (below_size bB)); replace HB := am (below_step bB hb); (try clear hb); (try clear ho0)))
  go_ret
  exact ⟨_, rv, kR HO269.out, bB⟩
 rw [if_pos c2] at H
 have c2b0 : decide (65536 < (a0.size : Int)) = true := decide_eq_true c2
 have c2b1 : decide (65536 < a0.size) = true := decide_eq_true (by omega)
 clear c2
 obtain ⟨y264, hy264⟩ : ∃ y_ : List (S68), y_ = (([] : List (S68))) := ⟨_, rfl⟩
 replace H : (some y264) = some r := by first | (rw [hy264]; with_reducible exact H) | (have H2_ := (Option.bind_some _ _).symm.trans H; rw [hy264]; with_reducible exact H2_) | (have H2_ := (Option.bind_some _ _).symm.trans H; with_reducible exact H2_) | with_reducible exact H | (rw [hy264]; exact H) | exact H
 have Ny264 := am hy264
 clear hy264
 obtain rfl := Option.some.inj H
 go_enter Tryd.func35, Tryd.ntmps35
 go_wp2_with (first | ((with_reducible refine gate_dst (N := 6) rfl ?_); refine Kd.R_lit k68 _ 68 ?hg (N := 6) ?hd (xs := ([] : List (S68))) (inner := []) (ok := fun _ => True) (okp := fun _ => True) ?hr ?hp (fun _ hk => hk) trivial (Below.refl _ _) (Nat.le_refl _) (by simp) ?_; (case hd => rfl); (case hg => rfl); (case hr => first | (go_simp; done) | (go_simp; rfl)); (case hp => exact (Reps.none _ _)); intro v265 w3 ho4 hb hg_ hnew_; clear hg_ hnew_; (first | rw [← Ny264.out] at ho4 | (simp only [Int.reduceToNat] at ho4; rw [← Ny264.out] at ho4)); have HO266 := am (Kd.R_lower ho4 (below_size bB)); replace HB := am (below_step bB hb); clear hb ho4))
 go_ret
 exact ⟨_, rv, kR HO266.out, bB⟩
/-! ### impl_long: function 49 -/
def impl_long.f (a0 : ByteArray) : Option (Bool) := some (decide ((a0.size : Int) > 65536))
set_option maxHeartbeats 8000000 in
set_option maxRecDepth 100000 in
theorem impl_long.calls (a0 : ByteArray) (r : Bool) (w : World) (h : impl_long.f a0 = some r) :
  Calls Tryd.prog 49 #[.string a0] w fun e w' => e = .returned (.bool r) ∧ Drawn0 w w' := by
 have H : (some (decide ((a0.size : Int) > 65536))) = some r := h
 clear h
 obtain rfl := Option.some.inj H
 go_enter Tryd.func49, Tryd.ntmps49
 go_wp2
 go_ret
 exact rdd
-- NOT PRINTED: function 117 (utf8_decodeRuneInStringSlow)
/-! ### utf8_DecodeRuneInString: function 84 (by hand) -/
def utf8_DecodeRuneInString.f (a0 : ByteArray) : Option (Int × Int) := some (((Go.Lib.decodeGo a0).1 : Int), ((Go.Lib.decodeGo a0).2 : Int))
theorem utf8_DecodeRuneInString.calls (a0 : ByteArray) (r1 : Int) (r2 : Int) (w : World) (hG : GL w) (h : utf8_DecodeRuneInString.f a0 = some (r1, r2)) :
  Calls Tryd.prog 84 #[.string a0] w fun e w' => e = .returned (.tuple #[.int .i32 r1, .int .i64 r2]) ∧ Below w.heap.size w w' := by
 obtain ⟨rfl, rfl⟩ := Prod.mk.inj (Option.some.inj h)
 exact Go.Proofs.Any.utf8_DecodeRuneInString Tryd.lays197 a0 w hG
/-! ### impl_read: function 56 -/
def impl_read.l0 : Nat → ByteArray → List (S74) → Int → Option ((List (S74)))
 | 0, _, _, _ => none
 | k + 1, x0, x3, x4 => if x4 < (x0.size : Int) then (if 0 ≤ x4 then (if x4 ≤ (x0.size : Int) then ((utf8_DecodeRuneInString.f (x0.extract (x4 : Int).toNat x0.size)).bind fun bt270 => (if bt270.1 = 65533 then (if x3.length < 4398046511104 then (impl_read.l0 k x0 (x3 ++ [(⟨wrap64 (bt270.1), x4, wrap64 (x4 + bt270.2), (bt270.2 == 1)⟩ : S74)]) (wrap64 (x4 + bt270.2))) else (none)) else (if x3.length < 4398046511104 then (impl_read.l0 k x0 (x3 ++ [(⟨wrap64 (bt270.1), x4, wrap64 (x4 + bt270.2), false⟩ : S74)]) (wrap64 (x4 + bt270.2))) else (none)))) else (none)) else (none)) else (some x3)
def impl_read.f (k : Nat) (a0 : ByteArray) : Option ((List (S74))) := impl_read.l0 k a0 ([] : List (S74)) 0
theorem impl_read.mono_l : ∀ k, (∀ y0 y1 y2, LeO (impl_read.l0 k y0 y1 y2) (impl_read.l0 (k + 1) y0 y1 y2))
 | 0 => fun _ _ _ r h => by simp [impl_read.l0] at h
 | k + 1 => by
  have ih0 := impl_read.mono_l k
  ·intro y0 y1 y2
   unfold impl_read.l0
   repeat' (first | (with_reducible first | exact ih0 .. | exact LeO.refl _ | exact LeO.none _ | refine LeO.ite ?_ ?_ | refine LeO.bind ?_ (fun _ => ?_)) | exact ih0 .. | exact LeO.none _ | refine LeO.ite ?_ ?_ | refine LeO.bind ?_ (fun _ => ?_))
theorem impl_read.mono : ∀ a0 k, LeO (impl_read.f k a0) (impl_read.f (k + 1) a0) := by
 intro a0 k
 have ih0 := impl_read.mono_l k
 unfold impl_read.f
 repeat' (first | (with_reducible first | exact ih0 .. | exact LeO.refl _ | exact LeO.none _ | refine LeO.ite ?_ ?_ | refine LeO.bind ?_ (fun _ => ?_)) | exact ih0 .. | exact LeO.none _ | refine LeO.ite ?_ ?_ | refine LeO.bind ?_ (fun _ => ?_))
set_option maxHeartbeats 8000000 in
set_option maxRecDepth 100000 in
theorem impl_read.calls (k : Nat) (a0 : ByteArray) (r : List (S74)) (w : World) (hG : GL w) (h : impl_read.f k a0 = some r) :
  Calls Tryd.prog 56 #[.string a0] w fun e w' => ∃ v0_ : Value, e = .returned (v0_) ∧ Kd.R k74 74 w' w.heap.size (fun _ => True) v0_ r ∧ Below w.heap.size w w' := by
 have hu74 := Tryd.underlying74
 have HGL := am hG
 clear hG
 have HB := am (Below.refl w.heap.size w)
 have H : (impl_read.l0 k a0 ([] : List (S74)) 0) = some r := h
 clear h
 have H' := am H
 clear H
 go_enter Tryd.func56, Tryd.ntmps56
 go_wp2
 go_loopg [3, 4] k (fun kq v3 v4 w' => ∃ (x3_1 : List (S74)) (x4_1 : Int), v4 = .int .i64 x4_1 ∧ Aside0 (impl_read.l0 kq a0 x3_1 x4_1 = some r) ∧ Aside0 (kq ≤ k) ∧ Aside0 (Kd.R k74 74 w' w.heap.size (fun _ => True) v3 x3_1) ∧ Aside0 (Below w.heap.size w w'))
 case atStart => exact ⟨(([] : List (S74))), (0), sr, H', ⟨Nat.le_refl _⟩, ⟨by first | exact Kd.R_nil _ _ _ _ _ | exact Kd.N_nil _ _ _ _ _ | exact Kd.V_nil _ _ _ _ _ | exact Kd.Q_nil _ _ _ _ _ | exact Kd.S_nil _ _ _ _ _⟩, ⟨bB⟩⟩
 case round =>
  clear H'
  obtain ⟨x3_1, x4_1, rfl, HA, HK1, HO_3, HB⟩ := hrel
  cases gk with
  | zero => exact absurd HA.out (by simp [impl_read.l0])
  | succ k1 =>
   have H := HA.out
   clear HA
   simp only [impl_read.l0] at H
   by_cases c2 : x4_1 < (a0.size : Int)
   rotate_left
   ·rw [if_neg c2] at H
    have c2b0 : decide (x4_1 < (a0.size : Int)) = false := decide_eq_false c2
    clear c2
    obtain rfl := Option.some.inj H
    go_wp2
    go_ret
    exact ⟨_, rv, kR HO_3.out, bB⟩
   rw [if_pos c2] at H
   have c2b0 : decide (x4_1 < (a0.size : Int)) = true := decide_eq_true c2
   clear c2
   replace H := iteN H
   obtain ⟨c3, H⟩ := H
   have c3b0 := eq_true c3
   have c3b1 : decide (0 ≤ x4_1) = true := decide_eq_true c3
   clear c3
   replace H := iteN H
   obtain ⟨c4, H⟩ := H
   have c4b0 := eq_true c4
   have c4b1 : decide (x4_1 ≤ (a0.size : Int)) = true := decide_eq_true c4
   clear c4
   replace H := Option.bind_eq_some_iff.mp H
   obtain ⟨⟨t270, t271⟩, A50, H⟩ := H
   replace H : (if t270 = 65533 then (if x3_1.length < 4398046511104 then (impl_read.l0 k1 a0 (x3_1 ++ [(⟨wrap64 (t270), x4_1, wrap64 (x4_1 + t271), (t271 == 1)⟩ : S74)]) (wrap64 (x4_1 + t271))) else (none)) else (if x3_1.length < 4398046511104 then (impl_read.l0 k1 a0 (x3_1 ++ [(⟨wrap64 (t270), x4_1, wrap64 (x4_1 + t271), false⟩ : S74)]) (wrap64 (x4_1 + t271))) else (none))) = some r := H
   have A5 := am A50
   clear A50
   by_cases c6 : t270 = 65533
   rotate_left
   ·rw [if_neg c6] at H
    have c6b0 : (t270 == 65533) = false := beq_eq_false_iff_ne.mpr c6
    have c6b1 : (t270 != 65533) = true := bne_iff_ne.mpr c6
    replace H := iteN H
    obtain ⟨c10, H⟩ := H
    have LMc10 := am c10
    clear c10
    obtain ⟨y275, hy275⟩ : ∃ y_ : List (S74), y_ = (x3_1 ++ [(⟨wrap64 (t270), x4_1, wrap64 (x4_1 + t271), false⟩ : S74)]) := ⟨_, rfl⟩
    replace H : (impl_read.l0 k1 a0 y275 (wrap64 (x4_1 + t271))) = some r := by first | (rw [hy275]; with_reducible exact H) | (have H2_ := (Option.bind_some _ _).symm.trans H; rw [hy275]; with_reducible exact H2_) | (have H2_ := (Option.bind_some _ _).symm.trans H; with_reducible exact H2_) | with_reducible exact H | (rw [hy275]; exact H) | exact H
    have Ny275 := am hy275
    clear hy275
    have H' := am H
    clear H
    go_wp2_with (first | ((with_reducible refine gate_callee (f := 84) rfl ?_); refine gl 16 Tryd.func84 #[.string (a0.extract (x4_1 : Int).toNat a0.size)] ?_; (with_reducible refine (utf8_DecodeRuneInString.calls (a0.extract (x4_1 : Int).toNat a0.size) t270 t271 _ ?side1 A5.out).mono ?_); (case side1 => first | exact HGL.out | exact GL_below HGL.out bB); rintro e w11 ⟨rfl, hb⟩; refine ⟨_, rfl, ?_⟩; replace HO_3 := am (Kd.R_below (kR HO_3.out) hb); replace HB := am (below_step bB hb); (try clear hb)) | ((with_reducible refine gate_builtin (b := .append) (xs := #[.tmp 25, .tmp 34]) rfl ?_); at_builtin; refine Kd.R_append k74 (w0 := w) w.heap.size rfl (.tmp 25) (.tmp 34) 57 74 (.agg #[(.int .i64 0), (.int .i64 0), (.int .i64 0), (.bool false)]) 32 rfl Tryd.underlying57 info74 rfl (by decide) (by omega) u3 x3_1 (⟨wrap64 (t270), x4_1, wrap64 (x4_1 + t271), false⟩ : S74) [.int .i64 (wrap64 (t270)), .int .i64 x4_1, .int .i64 (wrap64 (x4_1 + t271)), .bool false] (fun _ => True) (fun _ => False) rfl rfl ?aP (fun _ hk => hk.elim) ?aF ?aO ?aB ?aS ?aL ?_; (case aP => exact k74_mkM _ _ _ (⟨wrap64 (t270), x4_1, wrap64 (x4_1 + t271), false⟩ : S74)); (case aB => exact bB); (case aF => exact (fun _ _ => trivial)); (case aO => exact (kR HO_3.out)); (case aS => exact (below_size bB)); (case aL => have := LMc10.out; omega); intro v276 w12 ho hb hg hat; rw [← Ny275.out] at ho; replace HB := am (hb); have HO277 := am (ho); clear HO_3; clear ho hb hg hat))
    go_roundg k1
    case measure => have := HK1.out; omega
    case rel => exact ⟨(y275), (wrap64 (x4_1 + t271)), sr, H', ⟨kl⟩, ⟨kR HO277.out⟩, ⟨bB⟩⟩
   rw [if_pos c6] at H
   have c6b0 : (t270 == 65533) = true := beq_iff_eq.mpr c6
   have c6b1 : (t270 != 65533) = false := bne_eq_false_iff_eq.mpr c6
   clear c6
   replace H := iteN H
   obtain ⟨c7, H⟩ := H
   have LMc7 := am c7
   clear c7
   obtain ⟨y272, hy272⟩ : ∃ y_ : List (S74), y_ = (x3_1 ++ [(⟨wrap64 (t270), x4_1, wrap64 (x4_1 + t271), (t271 == 1)⟩ : S74)]) := ⟨_, rfl⟩
   replace H : (impl_read.l0 k1 a0 y272 (wrap64 (x4_1 + t271))) = some r := by first | (rw [hy272]; with_reducible exact H) | (have H2_ := (Option.bind_some _ _).symm.trans H; rw [hy272]; with_reducible exact H2_) | (have H2_ := (Option.bind_some _ _).symm.trans H; with_reducible exact H2_) | with_reducible exact H | (rw [hy272]; exact H) | exact H
   have Ny272 := am hy272
   clear hy272
   have H' := am H
   clear H
   go_wp2_with (first | ((with_reducible refine gate_callee (f := 84) rfl ?_); refine gl 16 Tryd.func84 #[.string (a0.extract (x4_1 : Int).toNat a0.size)] ?_; (with_reducible refine (utf8_DecodeRuneInString.calls (a0.extract (x4_1 : Int).toNat a0.size) t270 t271 _ ?side1 A5.out).mono ?_); (case side1 => first | exact HGL.out | exact GL_below HGL.out bB); rintro e w8 ⟨rfl, hb⟩; refine ⟨_, rfl, ?_⟩; replace HO_3 := am (Kd.R_below (kR HO_3.out) hb); replace HB := am (below_step bB hb); (try clear hb)) | ((with_reducible refine gate_builtin (b := .append) (xs := #[.tmp 25, .tmp 34]) rfl ?_); at_builtin; refine Kd.R_append k74 (w0 := w) w.heap.size rfl (.tmp 25) (.tmp 34) 57 74 (.agg #[(.int .i64 0), (.int .i64 0), (.int .i64 0), (.bool false)]) 32 rfl Tryd.underlying57 info74 rfl (by decide) (by omega) u3 x3_1 (⟨wrap64 (t270), x4_1, wrap64 (x4_1 + t271), (t271 == 1)⟩ : S74) [.int .i64 (wrap64 (t270)), .int .i64 x4_1, .int .i64 (wrap64 (x4_1 + t271)), .bool (t271 == 1)] (fun _ => True) (fun _ => False) rfl rfl ?aP (fun _ hk => hk.elim) ?aF ?aO ?aB ?aS ?aL ?_; (case aP => exact k74_mkM _ _ _ (⟨wrap64 (t270), x4_1, wrap64 (x4_1 + t271), (t271 == 1)⟩ : S74)); (case aB => exact bB); (case aF => exact (fun _ _ => trivial)); (case aO => exact (kR HO_3.out)); (case aS => exact (below_size bB)); (case aL => have := LMc7.out; omega); intro v273 w9 ho hb hg hat; rw [← Ny272.out] at ho; replace HB := am (hb); have HO274 := am (ho); clear HO_3; clear ho hb hg hat))
   go_roundg k1
   case measure => have := HK1.out; omega
   case rel => exact ⟨(y272), (wrap64 (x4_1 + t271)), sr, H', ⟨kl⟩, ⟨kR HO274.out⟩, ⟨bB⟩⟩
/-! ### impl_onlyPoints: function 59 -/
def impl_onlyPoints.l0 : Nat → List Int → List (S74) → Int → Int → Option (List Int)
 | 0, _, _, _, _ => none
 | k + 1, x3, x9, x10, x11 => if x11 < x10 then (if 0 ≤ x11 then (if x11 < (x9.length : Int) then (if x11 < (x3.length : Int) then (impl_onlyPoints.l0 k (x3.set (x11 : Int).toNat ((rd_T74 x9 x11).f0)) x9 x10 (wrap64 (x11 + 1))) else (none)) else (none)) else (none)) else (some x3)
def impl_onlyPoints.f (k : Nat) (l0 : List (S74)) : Option (List Int) := if 0 ≤ (l0.length : Int) then (if ((l0.length : Int) : Int).toNat ≤ 35184372088832 then (impl_onlyPoints.l0 k (List.replicate ((l0.length : Int) : Int).toNat 0) l0 (l0.length : Int) 0) else (none)) else (none)
theorem impl_onlyPoints.mono_l : ∀ k, (∀ y0 y1 y2 y3, LeO (impl_onlyPoints.l0 k y0 y1 y2 y3) (impl_onlyPoints.l0 (k + 1) y0 y1 y2 y3))
 | 0 => fun _ _ _ _ r h => by simp [impl_onlyPoints.l0] at h
 | k + 1 => by
  have ih0 := impl_onlyPoints.mono_l k
  ·intro y0 y1 y2 y3
   unfold impl_onlyPoints.l0
   repeat' (first | (with_reducible first | exact ih0 .. | exact LeO.refl _ | exact LeO.none _ | refine LeO.ite ?_ ?_ | refine LeO.bind ?_ (fun _ => ?_)) | exact ih0 .. | exact LeO.none _ | refine LeO.ite ?_ ?_ | refine LeO.bind ?_ (fun _ => ?_))
theorem impl_onlyPoints.mono : ∀ a0 k, LeO (impl_onlyPoints.f k a0) (impl_onlyPoints.f (k + 1) a0) := by
 intro a0 k
 have ih0 := impl_onlyPoints.mono_l k
 unfold impl_onlyPoints.f
 repeat' (first | (with_reducible first | exact ih0 .. | exact LeO.refl _ | exact LeO.none _ | refine LeO.ite ?_ ?_ | refine LeO.bind ?_ (fun _ => ?_)) | exact ih0 .. | exact LeO.none _ | refine LeO.ite ?_ ?_ | refine LeO.bind ?_ (fun _ => ?_))
set_option maxHeartbeats 8000000 in
set_option maxRecDepth 100000 in
theorem impl_onlyPoints.calls (k : Nat) (A0 : Option Addr) (c0 : Nat) (l0 : List (S74)) (r : List Int) (w : World) (hr0 : Kd.C k74 w A0 l0.length l0) (hc0 : l0.length ≤ c0) (h : impl_onlyPoints.f k l0 = some r) :
  Calls Tryd.prog 59 #[.slice A0 l0.length c0] w fun e w' => ∃ v0_ : Value, e = .returned (v0_) ∧ Kd.R (Kd.int .i64) 2 w' w.heap.size (fun _ => True) v0_ r ∧ Below w.heap.size w w' := by
 have hu74 := Tryd.underlying74
 have HR0 := am hr0
 have HC0 := am hc0
 clear hr0 hc0
 have HB := am (Below.refl w.heap.size w)
 have H : (if 0 ≤ (l0.length : Int) then (if ((l0.length : Int) : Int).toNat ≤ 35184372088832 then (impl_onlyPoints.l0 k (List.replicate ((l0.length : Int) : Int).toNat 0) l0 (l0.length : Int) 0) else (none)) else (none)) = some r := h
 clear h
 replace H := iteN H
 obtain ⟨c2, H⟩ := H
 have c2b0 := eq_true c2
 have c2b1 : decide (0 ≤ (l0.length : Int)) = true := decide_eq_true c2
 clear c2
 replace H := iteN H
 obtain ⟨c3, H⟩ := H
 have c3b0 := eq_true c3
 have c3b1 : decide (((l0.length : Int) : Int).toNat ≤ 35184372088832) = true := decide_eq_true c3
 clear c3
 obtain ⟨y278, hy278⟩ : ∃ y_ : List Int, y_ = (List.replicate ((l0.length : Int) : Int).toNat 0) := ⟨_, rfl⟩
 replace H : (impl_onlyPoints.l0 k y278 l0 (l0.length : Int) 0) = some r := by first | (rw [hy278]; with_reducible exact H) | (have H2_ := (Option.bind_some _ _).symm.trans H; rw [hy278]; with_reducible exact H2_) | (have H2_ := (Option.bind_some _ _).symm.trans H; with_reducible exact H2_) | with_reducible exact H | (rw [hy278]; exact H) | exact H
 have Ny278 := am hy278
 clear hy278
 have H' := am H
 clear H
 go_enter Tryd.func59, Tryd.ntmps59
 go_wp2_with (first | ((with_reducible refine gate_dst (N := 8) rfl ?_); refine Kd.R_make (Kd.int .i64) _ 2 rfl (N := 8) rfl 22 _ _ rfl (l0.length : Int) rfl rfl Tryd.underlying22 (.int .i64 0) 8 info2 rfl (by decide) (by omega) 0 (ok := fun _ => True) (okp := fun _ => True) rfl (fun _ hk => hk) trivial (od) (Nat.le_trans (Nat.mul_le_mul_right _ (od : (l0.length : Int).toNat ≤ 35184372088832)) (by omega)) (Below.refl _ _) (Nat.le_refl _) ?_; intro v279 w4 ho5 hb hg_ hnew_; clear hg_ hnew_; (first | rw [← Ny278.out] at ho5 | (simp only [Int.reduceToNat] at ho5; rw [← Ny278.out] at ho5)); have HO280 := am (Kd.R_lower ho5 (below_size bB)); replace HB := am (below_step bB hb); clear hb ho5))
 go_loopg [11] k (fun kq v11 w' => ∃ (x3_1 : List Int) (x11_1 : Int), v11 = .int .i64 x11_1 ∧ Aside0 (impl_onlyPoints.l0 kq x3_1 l0 (l0.length : Int) x11_1 = some r) ∧ Aside0 (kq ≤ k) ∧ Aside0 (Kd.R (Kd.int .i64) 2 w' w.heap.size (fun _ => True) v279 x3_1) ∧ Aside0 (Below w.heap.size w w'))
 case atStart => exact ⟨(y278), (0), sr, H', ⟨Nat.le_refl _⟩, ⟨kR HO280.out⟩, ⟨bB⟩⟩
 case round =>
  clear H'
  try clear c2b0
  try clear c2b1
  try clear c3b0
  try clear c3b1
  obtain ⟨x3_1, x11_1, rfl, HA, HK1, HO_3, HB⟩ := hrel
  cases gk with
  | zero => exact absurd HA.out (by simp [impl_onlyPoints.l0])
  | succ k1 =>
   have H := HA.out
   clear HA
   simp only [impl_onlyPoints.l0] at H
   by_cases c6 : x11_1 < (l0.length : Int)
   rotate_left
   ·rw [if_neg c6] at H
    have c6b0 : decide (x11_1 < (l0.length : Int)) = false := decide_eq_false c6
    clear c6
    obtain rfl := Option.some.inj H
    go_wp2
    go_ret
    exact ⟨_, rv, kR HO_3.out, bB⟩
   rw [if_pos c6] at H
   have c6b0 : decide (x11_1 < (l0.length : Int)) = true := decide_eq_true c6
   clear c6
   replace H := iteN H
   obtain ⟨c7, H⟩ := H
   have c7b0 : decide (0 ≤ x11_1) = true := decide_eq_true c7
   clear c7
   replace H := iteN H
   obtain ⟨c8, H⟩ := H
   have c8b0 : decide (x11_1 < (l0.length : Int)) = true := decide_eq_true c8
   clear c8
   replace H := iteN H
   obtain ⟨c9, H⟩ := H
   have c9b0 : decide (x11_1 < (x3_1.length : Int)) = true := decide_eq_true c9
   clear c9
   obtain ⟨y283, hy283⟩ : ∃ y_ : List Int, y_ = (x3_1.set (x11_1 : Int).toNat ((rd_T74 l0 x11_1).f0)) := ⟨_, rfl⟩
   replace H : (impl_onlyPoints.l0 k1 y283 l0 (l0.length : Int) (wrap64 (x11_1 + 1))) = some r := by first | (rw [hy283]; with_reducible exact H) | (have H2_ := (Option.bind_some _ _).symm.trans H; rw [hy283]; with_reducible exact H2_) | (have H2_ := (Option.bind_some _ _).symm.trans H; with_reducible exact H2_) | with_reducible exact H | (rw [hy283]; exact H) | exact H
   have Ny283 := am hy283
   clear hy283
   have H' := am H
   clear H
   have p281 : 0 ≤ (x11_1 : Int) := od
   have q281 : x11_1 < (l0.length : Int) := od
   obtain ⟨ad281, e281, hx281_0, hx281_1, hx281_2, hx281_3⟩ := at_T74 HR0.out x11_1 p281 q281
   cases e281
   replace hx281_0 := cl HB hx281_0
   replace hx281_1 := cl HB hx281_1
   replace hx281_2 := cl HB hx281_2
   replace hx281_3 := cl HB hx281_3
   replace p281 := eq_true p281
   replace q281 := eq_true q281
   go_wp2_with (first | ((with_reducible refine gate_dst (N := 5) rfl ?_); refine bx 5 #[.int .i64 0, .int .i64 0, .int .i64 0, .bool false] 74 ?_; intro gb282 hg w11 hbox hb; replace HO_3 := am (Kd.R_below (kR HO_3.out) hb); have BK282 := am (hbox); have GW282 := am ((by rw [hg]; exact (below_size bB) : w.heap.size ≤ gb282)); have GE282 := am ((by rw [hg]; exact (below_size bB) : w.heap.size ≤ gb282)); replace HB := am (below_step bB hb); clear hb hbox hg; have hcz12_0 := bc BK282.out 0 (.int .i64 0); have hcz12_1 := bc BK282.out 1 (.int .i64 0); have hcz12_2 := bc BK282.out 2 (.int .i64 0); have hcz12_3 := bc BK282.out 3 (.bool false); have hfz12_0 := blk_frozen BK282.out 0; have hfz12_1 := blk_frozen BK282.out 1; have hfz12_2 := blk_frozen BK282.out 2; have hfz12_3 := blk_frozen BK282.out 3) | ((with_reducible refine gate_store (t := 74) (p := 5) rfl ?_); refine store_event (t := 74) (p := 5) (v := ?vo_w13) (w1 := ((((w11.setCell ⟨gb282, 0, none⟩ (.int .i64 ((rd_T74 l0 x11_1).f0))).setCell ⟨gb282, 1, none⟩ (.int .i64 ((rd_T74 l0 x11_1).f1))).setCell ⟨gb282, 2, none⟩ (.int .i64 ((rd_T74 l0 x11_1).f2))).setCell ⟨gb282, 3, none⟩ (.bool ((rd_T74 l0 x11_1).f3)))) ?hg ?ho ?hn ?hr ?_; (case ho => rfl); (case hg => rfl); (case hn => rfl); (case hr => first | (go_simp; done) | (go_simp; rfl)); intro w13 hw; have n0_ : Aside0 (Kd.R (Kd.int .i64) 2 w13 w.heap.size (fun _ => True) v279 x3_1) := ⟨(by rw [hw]; exact (kR (Kd.R_mono (Kd.R_far (p := ⟨gb282, 3, none⟩) (Kd.R_far (p := ⟨gb282, 2, none⟩) (Kd.R_far (p := ⟨gb282, 1, none⟩) (Kd.R_far (p := ⟨gb282, 0, none⟩) (Kd.R_types HO_3.out BK282.out (by decide)) (fun _ hk => hk.2) (.int .i64 ((rd_T74 l0 x11_1).f0))) (fun _ hk => hk.2) (.int .i64 ((rd_T74 l0 x11_1).f1))) (fun _ hk => hk.2) (.int .i64 ((rd_T74 l0 x11_1).f2))) (fun _ hk => hk.2) (.bool ((rd_T74 l0 x11_1).f3))) (fun _ hk => trivial))))⟩; have n1_ : Aside0 (w13.heap[gb282]? = some (.cells #[.int .i64 ((rd_T74 l0 x11_1).f0), .int .i64 ((rd_T74 l0 x11_1).f1), .int .i64 ((rd_T74 l0 x11_1).f2), .bool ((rd_T74 l0 x11_1).f3)] 74 (0, 0))) := ⟨(by rw [hw]; exact (by (with_reducible repeat (first | refine blk_drewN ?_ _ | refine blk_drew ?_ | refine blk_alloc ?_ _)); refine blk_put (cs := #[.int .i64 ((rd_T74 l0 x11_1).f0), .int .i64 ((rd_T74 l0 x11_1).f1), .int .i64 ((rd_T74 l0 x11_1).f2), .bool false]) ?_ 3 _ rfl; (with_reducible repeat (first | refine blk_drewN ?_ _ | refine blk_drew ?_ | refine blk_alloc ?_ _)); refine blk_put (cs := #[.int .i64 ((rd_T74 l0 x11_1).f0), .int .i64 ((rd_T74 l0 x11_1).f1), .int .i64 0, .bool false]) ?_ 2 _ rfl; (with_reducible repeat (first | refine blk_drewN ?_ _ | refine blk_drew ?_ | refine blk_alloc ?_ _)); refine blk_put (cs := #[.int .i64 ((rd_T74 l0 x11_1).f0), .int .i64 0, .int .i64 0, .bool false]) ?_ 1 _ rfl; (with_reducible repeat (first | refine blk_drewN ?_ _ | refine blk_drew ?_ | refine blk_alloc ?_ _)); refine blk_put (cs := #[.int .i64 0, .int .i64 0, .int .i64 0, .bool false]) ?_ 0 _ rfl; (with_reducible repeat (first | refine blk_drewN ?_ _ | refine blk_drew ?_ | refine blk_alloc ?_ _)); exact BK282.out))⟩; have n2_ : Aside0 (Below w.heap.size w w13) := ⟨(by rw [hw]; exact bS)⟩; clear hw; clear HO_3; clear BK282; clear HB; have HO_3 := n0_; have BK282 := n1_; have HB := n2_; clear n0_ n1_ n2_; have hcz14_0 := bc BK282.out 0 (.int .i64 ((rd_T74 l0 x11_1).f0)); have hcz14_1 := bc BK282.out 1 (.int .i64 ((rd_T74 l0 x11_1).f1)); have hcz14_2 := bc BK282.out 2 (.int .i64 ((rd_T74 l0 x11_1).f2)); have hcz14_3 := bc BK282.out 3 (.bool ((rd_T74 l0 x11_1).f3)); have hfz14_0 := blk_frozen BK282.out 0; have hfz14_1 := blk_frozen BK282.out 1; have hfz14_2 := blk_frozen BK282.out 2; have hfz14_3 := blk_frozen BK282.out 3; have p10 : 0 ≤ (x11_1 : Int) := od; have q10 : (x11_1 : Int) < ((x3_1.length : Int) : Int) := od; obtain ⟨go10, co10, eo10, gb10, gl10, cl10, HG10⟩ := Kd.R_form HO_3.out (by omega); (first | cases eo10 | (injection eo10 with ea_ en_ ec_; (first | subst ea_ | (injection ea_ with ea_; subst ea_)); subst ec_; clear en_)); have GB10 := am gb10; have GG10 := am HG10; clear gb10 gl10 HG10; obtain ⟨hx10_0, hf10_0⟩ := Kd.R_celln 0 HO_3.out (x11_1 : Int) p10 q10; replace p10 := eq_true p10; replace q10 := eq_true q10; obtain ⟨hy15_, hz15_⟩ := Kd.R_celln 0 HO_3.out (x11_1 : Int) (od) (od); have HP15 := Kd.R_putg HO_3.out (x11_1 : Int) ((rd_T74 l0 x11_1).f0)) | ((with_reducible refine gate_store (t := 2) (p := 20) rfl ?_); refine store_event (t := 2) (p := 20) (v := ?vo_w16) (w1 := (w13.setCell ⟨go10, (x11_1 : Int).toNat, none⟩ (.int .i64 ((rd_T74 l0 x11_1).f0)))) ?hg ?ho ?hn ?hr ?_; (case ho => rfl); (case hg => rfl); (case hn => rfl); (case hr => first | (go_simp; done) | (go_simp; rfl)); intro w16 hw; have hg : w13.grownBy w16 (some go10) := (by rw [hw]; exact HP15.2); have hp_ : Kd.R (Kd.int .i64) 2 w16 w.heap.size (fun _ => True) (.slice (some ⟨go10, 0, none⟩) x3_1.length co10) y283 := (by rw [hw, Ny283.out]; exact HP15.1); clear HP15; replace BK282 := am (blk_grown (g := gb282) (o := .cells #[.int .i64 ((rd_T74 l0 x11_1).f0), .int .i64 ((rd_T74 l0 x11_1).f1), .int .i64 ((rd_T74 l0 x11_1).f2), .bool ((rd_T74 l0 x11_1).f3)] 74 (0, 0)) (bk BK282.out) hg (Kd.R_ne HO_3.out BK282.out (by decide))); replace HO_3 := am (hp_); replace HB := am ((by rw [hw]; exact below_set (HB.out) GB10.out : Below w.heap.size w w16)); clear hg hw hp_))
   go_roundg k1
   case measure => have := HK1.out; omega
   case rel => exact ⟨(y283), (wrap64 (x11_1 + 1)), sr, H', ⟨kl⟩, ⟨kR HO_3.out⟩, ⟨bS⟩⟩
/-! ### impl_in: function 99 -/
def impl_in.f (a0 : Int) (a1 : Int) (a2 : Int) : Option (Bool) := if a0 ≥ a1 then (some (decide (a0 ≤ a2))) else (some false)
set_option maxHeartbeats 8000000 in
set_option maxRecDepth 100000 in
theorem impl_in.calls (a0 : Int) (a1 : Int) (a2 : Int) (r : Bool) (w : World) (h : impl_in.f a0 a1 a2 = some r) :
  Calls Tryd.prog 99 #[.int .i64 a0, .int .i64 a1, .int .i64 a2] w fun e w' => e = .returned (.bool r) ∧ Drawn0 w w' := by
 have H : (if a0 ≥ a1 then (some (decide (a0 ≤ a2))) else (some false)) = some r := h
 clear h
 by_cases c4 : a0 ≥ a1
 ·rw [if_pos c4] at H
  have c4b0 : decide (a1 ≤ a0) = true := decide_eq_true c4
  clear c4
  obtain rfl := Option.some.inj H
  go_enter Tryd.func99, Tryd.ntmps99
  go_wp2
  go_ret
  exact rdd
 rw [if_neg c4] at H
 have c4b0 : decide (a1 ≤ a0) = false := decide_eq_false c4
 clear c4
 obtain rfl := Option.some.inj H
 go_enter Tryd.func99, Tryd.ntmps99
 go_wp2
 go_ret
 exact rdd
/-! ### impl_formsOf_1: function 103 -/
def impl_formsOf_1.f (a0 : Int) (a1 : Int) (l2 : List Int) (l3 : List Int) : Option (List Int) := if 0 ≤ a0 then (if a0 < (l2.length : Int) then ((impl_in.f (rd l2 a0) 1280 1311).bind fun t285 => (if t285 = true then (if a0 < (l3.length : Int) then (if (rd l3 a0) = 3 then ((some (l3.set (a0 : Int).toNat 2 : List Int)).bind fun y287 => (if 0 ≤ a1 then (if a1 < (l2.length : Int) then ((impl_in.f (rd l2 a1) 1280 1311).bind fun t289 => (if t289 = true then (if a1 < (l3.length : Int) then (some (y287.set (a1 : Int).toNat 3)) else (none)) else (some y287))) else (none)) else (none))) else ((some (l3.set (a0 : Int).toNat 1 : List Int)).bind fun y291 => (if 0 ≤ a1 then (if a1 < (l2.length : Int) then ((impl_in.f (rd l2 a1) 1280 1311).bind fun t293 => (if t293 = true then (if a1 < (l3.length : Int) then (some (y291.set (a1 : Int).toNat 3)) else (none)) else (some y291))) else (none)) else (none)))) else (none)) else (if 0 ≤ a1 then (if a1 < (l2.length : Int) then ((impl_in.f (rd l2 a1) 1280 1311).bind fun t296 => (if t296 = true then (if a1 < (l3.length : Int) then (some (l3.set (a1 : Int).toNat 3)) else (none)) else (some l3))) else (none)) else (none)))) else (none)) else (none)
set_option maxHeartbeats 8000000 in
set_option maxRecDepth 100000 in
theorem impl_formsOf_1.calls (a0 : Int) (a1 : Int) (A2 : Option Addr) (c2 : Nat) (l2 : List Int) (P3_ : Nat → Prop) (u9000_ : Value) (l3 : List Int) (r : List Int) (g2_ g3_ : Nat) (w0 w : World) (hB : Below w0.heap.size w0 w) (hr2 : ∀ W_, Kept w W_ (fun k_ => P3_ k_) → Kd.C (Kd.int .i64) W_ A2 l2.length l2) (hc2 : l2.length ≤ c2) (ho3 : Kd.R (Kd.int .i64) 2 w w0.heap.size P3_ u9000_ l3) (hg2_ : ∀ W_, Kept w W_ (fun k_ => P3_ k_) → W_.cell? ⟨g2_, 0, none⟩ = some (.slice A2 l2.length c2)) (hg3_ : ∀ W_, Kept w W_ (fun k_ => P3_ k_) → W_.cell? ⟨g3_, 0, none⟩ = some (u9000_)) (h : impl_formsOf_1.f a0 a1 l2 l3 = some r) :
  Calls Tryd.prog 103 #[.int .i64 a0, .int .i64 a1, .pointer (some ⟨g2_, 0, none⟩), .pointer (some ⟨g3_, 0, none⟩)] w fun e w' => e = .returned (.tuple #[]) ∧ Kd.R (Kd.int .i64) 2 w' w0.heap.size (fun k_ => (P3_ k_ ∨ w.heap.size ≤ k_)) u9000_ r ∧ Below w0.heap.size w0 w' ∧ Kept w w' (fun k_ => P3_ k_) := by
 have HR2 := am hr2
 have HC2 := am hc2
 clear hr2 hc2
 have HO3 := am (show Kd.R (Kd.int .i64) 2 w w0.heap.size (fun k_ => (P3_ k_ ∨ w.heap.size ≤ k_)) u9000_ l3 from Kd.R_mono ho3 (fun k_ hk => (.inl hk)))
 have HK := am (Kept.refl w (fun k_ => P3_ k_))
 have hcg2_ := hg2_ _ HK.out
 have hcg3_ := hg3_ _ HK.out
 have HW0 := am hB.size
 have HB := am hB
 clear hB
 have H : (if 0 ≤ a0 then (if a0 < (l2.length : Int) then ((impl_in.f (rd l2 a0) 1280 1311).bind fun t285 => (if t285 = true then (if a0 < (l3.length : Int) then (if (rd l3 a0) = 3 then ((some (l3.set (a0 : Int).toNat 2 : List Int)).bind fun y287 => (if 0 ≤ a1 then (if a1 < (l2.length : Int) then ((impl_in.f (rd l2 a1) 1280 1311).bind fun t289 => (if t289 = true then (if a1 < (l3.length : Int) then (some (y287.set (a1 : Int).toNat 3)) else (none)) else (some y287))) else (none)) else (none))) else ((some (l3.set (a0 : Int).toNat 1 : List Int)).bind fun y291 => (if 0 ≤ a1 then (if a1 < (l2.length : Int) then ((impl_in.f (rd l2 a1) 1280 1311).bind fun t293 => (if t293 = true then (if a1 < (l3.length : Int) then (some (y291.set (a1 : Int).toNat 3)) else (none)) else (some y291))) else (none)) else (none)))) else (none)) else (if 0 ≤ a1 then (if a1 < (l2.length : Int) then ((impl_in.f (rd l2 a1) 1280 1311).bind fun t296 => (if t296 = true then (if a1 < (l3.length : Int) then (some (l3.set (a1 : Int).toNat 3)) else (none)) else (some l3))) else (none)) else (none)))) else (none)) else (none)) = some r := h
 clear h
 replace H := iteN H
 obtain ⟨c5, H⟩ := H
 have c5b0 : decide (0 ≤ a0) = true := decide_eq_true c5
 clear c5
 replace H := iteN H
 obtain ⟨c6, H⟩ := H
 have c6b0 : decide (a0 < (l2.length : Int)) = true := decide_eq_true c6
 clear c6
 obtain ⟨t285, A7, H⟩ := bb H
 by_cases c8 : t285 = true
 rotate_left
 ·replace c8 := Bool.eq_false_iff.mpr c8
  subst c8
  replace H := iF H
  replace H := iteN H
  obtain ⟨c41, H⟩ := H
  have c41b0 : decide (0 ≤ a1) = true := decide_eq_true c41
  clear c41
  replace H := iteN H
  obtain ⟨c42, H⟩ := H
  have c42b0 : decide (a1 < (l2.length : Int)) = true := decide_eq_true c42
  clear c42
  obtain ⟨t296, A43, H⟩ := bb H
  by_cases c44 : t296 = true
  rotate_left
  ·replace c44 := Bool.eq_false_iff.mpr c44
   subst c44
   replace H := iF H
   obtain rfl := Option.some.inj H
   have p284 : 0 ≤ (a0 : Int) := od
   have q284 : a0 < (l2.length : Int) := od
   obtain ⟨ad284, e284, hx284_0⟩ := Kd.at_int (Kd.C_kept_now HR2.out HK.out) a0 p284 q284
   cases e284
   replace p284 := eq_true p284
   replace q284 := eq_true q284
   go_enter Tryd.func103, Tryd.ntmps103
   go_wp2_with (first | ((with_reducible refine gate_callee (f := 99) rfl ?_); refine gq 10 Tryd.func99 (impl_in.calls (rd l2 a0) 1280 1311 false _ A7.out) fun nd => ?_; have p295 : 0 ≤ (a1 : Int) := od; have q295 : a1 < (l2.length : Int) := od; obtain ⟨ad295, e295, hx295_0⟩ := Kd.at_int (Kd.C_kept_now HR2.out HK.out) a1 p295 q295; obtain rfl : ad284 = ad295 := (by injection e295); replace p295 := eq_true p295; replace q295 := eq_true q295) | ((with_reducible refine gate_callee (f := 99) rfl ?_); refine gq 26 Tryd.func99 (impl_in.calls (rd l2 a1) 1280 1311 false _ A43.out) fun nd => ?_))
   first | go_end0 | ((try simp only [Exit.inBlock, Exit.then]); refine bodyPost_ret (results_none rfl _ _ _) rfl ?_)
   exact ⟨rv, kR HO3.out, bB, by repeat (first | (with_reducible first | exact HK.out | apply Kept.alloc | apply Kept.drewN | apply Kept.drew) | exact HK.out)⟩
  subst c44
  replace H := iT H
  replace H := iteN H
  obtain ⟨c45, H⟩ := H
  have c45b0 : decide (a1 < (l3.length : Int)) = true := decide_eq_true c45
  clear c45
  obtain ⟨y297, hy297⟩ : ∃ y_ : List Int, y_ = (l3.set (a1 : Int).toNat 3) := ⟨_, rfl⟩
  replace H : (some y297) = some r := by first | (rw [hy297]; with_reducible exact H) | (have H2_ := (Option.bind_some _ _).symm.trans H; rw [hy297]; with_reducible exact H2_) | (have H2_ := (Option.bind_some _ _).symm.trans H; with_reducible exact H2_) | with_reducible exact H | (rw [hy297]; exact H) | exact H
  have Ny297 := am hy297
  clear hy297
  obtain rfl := Option.some.inj H
  have p284 : 0 ≤ (a0 : Int) := od
  have q284 : a0 < (l2.length : Int) := od
  obtain ⟨ad284, e284, hx284_0⟩ := Kd.at_int (Kd.C_kept_now HR2.out HK.out) a0 p284 q284
  cases e284
  replace p284 := eq_true p284
  replace q284 := eq_true q284
  go_enter Tryd.func103, Tryd.ntmps103
  go_wp2_with (first | ((with_reducible refine gate_callee (f := 99) rfl ?_); refine gl 10 Tryd.func99 #[.int .i64 (rd l2 a0), .int .i64 1280, .int .i64 1311] ?_; (with_reducible refine (impl_in.calls (rd l2 a0) 1280 1311 false _ A7.out).mono ?_); rintro e w' ⟨rfl, ⟨nd1_, rfl⟩⟩; refine ⟨_, rfl, ?_⟩; have p295 : 0 ≤ (a1 : Int) := od; have q295 : a1 < (l2.length : Int) := od; obtain ⟨ad295, e295, hx295_0⟩ := Kd.at_int (Kd.C_kept_now HR2.out HK.out) a1 p295 q295; obtain rfl : ad284 = ad295 := (by injection e295); replace p295 := eq_true p295; replace q295 := eq_true q295) | ((with_reducible refine gate_callee (f := 99) rfl ?_); refine gl 26 Tryd.func99 #[.int .i64 (rd l2 a1), .int .i64 1280, .int .i64 1311] ?_; (with_reducible refine (impl_in.calls (rd l2 a1) 1280 1311 true _ A43.out).mono ?_); rintro e w' ⟨rfl, ⟨nd2_, rfl⟩⟩; refine ⟨_, rfl, ?_⟩; have p46 : 0 ≤ (a1 : Int) := od; have q46 : (a1 : Int) < ((l3.length : Int) : Int) := od; obtain ⟨go46, co46, eo46, gb46, gl46, cl46, HG46⟩ := Kd.R_form HO3.out (by omega); (first | cases eo46 | (injection eo46 with ea_ en_ ec_; (first | subst ea_ | (injection ea_ with ea_; subst ea_)); subst ec_; clear en_)); have GB46 := am gb46; have GG46 := am HG46; clear gb46 gl46 HG46; have HMgo46 := am (show (P3_ go46 ∨ w.heap.size ≤ go46) from (HO3.out.1 _ rfl)); obtain ⟨hx46_0, hf46_0⟩ := Kd.R_celln 0 HO3.out (a1 : Int) p46 q46; replace p46 := eq_true p46; replace q46 := eq_true q46; obtain ⟨hy47_, hz47_⟩ := Kd.R_celln 0 HO3.out (a1 : Int) (od) (od); have HP47 := Kd.R_putg (Kd.R_drewN HO3.out (nd1_ + nd2_)) (a1 : Int) 3) | ((with_reducible refine gate_store (t := 2) (p := 29) rfl ?_); refine store_event (t := 2) (p := 29) (v := ?vo_w48) (w1 := ((World.drewN w (nd1_ + nd2_)).setCell ⟨go46, (a1 : Int).toNat, none⟩ (.int .i64 3))) ?hg ?ho ?hn ?hr ?_; (case ho => rfl); (case hg => rfl); (case hn => rfl); (case hr => first | (go_simp; done) | (go_simp; rfl)); intro w48 hw; have hg : (World.drewN w (nd1_ + nd2_)).grownBy w48 (some go46) := (by rw [hw]; exact HP47.2); have hp_ : Kd.R (Kd.int .i64) 2 w48 w0.heap.size (fun k_ => (P3_ k_ ∨ w.heap.size ≤ k_)) (.slice (some ⟨go46, 0, none⟩) l3.length co46) y297 := (by rw [hw, Ny297.out]; exact HP47.1); clear HP47; have n0_ := am (hp_); have n1_ := am ((by rw [hw]; exact below_set (by apply pw_below_drewN; exact HB.out) GB46.out : Below w0.heap.size w0 w48)); have n2_ := am (Kept.of_grown (S := (fun k_ => P3_ k_)) hg (by repeat (first | (with_reducible first | exact HK.out | apply Kept.alloc | apply Kept.drewN | apply Kept.drew) | exact HK.out)) (fun k_ e_ => (HO3.out.1 k_ e_))); clear HO3; clear HB; clear HK; have HO3 := n0_; have HB := n1_; have HK := n2_; have hcg2_ := hg2_ _ HK.out; have hcg3_ := hg3_ _ HK.out; clear n0_ n1_ n2_; clear hg hw hp_))
  first | go_end0 | ((try simp only [Exit.inBlock, Exit.then]); refine bodyPost_ret (results_none rfl _ _ _) rfl ?_)
  exact ⟨rv, kR HO3.out, bB, by repeat (first | (with_reducible first | exact HK.out | apply Kept.alloc | apply Kept.drewN | apply Kept.drew) | exact HK.out)⟩
 subst c8
 replace H := iT H
 replace H := iteN H
 obtain ⟨c9, H⟩ := H
 have c9b0 : decide (a0 < (l3.length : Int)) = true := decide_eq_true c9
 clear c9
 by_cases c10 : (rd l3 a0) = 3
 rotate_left
 ·rw [if_neg c10] at H
  have c10b0 : ((rd l3 a0) == 3) = false := beq_eq_false_iff_ne.mpr c10
  have c10b1 : ((rd l3 a0) != 3) = true := bne_iff_ne.mpr c10
  obtain ⟨y291, hy291⟩ : ∃ y_ : List Int, y_ = (l3.set (a0 : Int).toNat 1) := ⟨_, rfl⟩
  replace H : (if 0 ≤ a1 then (if a1 < (l2.length : Int) then ((impl_in.f (rd l2 a1) 1280 1311).bind fun t293 => (if t293 = true then (if a1 < (l3.length : Int) then (some (y291.set (a1 : Int).toNat 3)) else (none)) else (some y291))) else (none)) else (none)) = some r := by first | (rw [hy291]; with_reducible exact H) | (have H2_ := (Option.bind_some _ _).symm.trans H; rw [hy291]; with_reducible exact H2_) | (have H2_ := (Option.bind_some _ _).symm.trans H; with_reducible exact H2_) | with_reducible exact H | (rw [hy291]; exact H) | exact H
  have Ny291 := am hy291
  clear hy291
  replace H := iteN H
  obtain ⟨c27, H⟩ := H
  have c27b0 : decide (0 ≤ a1) = true := decide_eq_true c27
  clear c27
  replace H := iteN H
  obtain ⟨c28, H⟩ := H
  have c28b0 : decide (a1 < (l2.length : Int)) = true := decide_eq_true c28
  clear c28
  obtain ⟨t293, A29, H⟩ := bb H
  by_cases c30 : t293 = true
  rotate_left
  ·replace c30 := Bool.eq_false_iff.mpr c30
   subst c30
   replace H := iF H
   obtain rfl := Option.some.inj H
   have p284 : 0 ≤ (a0 : Int) := od
   have q284 : a0 < (l2.length : Int) := od
   obtain ⟨ad284, e284, hx284_0⟩ := Kd.at_int (Kd.C_kept_now HR2.out HK.out) a0 p284 q284
   cases e284
   replace p284 := eq_true p284
   replace q284 := eq_true q284
   go_enter Tryd.func103, Tryd.ntmps103
   go_wp2_with (first | ((with_reducible refine gate_callee (f := 99) rfl ?_); refine gl 10 Tryd.func99 #[.int .i64 (rd l2 a0), .int .i64 1280, .int .i64 1311] ?_; (with_reducible refine (impl_in.calls (rd l2 a0) 1280 1311 true _ A7.out).mono ?_); rintro e w' ⟨rfl, ⟨nd1_, rfl⟩⟩; refine ⟨_, rfl, ?_⟩; obtain ⟨Ao38, co38, eo38⟩ := Kd.R_slice HO3.out; subst eo38; have p286 : 0 ≤ (a0 : Int) := od; have q286 : a0 < (l3.length : Int) := od; obtain ⟨ad286, e286, hx286_0⟩ := Kd.at_int (Kd.R_reads' HO3.out).2.2 a0 p286 q286; cases e286; replace p286 := eq_true p286; replace q286 := eq_true q286; have p26 : 0 ≤ (a0 : Int) := od; have q26 : (a0 : Int) < ((l3.length : Int) : Int) := od; obtain ⟨go26, co26, eo26, gb26, gl26, cl26, HG26⟩ := Kd.R_form HO3.out (by omega); (first | cases eo26 | (injection eo26 with ea_ en_ ec_; (first | subst ea_ | (injection ea_ with ea_; subst ea_)); subst ec_; clear en_)); have GB26 := am gb26; have GG26 := am HG26; clear gb26 gl26 HG26; have HMgo26 := am (show (P3_ go26 ∨ w.heap.size ≤ go26) from (HO3.out.1 _ rfl)); (first | simp only [add_plain] at hx286_0 | skip); obtain ⟨hx26_0, hf26_0⟩ := Kd.R_celln 0 HO3.out (a0 : Int) p26 q26; replace p26 := eq_true p26; replace q26 := eq_true q26; obtain ⟨hy39_, hz39_⟩ := Kd.R_celln 0 HO3.out (a0 : Int) (od) (od); have HP39 := Kd.R_putg (Kd.R_drewN HO3.out (nd1_)) (a0 : Int) 1) | ((with_reducible refine gate_store (t := 2) (p := 21) rfl ?_); refine store_event (t := 2) (p := 21) (v := ?vo_w40) (w1 := ((World.drewN w (nd1_)).setCell ⟨go26, (a0 : Int).toNat, none⟩ (.int .i64 1))) ?hg ?ho ?hn ?hr ?_; (case ho => rfl); (case hg => rfl); (case hn => rfl); (case hr => first | (go_simp; done) | (go_simp; rfl)); intro w40 hw; have hg : (World.drewN w (nd1_)).grownBy w40 (some go26) := (by rw [hw]; exact HP39.2); have hp_ : Kd.R (Kd.int .i64) 2 w40 w0.heap.size (fun k_ => (P3_ k_ ∨ w.heap.size ≤ k_)) (.slice (some ⟨go26, 0, none⟩) l3.length co38) y291 := (by rw [hw, Ny291.out]; exact HP39.1); clear HP39; have n0_ := am (hp_); have n1_ := am ((by rw [hw]; exact below_set (by apply pw_below_drewN; exact HB.out) GB26.out : Below w0.heap.size w0 w40)); have n2_ := am (Kept.of_grown (S := (fun k_ => P3_ k_)) hg (by repeat (first | (with_reducible first | exact HK.out | apply Kept.alloc | apply Kept.drewN | apply Kept.drew) | exact HK.out)) (fun k_ e_ => (HO3.out.1 k_ e_))); clear HO3; clear HB; clear HK; have HO3 := n0_; have HB := n1_; have HK := n2_; have hcg2_ := hg2_ _ HK.out; have hcg3_ := hg3_ _ HK.out; clear n0_ n1_ n2_; clear hg hw hp_; have p292 : 0 ≤ (a1 : Int) := od; have q292 : a1 < (l2.length : Int) := od; obtain ⟨ad292, e292, hx292_0⟩ := Kd.at_int (Kd.C_kept_now HR2.out HK.out) a1 p292 q292; obtain rfl : ad284 = ad292 := (by injection e292); replace p292 := eq_true p292; replace q292 := eq_true q292) | ((with_reducible refine gate_callee (f := 99) rfl ?_); refine gl 26 Tryd.func99 #[.int .i64 (rd l2 a1), .int .i64 1280, .int .i64 1311] ?_; (with_reducible refine (impl_in.calls (rd l2 a1) 1280 1311 false _ A29.out).mono ?_); rintro e w' ⟨rfl, ⟨nd2_, rfl⟩⟩; refine ⟨_, rfl, ?_⟩))
   first | go_end0 | ((try simp only [Exit.inBlock, Exit.then]); refine bodyPost_ret (results_none rfl _ _ _) rfl ?_)
   exact ⟨rv, kR HO3.out, bB, by repeat (first | (with_reducible first | exact HK.out | apply Kept.alloc | apply Kept.drewN | apply Kept.drew) | exact HK.out)⟩
  subst c30
  replace H := iT H
  replace H := iteN H
  obtain ⟨c31, H⟩ := H
  have c31b0 : decide (a1 < (l3.length : Int)) = true := decide_eq_true c31
  clear c31
  obtain ⟨y294, hy294⟩ : ∃ y_ : List Int, y_ = (y291.set (a1 : Int).toNat 3) := ⟨_, rfl⟩
  replace H : (some y294) = some r := by first | (rw [hy294]; with_reducible exact H) | (have H2_ := (Option.bind_some _ _).symm.trans H; rw [hy294]; with_reducible exact H2_) | (have H2_ := (Option.bind_some _ _).symm.trans H; with_reducible exact H2_) | with_reducible exact H | (rw [hy294]; exact H) | exact H
  have Ny294 := am hy294
  clear hy294
  obtain rfl := Option.some.inj H
  have p284 : 0 ≤ (a0 : Int) := od
  have q284 : a0 < (l2.length : Int) := od
  obtain ⟨ad284, e284, hx284_0⟩ := Kd.at_int (Kd.C_kept_now HR2.out HK.out) a0 p284 q284
  cases e284
  replace p284 := eq_true p284
  replace q284 := eq_true q284
  go_enter Tryd.func103, Tryd.ntmps103
  go_wp2_with (first | ((with_reducible refine gate_callee (f := 99) rfl ?_); refine gl 10 Tryd.func99 #[.int .i64 (rd l2 a0), .int .i64 1280, .int .i64 1311] ?_; (with_reducible refine (impl_in.calls (rd l2 a0) 1280 1311 true _ A7.out).mono ?_); rintro e w' ⟨rfl, ⟨nd1_, rfl⟩⟩; refine ⟨_, rfl, ?_⟩; obtain ⟨Ao33, co33, eo33⟩ := Kd.R_slice HO3.out; subst eo33; have p286 : 0 ≤ (a0 : Int) := od; have q286 : a0 < (l3.length : Int) := od; obtain ⟨ad286, e286, hx286_0⟩ := Kd.at_int (Kd.R_reads' HO3.out).2.2 a0 p286 q286; cases e286; replace p286 := eq_true p286; replace q286 := eq_true q286; have p26 : 0 ≤ (a0 : Int) := od; have q26 : (a0 : Int) < ((l3.length : Int) : Int) := od; obtain ⟨go26, co26, eo26, gb26, gl26, cl26, HG26⟩ := Kd.R_form HO3.out (by omega); (first | cases eo26 | (injection eo26 with ea_ en_ ec_; (first | subst ea_ | (injection ea_ with ea_; subst ea_)); subst ec_; clear en_)); have GB26 := am gb26; have GG26 := am HG26; clear gb26 gl26 HG26; have HMgo26 := am (show (P3_ go26 ∨ w.heap.size ≤ go26) from (HO3.out.1 _ rfl)); (first | simp only [add_plain] at hx286_0 | skip); obtain ⟨hx26_0, hf26_0⟩ := Kd.R_celln 0 HO3.out (a0 : Int) p26 q26; replace p26 := eq_true p26; replace q26 := eq_true q26; obtain ⟨hy34_, hz34_⟩ := Kd.R_celln 0 HO3.out (a0 : Int) (od) (od); have HP34 := Kd.R_putg (Kd.R_drewN HO3.out (nd1_)) (a0 : Int) 1) | ((with_reducible refine gate_store (t := 2) (p := 21) rfl ?_); refine store_event (t := 2) (p := 21) (v := ?vo_w35) (w1 := ((World.drewN w (nd1_)).setCell ⟨go26, (a0 : Int).toNat, none⟩ (.int .i64 1))) ?hg ?ho ?hn ?hr ?_; (case ho => rfl); (case hg => rfl); (case hn => rfl); (case hr => first | (go_simp; done) | (go_simp; rfl)); intro w35 hw; have hg : (World.drewN w (nd1_)).grownBy w35 (some go26) := (by rw [hw]; exact HP34.2); have hp_ : Kd.R (Kd.int .i64) 2 w35 w0.heap.size (fun k_ => (P3_ k_ ∨ w.heap.size ≤ k_)) (.slice (some ⟨go26, 0, none⟩) l3.length co33) y291 := (by rw [hw, Ny291.out]; exact HP34.1); clear HP34; have n0_ := am (hp_); have n1_ := am ((by rw [hw]; exact below_set (by apply pw_below_drewN; exact HB.out) GB26.out : Below w0.heap.size w0 w35)); have n2_ := am (Kept.of_grown (S := (fun k_ => P3_ k_)) hg (by repeat (first | (with_reducible first | exact HK.out | apply Kept.alloc | apply Kept.drewN | apply Kept.drew) | exact HK.out)) (fun k_ e_ => (HO3.out.1 k_ e_))); clear HO3; clear HB; clear HK; have HO3 := n0_; have HB := n1_; have HK := n2_; have hcg2_ := hg2_ _ HK.out; have hcg3_ := hg3_ _ HK.out; clear n0_ n1_ n2_; clear hg hw hp_; have p292 : 0 ≤ (a1 : Int) := od; have q292 : a1 < (l2.length : Int) := od; obtain ⟨ad292, e292, hx292_0⟩ := Kd.at_int (Kd.C_kept_now HR2.out HK.out) a1 p292 q292; obtain rfl : ad284 = ad292 := (by injection e292); replace p292 := eq_true p292; replace q292 := eq_true q292) | ((with_reducible refine gate_callee (f := 99) rfl ?_); refine gl 26 Tryd.func99 #[.int .i64 (rd l2 a1), .int .i64 1280, .int .i64 1311] ?_; (with_reducible refine (impl_in.calls (rd l2 a1) 1280 1311 true _ A29.out).mono ?_); rintro e w' ⟨rfl, ⟨nd2_, rfl⟩⟩; refine ⟨_, rfl, ?_⟩; have p32 : 0 ≤ (a1 : Int) := od; have q32 : (a1 : Int) < ((l3.length : Int) : Int) := od; obtain ⟨hx32_0, hf32_0⟩ := Kd.R_celln 0 HO3.out (a1 : Int) p32 q32; replace p32 := eq_true p32; replace q32 := eq_true q32; obtain ⟨hy36_, hz36_⟩ := Kd.R_celln 0 HO3.out (a1 : Int) (od) (od); have HP36 := Kd.R_putg (Kd.R_drewN HO3.out (nd2_)) (a1 : Int) 3) | ((with_reducible refine gate_store (t := 2) (p := 29) rfl ?_); refine store_event (t := 2) (p := 29) (v := ?vo_w37) (w1 := ((World.drewN w35 (nd2_)).setCell ⟨go26, (a1 : Int).toNat, none⟩ (.int .i64 3))) ?hg ?ho ?hn ?hr ?_; (case ho => rfl); (case hg => rfl); (case hn => rfl); (case hr => first | (go_simp; done) | (go_simp; rfl)); intro w37 hw; have hg : (World.drewN w35 (nd2_)).grownBy w37 (some go26) := (by rw [hw]; exact HP36.2); have hp_ : Kd.R (Kd.int .i64) 2 w37 w0.heap.size (fun k_ => (P3_ k_ ∨ w.heap.size ≤ k_)) (.slice (some ⟨go26, 0, none⟩) l3.length co33) y294 := (by rw [hw, Ny294.out]; exact HP36.1); clear HP36; have n0_ := am (hp_); have n1_ := am ((by rw [hw]; exact below_set (by apply pw_below_drewN; exact HB.out) GB26.out : Below w0.heap.size w0 w37)); have n2_ := am (Kept.of_grown (S := (fun k_ => P3_ k_)) hg (by repeat (first | (with_reducible first | exact HK.out | apply Kept.alloc | apply Kept.drewN | apply Kept.drew) | exact HK.out)) (fun k_ e_ => (HO3.out.1 k_ e_))); clear HO3; clear HB; clear HK; have HO3 := n0_; have HB := n1_; have HK := n2_; have hcg2_ := hg2_ _ HK.out; have hcg3_ := hg3_ _ HK.out; clear n0_ n1_ n2_; clear hg hw hp_))
  first | go_end0 | ((try simp only [Exit.inBlock, Exit.then]); refine bodyPost_ret (results_none rfl _ _ _) rfl ?_)
  exact ⟨rv, kR HO3.out, bB, by repeat (first | (with_reducible first | exact HK.out | apply Kept.alloc | apply Kept.drewN | apply Kept.drew) | exact HK.out)⟩
 rw [if_pos c10] at H
 have c10b0 : ((rd l3 a0) == 3) = true := beq_iff_eq.mpr c10
 have c10b1 : ((rd l3 a0) != 3) = false := bne_eq_false_iff_eq.mpr c10
 clear c10
 obtain ⟨y287, hy287⟩ : ∃ y_ : List Int, y_ = (l3.set (a0 : Int).toNat 2) := ⟨_, rfl⟩
 replace H : (if 0 ≤ a1 then (if a1 < (l2.length : Int) then ((impl_in.f (rd l2 a1) 1280 1311).bind fun t289 => (if t289 = true then (if a1 < (l3.length : Int) then (some (y287.set (a1 : Int).toNat 3)) else (none)) else (some y287))) else (none)) else (none)) = some r := by first | (rw [hy287]; with_reducible exact H) | (have H2_ := (Option.bind_some _ _).symm.trans H; rw [hy287]; with_reducible exact H2_) | (have H2_ := (Option.bind_some _ _).symm.trans H; with_reducible exact H2_) | with_reducible exact H | (rw [hy287]; exact H) | exact H
 have Ny287 := am hy287
 clear hy287
 replace H := iteN H
 obtain ⟨c12, H⟩ := H
 have c12b0 : decide (0 ≤ a1) = true := decide_eq_true c12
 clear c12
 replace H := iteN H
 obtain ⟨c13, H⟩ := H
 have c13b0 : decide (a1 < (l2.length : Int)) = true := decide_eq_true c13
 clear c13
 obtain ⟨t289, A14, H⟩ := bb H
 by_cases c15 : t289 = true
 rotate_left
 ·replace c15 := Bool.eq_false_iff.mpr c15
  subst c15
  replace H := iF H
  obtain rfl := Option.some.inj H
  have p284 : 0 ≤ (a0 : Int) := od
  have q284 : a0 < (l2.length : Int) := od
  obtain ⟨ad284, e284, hx284_0⟩ := Kd.at_int (Kd.C_kept_now HR2.out HK.out) a0 p284 q284
  cases e284
  replace p284 := eq_true p284
  replace q284 := eq_true q284
  go_enter Tryd.func103, Tryd.ntmps103
  go_wp2_with (first | ((with_reducible refine gate_callee (f := 99) rfl ?_); refine gl 10 Tryd.func99 #[.int .i64 (rd l2 a0), .int .i64 1280, .int .i64 1311] ?_; (with_reducible refine (impl_in.calls (rd l2 a0) 1280 1311 true _ A7.out).mono ?_); rintro e w' ⟨rfl, ⟨nd1_, rfl⟩⟩; refine ⟨_, rfl, ?_⟩; obtain ⟨Ao23, co23, eo23⟩ := Kd.R_slice HO3.out; subst eo23; have p286 : 0 ≤ (a0 : Int) := od; have q286 : a0 < (l3.length : Int) := od; obtain ⟨ad286, e286, hx286_0⟩ := Kd.at_int (Kd.R_reads' HO3.out).2.2 a0 p286 q286; cases e286; replace p286 := eq_true p286; replace q286 := eq_true q286; have p11 : 0 ≤ (a0 : Int) := od; have q11 : (a0 : Int) < ((l3.length : Int) : Int) := od; obtain ⟨go11, co11, eo11, gb11, gl11, cl11, HG11⟩ := Kd.R_form HO3.out (by omega); (first | cases eo11 | (injection eo11 with ea_ en_ ec_; (first | subst ea_ | (injection ea_ with ea_; subst ea_)); subst ec_; clear en_)); have GB11 := am gb11; have GG11 := am HG11; clear gb11 gl11 HG11; have HMgo11 := am (show (P3_ go11 ∨ w.heap.size ≤ go11) from (HO3.out.1 _ rfl)); (first | simp only [add_plain] at hx286_0 | skip); obtain ⟨hx11_0, hf11_0⟩ := Kd.R_celln 0 HO3.out (a0 : Int) p11 q11; replace p11 := eq_true p11; replace q11 := eq_true q11; obtain ⟨hy24_, hz24_⟩ := Kd.R_celln 0 HO3.out (a0 : Int) (od) (od); have HP24 := Kd.R_putg (Kd.R_drewN HO3.out (nd1_)) (a0 : Int) 2) | ((with_reducible refine gate_store (t := 2) (p := 18) rfl ?_); refine store_event (t := 2) (p := 18) (v := ?vo_w25) (w1 := ((World.drewN w (nd1_)).setCell ⟨go11, (a0 : Int).toNat, none⟩ (.int .i64 2))) ?hg ?ho ?hn ?hr ?_; (case ho => rfl); (case hg => rfl); (case hn => rfl); (case hr => first | (go_simp; done) | (go_simp; rfl)); intro w25 hw; have hg : (World.drewN w (nd1_)).grownBy w25 (some go11) := (by rw [hw]; exact HP24.2); have hp_ : Kd.R (Kd.int .i64) 2 w25 w0.heap.size (fun k_ => (P3_ k_ ∨ w.heap.size ≤ k_)) (.slice (some ⟨go11, 0, none⟩) l3.length co23) y287 := (by rw [hw, Ny287.out]; exact HP24.1); clear HP24; have n0_ := am (hp_); have n1_ := am ((by rw [hw]; exact below_set (by apply pw_below_drewN; exact HB.out) GB11.out : Below w0.heap.size w0 w25)); have n2_ := am (Kept.of_grown (S := (fun k_ => P3_ k_)) hg (by repeat (first | (with_reducible first | exact HK.out | apply Kept.alloc | apply Kept.drewN | apply Kept.drew) | exact HK.out)) (fun k_ e_ => (HO3.out.1 k_ e_))); clear HO3; clear HB; clear HK; have HO3 := n0_; have HB := n1_; have HK := n2_; have hcg2_ := hg2_ _ HK.out; have hcg3_ := hg3_ _ HK.out; clear n0_ n1_ n2_; clear hg hw hp_; have p288 : 0 ≤ (a1 : Int) := od; have q288 : a1 < (l2.length : Int) := od; obtain ⟨ad288, e288, hx288_0⟩ := Kd.at_int (Kd.C_kept_now HR2.out HK.out) a1 p288 q288; obtain rfl : ad284 = ad288 := (by injection e288); replace p288 := eq_true p288; replace q288 := eq_true q288) | ((with_reducible refine gate_callee (f := 99) rfl ?_); refine gl 26 Tryd.func99 #[.int .i64 (rd l2 a1), .int .i64 1280, .int .i64 1311] ?_; (with_reducible refine (impl_in.calls (rd l2 a1) 1280 1311 false _ A14.out).mono ?_); rintro e w' ⟨rfl, ⟨nd2_, rfl⟩⟩; refine ⟨_, rfl, ?_⟩))
  first | go_end0 | ((try simp only [Exit.inBlock, Exit.then]); refine bodyPost_ret (results_none rfl _ _ _) rfl ?_)
  exact ⟨rv, kR HO3.out, bB, by repeat (first | (with_reducible first | exact HK.out | apply Kept.alloc | apply Kept.drewN | apply Kept.drew) | exact HK.out)⟩
 subst c15
 replace H := iT H
 replace H := iteN H
 obtain ⟨c16, H⟩ := H
 have c16b0 : decide (a1 < (l3.length : Int)) = true := decide_eq_true c16
 clear c16
 obtain ⟨y290, hy290⟩ : ∃ y_ : List Int, y_ = (y287.set (a1 : Int).toNat 3) := ⟨_, rfl⟩
 replace H : (some y290) = some r := by first | (rw [hy290]; with_reducible exact H) | (have H2_ := (Option.bind_some _ _).symm.trans H; rw [hy290]; with_reducible exact H2_) | (have H2_ := (Option.bind_some _ _).symm.trans H; with_reducible exact H2_) | with_reducible exact H | (rw [hy290]; exact H) | exact H
 have Ny290 := am hy290
 clear hy290
 obtain rfl := Option.some.inj H
 have p284 : 0 ≤ (a0 : Int) := od
 have q284 : a0 < (l2.length : Int) := od
 obtain ⟨ad284, e284, hx284_0⟩ := Kd.at_int (Kd.C_kept_now HR2.out HK.out) a0 p284 q284
 cases e284
 replace p284 := eq_true p284
 replace q284 := eq_true q284
 go_enter Tryd.func103, Tryd.ntmps103
 go_wp2_with (first | ((with_reducible refine gate_callee (f := 99) rfl ?_); refine gl 10 Tryd.func99 #[.int .i64 (rd l2 a0), .int .i64 1280, .int .i64 1311] ?_; (with_reducible refine (impl_in.calls (rd l2 a0) 1280 1311 true _ A7.out).mono ?_); rintro e w' ⟨rfl, ⟨nd1_, rfl⟩⟩; refine ⟨_, rfl, ?_⟩; obtain ⟨Ao18, co18, eo18⟩ := Kd.R_slice HO3.out; subst eo18; have p286 : 0 ≤ (a0 : Int) := od; have q286 : a0 < (l3.length : Int) := od; obtain ⟨ad286, e286, hx286_0⟩ := Kd.at_int (Kd.R_reads' HO3.out).2.2 a0 p286 q286; cases e286; replace p286 := eq_true p286; replace q286 := eq_true q286; have p11 : 0 ≤ (a0 : Int) := od; have q11 : (a0 : Int) < ((l3.length : Int) : Int) := od; obtain ⟨go11, co11, eo11, gb11, gl11, cl11, HG11⟩ := Kd.R_form HO3.out (by omega); (first | cases eo11 | (injection eo11 with ea_ en_ ec_; (first | subst ea_ | (injection ea_ with ea_; subst ea_)); subst ec_; clear en_)); have GB11 := am gb11; have GG11 := am HG11; clear gb11 gl11 HG11; have HMgo11 := am (show (P3_ go11 ∨ w.heap.size ≤ go11) from (HO3.out.1 _ rfl)); (first | simp only [add_plain] at hx286_0 | skip); obtain ⟨hx11_0, hf11_0⟩ := Kd.R_celln 0 HO3.out (a0 : Int) p11 q11; replace p11 := eq_true p11; replace q11 := eq_true q11; obtain ⟨hy19_, hz19_⟩ := Kd.R_celln 0 HO3.out (a0 : Int) (od) (od); have HP19 := Kd.R_putg (Kd.R_drewN HO3.out (nd1_)) (a0 : Int) 2) | ((with_reducible refine gate_store (t := 2) (p := 18) rfl ?_); refine store_event (t := 2) (p := 18) (v := ?vo_w20) (w1 := ((World.drewN w (nd1_)).setCell ⟨go11, (a0 : Int).toNat, none⟩ (.int .i64 2))) ?hg ?ho ?hn ?hr ?_; (case ho => rfl); (case hg => rfl); (case hn => rfl); (case hr => first | (go_simp; done) | (go_simp; rfl)); intro w20 hw; have hg : (World.drewN w (nd1_)).grownBy w20 (some go11) := (by rw [hw]; exact HP19.2); have hp_ : Kd.R (Kd.int .i64) 2 w20 w0.heap.size (fun k_ => (P3_ k_ ∨ w.heap.size ≤ k_)) (.slice (some ⟨go11, 0, none⟩) l3.length co18) y287 := (by rw [hw, Ny287.out]; exact HP19.1); clear HP19; have n0_ := am (hp_); have n1_ := am ((by rw [hw]; exact below_set (by apply pw_below_drewN; exact HB.out) GB11.out : Below w0.heap.size w0 w20)); have n2_ := am (Kept.of_grown (S := (fun k_ => P3_ k_)) hg (by repeat (first | (with_reducible first | exact HK.out | apply Kept.alloc | apply Kept.drewN | apply Kept.drew) | exact HK.out)) (fun k_ e_ => (HO3.out.1 k_ e_))); clear HO3; clear HB; clear HK; have HO3 := n0_; have HB := n1_; have HK := n2_; have hcg2_ := hg2_ _ HK.out; have hcg3_ := hg3_ _ HK.out; clear n0_ n1_ n2_; clear hg hw hp_; have p288 : 0 ≤ (a1 : Int) := od; have q288 : a1 < (l2.length : Int) := od; obtain ⟨ad288, e288, hx288_0⟩ := Kd.at_int (Kd.C_kept_now HR2.out HK.out) a1 p288 q288; obtain rfl : ad284 = ad288 := (by injection e288); replace p288 := eq_true p288; replace q288 := eq_true q288) | ((with_reducible refine gate_callee (f := 99) rfl ?_); refine gl 26 Tryd.func99 #[.int .i64 (rd l2 a1), .int .i64 1280, .int .i64 1311] ?_; (with_reducible refine (impl_in.calls (rd l2 a1) 1280 1311 true _ A14.out).mono ?_); rintro e w' ⟨rfl, ⟨nd2_, rfl⟩⟩; refine ⟨_, rfl, ?_⟩; have p17 : 0 ≤ (a1 : Int) := od; have q17 : (a1 : Int) < ((l3.length : Int) : Int) := od; obtain ⟨hx17_0, hf17_0⟩ := Kd.R_celln 0 HO3.out (a1 : Int) p17 q17; replace p17 := eq_true p17; replace q17 := eq_true q17; obtain ⟨hy21_, hz21_⟩ := Kd.R_celln 0 HO3.out (a1 : Int) (od) (od); have HP21 := Kd.R_putg (Kd.R_drewN HO3.out (nd2_)) (a1 : Int) 3) | ((with_reducible refine gate_store (t := 2) (p := 29) rfl ?_); refine store_event (t := 2) (p := 29) (v := ?vo_w22) (w1 := ((World.drewN w20 (nd2_)).setCell ⟨go11, (a1 : Int).toNat, none⟩ (.int .i64 3))) ?hg ?ho ?hn ?hr ?_; (case ho => rfl); (case hg => rfl); (case hn => rfl); (case hr => first | (go_simp; done) | (go_simp; rfl)); intro w22 hw; have hg : (World.drewN w20 (nd2_)).grownBy w22 (some go11) := (by rw [hw]; exact HP21.2); have hp_ : Kd.R (Kd.int .i64) 2 w22 w0.heap.size (fun k_ => (P3_ k_ ∨ w.heap.size ≤ k_)) (.slice (some ⟨go11, 0, none⟩) l3.length co18) y290 := (by rw [hw, Ny290.out]; exact HP21.1); clear HP21; have n0_ := am (hp_); have n1_ := am ((by rw [hw]; exact below_set (by apply pw_below_drewN; exact HB.out) GB11.out : Below w0.heap.size w0 w22)); have n2_ := am (Kept.of_grown (S := (fun k_ => P3_ k_)) hg (by repeat (first | (with_reducible first | exact HK.out | apply Kept.alloc | apply Kept.drewN | apply Kept.drew) | exact HK.out)) (fun k_ e_ => (HO3.out.1 k_ e_))); clear HO3; clear HB; clear HK; have HO3 := n0_; have HB := n1_; have HK := n2_; have hcg2_ := hg2_ _ HK.out; have hcg3_ := hg3_ _ HK.out; clear n0_ n1_ n2_; clear hg hw hp_))
 first | go_end0 | ((try simp only [Exit.inBlock, Exit.then]); refine bodyPost_ret (results_none rfl _ _ _) rfl ?_)
 exact ⟨rv, kR HO3.out, bB, by repeat (first | (with_reducible first | exact HK.out | apply Kept.alloc | apply Kept.drewN | apply Kept.drew) | exact HK.out)⟩
/-! ### impl_block: function 125 -/
def impl_block.f (a0 : Int) : Option (Int × Int) := if a0 ≥ 512 then (if a0 < 1280 then (some (Go.bits .andNot .i64 a0 255, Go.bits .and .i64 a0 255)) else (some (0, 0))) else (some (0, 0))
set_option maxHeartbeats 8000000 in
set_option maxRecDepth 100000 in
theorem impl_block.calls (a0 : Int) (r1 : Int) (r2 : Int) (w : World) (h : impl_block.f a0 = some (r1, r2)) :
  Calls Tryd.prog 125 #[.int .i64 a0] w fun e w' => e = .returned (.tuple #[.int .i64 r1, .int .i64 r2]) ∧ Drawn0 w w' := by
 have H : (if a0 ≥ 512 then (if a0 < 1280 then (some (Go.bits .andNot .i64 a0 255, Go.bits .and .i64 a0 255)) else (some (0, 0))) else (some (0, 0))) = some (r1, r2) := h
 clear h
 by_cases c2 : a0 ≥ 512
 rotate_left
 ·rw [if_neg c2] at H
  have c2b0 : decide (512 ≤ a0) = false := decide_eq_false c2
  clear c2
  simp only [Option.some.injEq, Prod.mk.injEq] at H
  obtain ⟨rfl, rfl⟩ := H
  go_enter Tryd.func125, Tryd.ntmps125
  go_wp2
  go_ret2
  exact rdd
 rw [if_pos c2] at H
 have c2b0 : decide (512 ≤ a0) = true := decide_eq_true c2
 clear c2
 by_cases c3 : a0 < 1280
 ·rw [if_pos c3] at H
  have c3b0 : decide (a0 < 1280) = true := decide_eq_true c3
  clear c3
  simp only [Option.some.injEq, Prod.mk.injEq] at H
  obtain ⟨rfl, rfl⟩ := H
  go_enter Tryd.func125, Tryd.ntmps125
  go_wp2
  go_ret2
  exact rdd
 rw [if_neg c3] at H
 have c3b0 : decide (a0 < 1280) = false := decide_eq_false c3
 clear c3
 simp only [Option.some.injEq, Prod.mk.injEq] at H
 obtain ⟨rfl, rfl⟩ := H
 go_enter Tryd.func125, Tryd.ntmps125
 go_wp2
 go_ret2
 exact rdd
end Go.Proofs.YtmlhnpggjkoinaaDoor.PFnExactGlyphsOf

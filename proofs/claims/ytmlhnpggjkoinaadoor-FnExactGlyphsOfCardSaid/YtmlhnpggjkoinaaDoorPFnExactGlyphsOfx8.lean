-- Written by a program of this session (wip/tools/myprint.py) that runs the kit's print with hooks of its own. Lean checks it.
import Derived.Test.YtmlhnpggjkoinaaDoorPFnExactGlyphsOfx0
import Derived.Test.YtmlhnpggjkoinaaDoorSlimStep
import Derived.Test.YtmlhnpggjkoinaaDoorSlimMore
import Derived.Test.YtmlhnpggjkoinaaDoorPFnExactGlyphsOfx1
import Derived.Test.YtmlhnpggjkoinaaDoorPFnExactGlyphsOfx6
import Derived.Test.YtmlhnpggjkoinaaDoorPFnExactGlyphsOfx7
namespace Go.Proofs.YtmlhnpggjkoinaaDoor.PFnExactGlyphsOf
open Go.RowKit Go.Proofs.YtmlhnpggjkoinaaDoorW.PrintWords Go.Proofs.YtmlhnpggjkoinaaDoorW.PrintLast Go.Proofs.YtmlhnpggjkoinaaDoorW.PrintMore
attribute [local go_sem] max2_int min2_int max_two min_two max_three min_three max_four min_four   -- for this text's walks alone
set_option linter.unusedVariables false
set_option linter.unusedSimpArgs false

/-! ### spec_l10Glyphs: function 70 -/
mutual
def spec_l10Glyphs.l0 : Nat → List Int → List Int → List (S68) → Int → Int → List Int → List Int → Option ((List (S68)))
 | 0, _, _, _, _, _, _, _ => none
 | k + 1, x4, x5, x6, x7, x8, x239000, x239001 => if x8 < (x239000.length : Int) then (spec_l10Glyphs.l1 k x4 x5 x6 x7 x8 x239000 x239001) else (some x6)
def spec_l10Glyphs.j2 : Nat → List Int → List Int → List (S68) → Int → Int → List Int → List Int → Option ((List (S68)))
 | 0, _, _, _, _, _, _, _ => none
 | k + 1, x4, x5, x6, x7, x8, x239000, x239001 => if 0 ≤ x8 then (if x8 < (x239000.length : Int) then (if x8 < (x4.length : Int) then (if x6.length < 3518437208883 then ((some (x6 ++ [(⟨rd x239000 x8, rd x4 x8, x7, 0, 0⟩ : S68)] : List (S68))).bind fun y257 => (if (rd x239000 x8) < 1568 then (spec_l10Glyphs.j3 k x4 x5 y257 x7 x8 true x239000 x239001 (rd x239000 x8) (rd x4 x8) x7 0 0) else (if (rd x239000 x8) > 1579 then (spec_l10Glyphs.j3 k x4 x5 y257 x7 x8 true x239000 x239001 (rd x239000 x8) (rd x4 x8) x7 0 0) else (spec_l10Glyphs.j3 k x4 x5 y257 x7 x8 ((Int.tmod (rd x239000 x8) 2) != 0) x239000 x239001 (rd x239000 x8) (rd x4 x8) x7 0 0)))) else (none)) else (none)) else (none)) else (none)
def spec_l10Glyphs.j3 : Nat → List Int → List Int → List (S68) → Int → Int → Bool → List Int → List Int → Int → Int → Int → Int → Int → Option ((List (S68)))
 | 0, _, _, _, _, _, _, _, _, _, _, _, _, _ => none
 | k + 1, x4, x5, x6, x7, x8, x74, x239000, x239001, x257000, x257001, x257002, x257003, x257004 => if x74 = true then (spec_l10Glyphs.l0 k x4 x5 x6 x7 (wrap64 (x8 + 1)) x239000 x239001) else ((spec_l10Start.f k x6 x8).bind fun t260 => (spec_l10Glyphs.l2 k x4 x5 x6 x7 x8 t260 x8 x239000 x239001 x257000 x257001 x257002 x257003 x257004))
def spec_l10Glyphs.l2 : Nat → List Int → List Int → List (S68) → Int → Int → Int → Int → List Int → List Int → Int → Int → Int → Int → Int → Option ((List (S68)))
 | 0, _, _, _, _, _, _, _, _, _, _, _, _, _, _ => none
 | k + 1, x4, x5, x6, x7, x8, x10, x11, x239000, x239001, x257000, x257001, x257002, x257003, x257004 => if x11 > x10 then (if 0 ≤ (wrap64 (x11 - 1)) then (if (wrap64 (x11 - 1)) < (x6.length : Int) then (if 0 ≤ x11 then (if x11 < (x6.length : Int) then (spec_l10Glyphs.l2 k x4 x5 (x6.set (x11 : Int).toNat (⟨(rd_T68 x6 (wrap64 (x11 - 1))).f0, (rd_T68 x6 (wrap64 (x11 - 1))).f1, (rd_T68 x6 (wrap64 (x11 - 1))).f2, (rd_T68 x6 (wrap64 (x11 - 1))).f3, (rd_T68 x6 (wrap64 (x11 - 1))).f4⟩ : S68)) x7 x8 x10 (wrap64 (x11 - 1)) x239000 x239001 x257000 x257001 x257002 x257003 x257004) else (none)) else (none)) else (none)) else (none)) else (if 0 ≤ x10 then (if x10 < (x6.length : Int) then (spec_l10Glyphs.l0 k x4 x5 (x6.set (x10 : Int).toNat (⟨x257000, x257001, x257002, x257003, x257004⟩ : S68)) x7 (wrap64 (x8 + 1)) x239000 x239001) else (none)) else (none))
def spec_l10Glyphs.l1 : Nat → List Int → List Int → List (S68) → Int → Int → List Int → List Int → Option ((List (S68)))
 | 0, _, _, _, _, _, _, _ => none
 | k + 1, x4, x5, x6, x7, x8, x239000, x239001 => if (x5.length : Int) > 0 then (if 0 < (x5.length : Int) then (if 0 ≤ x8 then (if x8 < (x239001.length : Int) then (if (rd x5 0) ≤ (rd x239001 x8) then (if 1 ≤ (x5.length : Int) then (spec_l10Glyphs.l1 k x4 (x5.drop (1 : Int).toNat) x6 (rd x5 0) x8 x239000 x239001) else (none)) else (spec_l10Glyphs.j2 k x4 x5 x6 x7 x8 x239000 x239001)) else (none)) else (none)) else (none)) else (spec_l10Glyphs.j2 k x4 x5 x6 x7 x8 x239000 x239001)
end
def spec_l10Glyphs.f (k : Nat) (a0 : ByteArray) : Option ((List (S68))) := (spec_l07RowOf.f k a0).bind fun bt232 => ((spec_l10Forms.f k bt232.1).bind fun t239 => ((spec_l07Chars.f k a0).bind fun t242 => (spec_l10Glyphs.l0 k t239 t242 (([] : List (S68))) 0 0 bt232.1 bt232.2)))
theorem spec_l10Glyphs.mono_l : ∀ k, (∀ y0 y1 y2 y3 y4 y5 y6, LeO (spec_l10Glyphs.l0 k y0 y1 y2 y3 y4 y5 y6) (spec_l10Glyphs.l0 (k + 1) y0 y1 y2 y3 y4 y5 y6)) ∧ (∀ y0 y1 y2 y3 y4 y5 y6, LeO (spec_l10Glyphs.j2 k y0 y1 y2 y3 y4 y5 y6) (spec_l10Glyphs.j2 (k + 1) y0 y1 y2 y3 y4 y5 y6)) ∧ (∀ y0 y1 y2 y3 y4 y5 y6 y7 y8 y9 y10 y11 y12, LeO (spec_l10Glyphs.j3 k y0 y1 y2 y3 y4 y5 y6 y7 y8 y9 y10 y11 y12) (spec_l10Glyphs.j3 (k + 1) y0 y1 y2 y3 y4 y5 y6 y7 y8 y9 y10 y11 y12)) ∧ (∀ y0 y1 y2 y3 y4 y5 y6 y7 y8 y9 y10 y11 y12 y13, LeO (spec_l10Glyphs.l2 k y0 y1 y2 y3 y4 y5 y6 y7 y8 y9 y10 y11 y12 y13) (spec_l10Glyphs.l2 (k + 1) y0 y1 y2 y3 y4 y5 y6 y7 y8 y9 y10 y11 y12 y13)) ∧ (∀ y0 y1 y2 y3 y4 y5 y6, LeO (spec_l10Glyphs.l1 k y0 y1 y2 y3 y4 y5 y6) (spec_l10Glyphs.l1 (k + 1) y0 y1 y2 y3 y4 y5 y6))
 | 0 => ⟨fun _ _ _ _ _ _ _ r h => by simp [spec_l10Glyphs.l0] at h, fun _ _ _ _ _ _ _ r h => by simp [spec_l10Glyphs.j2] at h, fun _ _ _ _ _ _ _ _ _ _ _ _ _ r h => by simp [spec_l10Glyphs.j3] at h, fun _ _ _ _ _ _ _ _ _ _ _ _ _ _ r h => by simp [spec_l10Glyphs.l2] at h, fun _ _ _ _ _ _ _ r h => by simp [spec_l10Glyphs.l1] at h⟩
 | k + 1 => by
  obtain ⟨ih0, ih1, ih2, ih3, ih4⟩ := spec_l10Glyphs.mono_l k
  refine ⟨fun y0 y1 y2 y3 y4 y5 y6 => ?_, fun y0 y1 y2 y3 y4 y5 y6 => ?_, fun y0 y1 y2 y3 y4 y5 y6 y7 y8 y9 y10 y11 y12 => ?_, fun y0 y1 y2 y3 y4 y5 y6 y7 y8 y9 y10 y11 y12 y13 => ?_, fun y0 y1 y2 y3 y4 y5 y6 => ?_⟩
  all_goals (first | unfold spec_l10Glyphs.l0 | unfold spec_l10Glyphs.j2 | unfold spec_l10Glyphs.j3 | unfold spec_l10Glyphs.l2 | unfold spec_l10Glyphs.l1)
  all_goals (repeat' (first | (with_reducible first | exact ih0 .. | exact ih1 .. | exact ih2 .. | exact ih3 .. | exact ih4 .. | exact spec_l07Chars.mono .. | exact spec_l07RowOf.mono .. | exact spec_l10Forms.mono .. | exact spec_l10Start.mono .. | exact LeO.refl _ | exact LeO.none _ | refine LeO.ite ?_ ?_ | refine LeO.bind ?_ (fun _ => ?_)) | exact ih0 .. | exact ih1 .. | exact ih2 .. | exact ih3 .. | exact ih4 .. | exact spec_l07Chars.mono .. | exact spec_l07RowOf.mono .. | exact spec_l10Forms.mono .. | exact spec_l10Start.mono .. | exact LeO.none _ | refine LeO.ite ?_ ?_ | refine LeO.bind ?_ (fun _ => ?_)))
theorem spec_l10Glyphs.mono : ∀ a0 k, LeO (spec_l10Glyphs.f k a0) (spec_l10Glyphs.f (k + 1) a0) := by
 intro a0 k
 obtain ⟨ih0, ih1, ih2, ih3, ih4⟩ := spec_l10Glyphs.mono_l k
 unfold spec_l10Glyphs.f
 repeat' (first | (with_reducible first | exact ih0 .. | exact ih1 .. | exact ih2 .. | exact ih3 .. | exact ih4 .. | exact spec_l07Chars.mono .. | exact spec_l07RowOf.mono .. | exact spec_l10Forms.mono .. | exact spec_l10Start.mono .. | exact LeO.refl _ | exact LeO.none _ | refine LeO.ite ?_ ?_ | refine LeO.bind ?_ (fun _ => ?_)) | exact ih0 .. | exact ih1 .. | exact ih2 .. | exact ih3 .. | exact ih4 .. | exact spec_l07Chars.mono .. | exact spec_l07RowOf.mono .. | exact spec_l10Forms.mono .. | exact spec_l10Start.mono .. | exact LeO.none _ | refine LeO.ite ?_ ?_ | refine LeO.bind ?_ (fun _ => ?_))
def spec_l10Glyphs.T9 : Bool × List (List Nat × List Nat) := (true, [([], []), ([0], [0]), ([1], [1]), ([2], [2]), ([3], [3]), ([4, 3], [3, 4]), ([5, 3], [3, 5]), ([3], [3]), ([7, 3], [3, 7]), ([3], [3]), ([8, 9, 3], [3, 8, 9]), ([10, 3], [3, 10]), ([6, 11, 3], [3, 6, 11]), ([3, 12], [3, 12])])
def spec_l10Glyphs.B9 : List Nat := [0, 1, 3, 7, 15, 31, 63, 15, 143, 15, 911, 1935, 4095, 8191]
theorem spec_l10Glyphs.tab9 : rtab .any (opsOf Tryd.f70 9) = spec_l10Glyphs.T9 := by kernel_rfl
theorem spec_l10Glyphs.bits9 : waitsOk spec_l10Glyphs.T9.2 spec_l10Glyphs.B9 = true := by kernel_rfl
def spec_l10Glyphs.T12 : Bool × List (List Nat × List Nat) := (true, [([], []), ([0], [0]), ([], []), ([1, 2], [1, 2]), ([3], [3]), ([], []), ([], []), ([5, 6], [5, 6]), ([7], [7]), ([], []), ([4, 8, 9], [4, 8, 9]), ([], []), ([11, 10, 0, 1, 2, 3, 4, 5, 6, 7, 8, 9, 10, 11], [10, 11])])
def spec_l10Glyphs.B12 : List Nat := [0, 1, 0, 7, 15, 0, 0, 96, 224, 0, 1023, 0, 4095]
theorem spec_l10Glyphs.tab12 : rtab .any (opsOf Tryd.f70 12) = spec_l10Glyphs.T12 := by kernel_rfl
theorem spec_l10Glyphs.bits12 : waitsOk spec_l10Glyphs.T12.2 spec_l10Glyphs.B12 = true := by kernel_rfl
set_option maxHeartbeats 8000000 in
set_option maxRecDepth 100000 in
theorem spec_l10Glyphs.calls (k : Nat) (a0 : ByteArray) (r : List (S68)) (w : World) (h : spec_l10Glyphs.f k a0 = some r) :
  Calls Tryd.prog 70 #[.string a0] w fun e w' => ∃ v0_ : Value, e = .returned (v0_) ∧ Kd.R k68 68 w' w.heap.size (fun _ => True) v0_ r ∧ Below w.heap.size w w' := by
 have hu76 := Tryd.underlying76
 have hu68 := Tryd.underlying68
 have HB := am (Below.refl w.heap.size w)
 have H : ((spec_l07RowOf.f k a0).bind fun bt232 => ((spec_l10Forms.f k bt232.1).bind fun t239 => ((spec_l07Chars.f k a0).bind fun t242 => (spec_l10Glyphs.l0 k t239 t242 (([] : List (S68))) 0 0 bt232.1 bt232.2)))) = some r := h
 clear h
 replace H := Option.bind_eq_some_iff.mp H
 obtain ⟨⟨t232, t235⟩, A20, H⟩ := H
 replace H : ((spec_l10Forms.f k t232).bind fun t239 => ((spec_l07Chars.f k a0).bind fun t242 => (spec_l10Glyphs.l0 k t239 t242 (([] : List (S68))) 0 0 t232 t235))) = some r := H
 have A2 := am A20
 clear A20
 obtain ⟨t239, A3, H⟩ := bb H
 obtain ⟨t242, A4, H⟩ := bb H
 obtain ⟨y245, hy245⟩ : ∃ y_ : List (S68), y_ = (([] : List (S68))) := ⟨_, rfl⟩
 replace H : (spec_l10Glyphs.l0 k t239 t242 y245 0 0 t232 t235) = some r := by first | (rw [hy245]; with_reducible exact H) | (have H2_ := (Option.bind_some _ _).symm.trans H; rw [hy245]; with_reducible exact H2_) | (have H2_ := (Option.bind_some _ _).symm.trans H; with_reducible exact H2_) | with_reducible exact H | (rw [hy245]; exact H) | exact H
 have Ny245 := am hy245
 clear hy245
 have H' := am H
 clear H
 go_enter Tryd.func70, Tryd.ntmps70
 go_wp2_with (first | ((with_reducible refine gate_callee (f := 79) rfl ?_); refine gl 13 Tryd.func79 #[.string a0] ?_; (with_reducible refine (spec_l07RowOf.calls k a0 t232 t235 _ A2.out).mono ?_); rintro e w5 ⟨v233, v236, rfl, ho0, ho1, hb⟩; refine ⟨_, rfl, ?_⟩; have HO234 := am (Kd.R_lower ho0 (below_size bB)); have HO237 := am (Kd.R_lower ho1 (below_size bB)); replace HB := am (below_step bB hb); (try clear hb); (try clear ho0); (try clear ho1)) | ((with_reducible refine gate_dst (N := 3) rfl ?_); refine bx 3 #[.slice none 0 0, .slice none 0 0] 76 ?_; intro gb238 hg w6 hbox hb; replace HO234 := am (Kd.R_below (kR HO234.out) hb); replace HO237 := am (Kd.R_below (kR HO237.out) hb); have BK238 := am (hbox); have GW238 := am ((by rw [hg]; exact (below_size bB) : w.heap.size ≤ gb238)); have GE238 := am ((by rw [hg]; exact (below_size bB) : w.heap.size ≤ gb238)); replace HB := am (below_step bB hb); clear hb hbox hg; obtain ⟨Ao7, co7, eo7⟩ := Kd.R_slice HO234.out; subst eo7; have hcz8_0 := bc BK238.out 0 (.slice none 0 0); have hcz8_1 := bc BK238.out 1 (.slice none 0 0); have hfz8_0 := blk_frozen BK238.out 0; have hfz8_1 := blk_frozen BK238.out 1; obtain ⟨Ao9, co9, eo9⟩ := Kd.R_slice HO237.out; subst eo9) | ((with_reducible refine gate_callee (f := 73) rfl ?_); refine gl 16 Tryd.func73 #[.slice Ao7 t232.length co7] ?_; (with_reducible refine (spec_l10Forms.calls k _ _ t232 t239 _ ?side1 ?side2 A3.out).mono ?_); (case side1 => refine (Kd.R_reads' (e := 2) (base := w.heap.size) (ok := fun k_ => some k_ ≠ (.slice Ao9 t235.length co9 : Value).ownBlock) (n := t232.length) (c := co7) ?_).2.2; exact (kR ((Kd.R_mono (Kd.R_far (p := ⟨gb238, 1, none⟩) (Kd.R_far (p := ⟨gb238, 0, none⟩) (Kd.R_types HO234.out BK238.out (by decide)) (fun _ hk => hk.2) (.slice Ao7 t232.length co7)) (fun _ hk => hk.2) (.slice Ao9 t235.length co9)) (fun _ h_ => h_.1))))); (case side2 => exact (Kd.R_reads' HO234.out).2.1); rintro e w10 ⟨v240, rfl, ho0, hb⟩; refine ⟨_, rfl, ?_⟩; have HO241 := am (Kd.R_lower (Kd.R_new' (Kd.R_new' ho0 (Kd.R_lt (kR ((Kd.R_mono (Kd.R_far (p := ⟨gb238, 1, none⟩) (Kd.R_far (p := ⟨gb238, 0, none⟩) (Kd.R_types HO234.out BK238.out (by decide)) (fun _ hk => hk.2) (.slice Ao7 t232.length co7)) (fun _ hk => hk.2) (.slice Ao9 t235.length co9)) (fun _ h_ => h_.1)))))) (Kd.R_lt (kR ((Kd.R_mono (Kd.R_far (p := ⟨gb238, 1, none⟩) (Kd.R_far (p := ⟨gb238, 0, none⟩) (Kd.R_types HO237.out BK238.out (by decide)) (fun _ hk => hk.2) (.slice Ao7 t232.length co7)) (fun _ hk => hk.2) (.slice Ao9 t235.length co9)) (fun _ h_ => h_.1)))))) (below_size bS)); replace HO234 := am (Kd.R_elder' (kR ((Kd.R_mono (Kd.R_far (p := ⟨gb238, 1, none⟩) (Kd.R_far (p := ⟨gb238, 0, none⟩) (Kd.R_types HO234.out BK238.out (by decide)) (fun _ hk => hk.2) (.slice Ao7 t232.length co7)) (fun _ hk => hk.2) (.slice Ao9 t235.length co9)) (fun _ h_ => h_.1)))) (Kd.R_base ho0) hb); replace HO237 := am (Kd.R_elder' (kR ((Kd.R_mono (Kd.R_far (p := ⟨gb238, 1, none⟩) (Kd.R_far (p := ⟨gb238, 0, none⟩) (Kd.R_types HO237.out BK238.out (by decide)) (fun _ hk => hk.2) (.slice Ao7 t232.length co7)) (fun _ hk => hk.2) (.slice Ao9 t235.length co9)) (fun _ h_ => h_.1)))) (Kd.R_base ho0) hb); replace BK238 := am (blk_below (g := gb238) (o := .cells #[.slice Ao7 t232.length co7, .slice Ao9 t235.length co9] 76 (0, 0)) (by (with_reducible repeat (first | refine blk_drewN ?_ _ | refine blk_drew ?_ | refine blk_alloc ?_ _)); refine blk_put (cs := #[.slice Ao7 t232.length co7, .slice none 0 0]) ?_ 1 _ rfl; (with_reducible repeat (first | refine blk_drewN ?_ _ | refine blk_drew ?_ | refine blk_alloc ?_ _)); refine blk_put (cs := #[.slice none 0 0, .slice none 0 0]) ?_ 0 _ rfl; (with_reducible repeat (first | refine blk_drewN ?_ _ | refine blk_drew ?_ | refine blk_alloc ?_ _)); exact BK238.out) hb); replace HB := am (below_step bS hb); (try clear hb); (try clear hk); (try clear ho0)) | ((with_reducible refine gate_callee (f := 48) rfl ?_); refine gl 18 Tryd.func48 #[.string a0] ?_; (with_reducible refine (spec_l07Chars.calls k a0 t242 _ A4.out).mono ?_); rintro e w11 ⟨v243, rfl, ho0, hb⟩; refine ⟨_, rfl, ?_⟩; have HO244 := am (Kd.R_lower (Kd.R_new' (Kd.R_new' (Kd.R_new' ho0 (Kd.R_lt (kR HO234.out))) (Kd.R_lt (kR HO237.out))) (Kd.R_lt (kR HO241.out))) (below_size bS)); replace HO234 := am (Kd.R_elder' (kR HO234.out) (Kd.R_base ho0) hb); replace HO237 := am (Kd.R_elder' (kR HO237.out) (Kd.R_base ho0) hb); replace HO241 := am (Kd.R_elder' (kR HO241.out) (Kd.R_base ho0) hb); replace BK238 := am (blk_below (g := gb238) (o := .cells #[.slice Ao7 t232.length co7, .slice Ao9 t235.length co9] 76 (0, 0)) (bk BK238.out) hb); replace HB := am (below_step bS hb); (try clear hb); (try clear ho0)) | ((with_reducible refine gate_dst (N := 19) rfl ?_); refine Kd.R_lit k68 _ 68 ?hg (N := 19) ?hd (xs := ([] : List (S68))) (inner := []) (ok := fun _ => True) (okp := fun _ => True) ?hr ?hp (fun _ hk => hk) trivial (Below.refl _ _) (Nat.le_refl _) (by simp) ?_; (case hd => rfl); (case hg => rfl); (case hr => first | (go_simp; done) | (go_simp; rfl)); (case hp => exact (Reps.none _ _)); intro v246 w12 ho13 hb hg_ hnew_; clear hg_ hnew_; (first | rw [← Ny245.out] at ho13 | (simp only [Int.reduceToNat] at ho13; rw [← Ny245.out] at ho13)); replace HO234 := am (Kd.R_below (kR HO234.out) hb); replace HO237 := am (Kd.R_below (kR HO237.out) hb); replace HO241 := am (Kd.R_below (kR HO241.out) hb); replace HO244 := am (Kd.R_below (kR HO244.out) hb); have HO247 := am (Kd.R_lower ho13 (below_size bS)); replace BK238 := am (blk_below (g := gb238) (o := .cells #[.slice Ao7 t232.length co7, .slice Ao9 t235.length co9] 76 (0, 0)) (bk BK238.out) hb); replace HB := am (below_step bS hb); clear hb ho13))
 go_loopg [5, 6, 7, 8] k (fun kq v5 v6 v7 v8 w' => ∃ (x5_1 : List Int) (x6_1 : List (S68)) (x7_1 : Int) (x8_1 : Int), v7 = .int .i64 x7_1 ∧ v8 = .int .i64 x8_1 ∧ Aside0 (spec_l10Glyphs.l0 kq t239 x5_1 x6_1 x7_1 x8_1 t232 t235 = some r) ∧ Aside0 (kq ≤ k) ∧ Aside0 (Kd.R (Kd.int .i64) 2 w' w.heap.size (fun k_ => some k_ ≠ (v5 : Value).ownBlock ∧ some k_ ≠ ((.slice Ao7 t232.length co7) : Value).ownBlock ∧ some k_ ≠ ((.slice Ao9 t235.length co9) : Value).ownBlock) v240 t239) ∧ Aside0 (Kd.Q (Kd.int .i64) 2 w' w.heap.size (fun k_ => some k_ ≠ (v240 : Value).ownBlock ∧ some k_ ≠ ((.slice Ao7 t232.length co7) : Value).ownBlock ∧ some k_ ≠ ((.slice Ao9 t235.length co9) : Value).ownBlock) v5 x5_1) ∧ Aside0 (Kd.R k68 68 w' w.heap.size (fun _ => True) v6 x6_1) ∧ Aside0 (Kd.R (Kd.int .i64) 2 w' w.heap.size (fun k_ => some k_ ≠ (v240 : Value).ownBlock ∧ some k_ ≠ (v5 : Value).ownBlock ∧ some k_ ≠ ((.slice Ao9 t235.length co9) : Value).ownBlock) (.slice Ao7 t232.length co7) t232) ∧ Aside0 (Kd.R (Kd.int .i64) 2 w' w.heap.size (fun k_ => some k_ ≠ (v240 : Value).ownBlock ∧ some k_ ≠ (v5 : Value).ownBlock ∧ some k_ ≠ ((.slice Ao7 t232.length co7) : Value).ownBlock) (.slice Ao9 t235.length co9) t235) ∧ Aside0 (w'.heap[gb238]? = some (.cells #[(.slice Ao7 t232.length co7), (.slice Ao9 t235.length co9)] 76 (0, 0))) ∧ Aside0 (Below w.heap.size w w'))
 case atStart => exact ⟨(t242), (y245), (0), (0), sr, sr, H', ⟨Nat.le_refl _⟩, ⟨kR (Kd.R_mono HO241.out (fun _ hk => ⟨hk.2, ⟨hk.1.1.2, hk.1.2⟩⟩))⟩, ⟨Kd.Q_of_R (kR (Kd.R_mono HO244.out (fun _ hk => ⟨hk.2, ⟨hk.1.1.2, hk.1.2⟩⟩)))⟩, ⟨kR HO247.out⟩, ⟨kR (Kd.R_mono HO234.out (fun _ hk => ⟨hk.1.2, ⟨hk.2, hk.1.1⟩⟩))⟩, ⟨kR (Kd.R_mono HO237.out (fun _ hk => ⟨hk.1.2, ⟨hk.2, hk.1.1⟩⟩))⟩, ⟨bk BK238.out⟩, ⟨bS⟩⟩
 case round =>
  clear H'
  try clear hcz8_0
  try clear hcz8_1
  try clear hfz8_0
  try clear hfz8_1
  obtain ⟨x5_1, x6_1, x7_1, x8_1, rfl, rfl, HA, HK1, HO_4, HO_5, HO_6, HO_239000, HO_239001, BK238, HB⟩ := hrel
  cases gk with
  | zero => exact absurd HA.out (by simp [spec_l10Glyphs.l0])
  | succ k1 =>
   have H := HA.out
   clear HA
   simp only [spec_l10Glyphs.l0] at H
   by_cases c14 : x8_1 < (t232.length : Int)
   rotate_left
   ·rw [if_neg c14] at H
    have c14b0 : decide (x8_1 < (t232.length : Int)) = false := decide_eq_false c14
    clear c14
    obtain rfl := Option.some.inj H
    have hcz73_0 := bc BK238.out 0 (.slice Ao7 t232.length co7)
    have hcz73_1 := bc BK238.out 1 (.slice Ao9 t235.length co9)
    have hfz73_0 := blk_frozen BK238.out 0
    have hfz73_1 := blk_frozen BK238.out 1
    go_wp2
    go_ret
    exact ⟨_, rv, kR HO_6.out, bS⟩
   rw [if_pos c14] at H
   have c14b0 : decide (x8_1 < (t232.length : Int)) = true := decide_eq_true c14
   clear c14
   have HC15 := am H
   clear H
   have hcz16_0 := bc BK238.out 0 (.slice Ao7 t232.length co7)
   have hcz16_1 := bc BK238.out 1 (.slice Ao9 t235.length co9)
   have hfz16_0 := blk_frozen BK238.out 0
   have hfz16_1 := blk_frozen BK238.out 1
   go_upto_block 2 with (fail)
   go_cut [5, 7] (fun v5 v7 wc => ∃ (kq : Nat) (x5_14 : List Int) (x7_14 : Int), v7 = .int .i64 x7_14 ∧ Aside0 (spec_l10Glyphs.j2 kq t239 x5_14 x6_1 x7_14 x8_1 t232 t235 = some r) ∧ Aside0 (kq ≤ k1) ∧ Aside0 (Kd.R (Kd.int .i64) 2 wc w.heap.size (fun k_ => some k_ ≠ (v5 : Value).ownBlock ∧ some k_ ≠ ((.slice Ao7 t232.length co7) : Value).ownBlock ∧ some k_ ≠ ((.slice Ao9 t235.length co9) : Value).ownBlock) v240 t239) ∧ Aside0 (Kd.Q (Kd.int .i64) 2 wc w.heap.size (fun k_ => some k_ ≠ (v240 : Value).ownBlock ∧ some k_ ≠ ((.slice Ao7 t232.length co7) : Value).ownBlock ∧ some k_ ≠ ((.slice Ao9 t235.length co9) : Value).ownBlock) v5 x5_14) ∧ Aside0 (Kd.R k68 68 wc w.heap.size (fun _ => True) u6 x6_1) ∧ Aside0 (Kd.R (Kd.int .i64) 2 wc w.heap.size (fun k_ => some k_ ≠ (v240 : Value).ownBlock ∧ some k_ ≠ (v5 : Value).ownBlock ∧ some k_ ≠ ((.slice Ao9 t235.length co9) : Value).ownBlock) (.slice Ao7 t232.length co7) t232) ∧ Aside0 (Kd.R (Kd.int .i64) 2 wc w.heap.size (fun k_ => some k_ ≠ (v240 : Value).ownBlock ∧ some k_ ≠ (v5 : Value).ownBlock ∧ some k_ ≠ ((.slice Ao7 t232.length co7) : Value).ownBlock) (.slice Ao9 t235.length co9) t235) ∧ Aside0 (wc.heap[gb238]? = some (.cells #[(.slice Ao7 t232.length co7), (.slice Ao9 t235.length co9)] 76 (0, 0))) ∧ Aside0 (Below w.heap.size w wc))
   case first =>
    have H := HC15.out
    clear HC15
    have H' := am H
    clear H
    go_wp2
    go_loopg [5, 7] k1 (fun kq v5 v7 w' => ∃ (x5_2 : List Int) (x7_2 : Int), v7 = .int .i64 x7_2 ∧ Aside0 (spec_l10Glyphs.l1 kq t239 x5_2 x6_1 x7_2 x8_1 t232 t235 = some r) ∧ Aside0 (kq ≤ k1) ∧ Aside0 (Kd.R (Kd.int .i64) 2 w' w.heap.size (fun k_ => some k_ ≠ (v5 : Value).ownBlock ∧ some k_ ≠ ((.slice Ao7 t232.length co7) : Value).ownBlock ∧ some k_ ≠ ((.slice Ao9 t235.length co9) : Value).ownBlock) v240 t239) ∧ Aside0 (Kd.Q (Kd.int .i64) 2 w' w.heap.size (fun k_ => some k_ ≠ (v240 : Value).ownBlock ∧ some k_ ≠ ((.slice Ao7 t232.length co7) : Value).ownBlock ∧ some k_ ≠ ((.slice Ao9 t235.length co9) : Value).ownBlock) v5 x5_2) ∧ Aside0 (Kd.R k68 68 w' w.heap.size (fun _ => True) u6 x6_1) ∧ Aside0 (Kd.R (Kd.int .i64) 2 w' w.heap.size (fun k_ => some k_ ≠ (v240 : Value).ownBlock ∧ some k_ ≠ (v5 : Value).ownBlock ∧ some k_ ≠ ((.slice Ao9 t235.length co9) : Value).ownBlock) (.slice Ao7 t232.length co7) t232) ∧ Aside0 (Kd.R (Kd.int .i64) 2 w' w.heap.size (fun k_ => some k_ ≠ (v240 : Value).ownBlock ∧ some k_ ≠ (v5 : Value).ownBlock ∧ some k_ ≠ ((.slice Ao7 t232.length co7) : Value).ownBlock) (.slice Ao9 t235.length co9) t235) ∧ Aside0 (w'.heap[gb238]? = some (.cells #[(.slice Ao7 t232.length co7), (.slice Ao9 t235.length co9)] 76 (0, 0))) ∧ Aside0 (Below w.heap.size w w'))
    case atStart => exact ⟨(x5_1), (x7_1), sr, H', ⟨Nat.le_refl _⟩, ⟨kR HO_4.out⟩, ⟨by (with_reducible repeat (first | apply Kd.Q_alloc | apply Kd.Q_drewN | apply Kd.Q_drew)); exact HO_5.out⟩, ⟨kR HO_6.out⟩, ⟨kR HO_239000.out⟩, ⟨kR HO_239001.out⟩, ⟨bk BK238.out⟩, ⟨bS⟩⟩
    case round =>
     clear H'
     try clear c14b0
     try clear hcz16_0
     try clear hcz16_1
     try clear hfz16_0
     try clear hfz16_1
     obtain ⟨x5_2, x7_2, rfl, HA, HK2, HO_4, HO_5, HO_6, HO_239000, HO_239001, BK238, HB⟩ := hrel
     cases gk with
     | zero => exact absurd HA.out (by simp [spec_l10Glyphs.l1])
     | succ k2 =>
      have H := HA.out
      clear HA
      simp only [spec_l10Glyphs.l1] at H
      by_cases c17 : (x5_2.length : Int) > 0
      rotate_left
      ·rw [if_neg c17] at H
       have c17b0 : decide (0 < (x5_2.length : Int)) = false := decide_eq_false c17
       have c17b1 : decide (0 < x5_2.length) = false := decide_eq_false (by omega)
       clear c17
       (first | rw [c17b0] | (simp only [i64_w, i32_w]; rw [c17b0]) | skip)
       have H' := am H
       clear H
       try go_wp2
       replace HO_4 := am (Kd.R_drew HO_4.out)
       replace HO_5 := am (Kd.Q_drew HO_5.out)
       replace HO_6 := am (Kd.R_drew HO_6.out)
       replace HO_239000 := am (Kd.R_drew HO_239000.out)
       replace HO_239001 := am (Kd.R_drew HO_239001.out)
       replace BK238 := am (blk_drew BK238.out)
       replace HB := am (below_drew1 HB.out)
       obtain ⟨Ao29, co29, eo29, _⟩ := Kd.Q_slice HO_5.out
       (first | subst eo29 | (injection eo29 with f1_ f2_ f3_; have f4_ := f1_.symm; have f5_ := f3_.symm; clear f1_ f2_ f3_; subst f4_; subst f5_))
       refine start_ (n := 14) (S := fun w' => True) (ds := []) #[false, false, false, false, false, false, false, false, false, false, false, false, false, false] (by kernel_rfl) rfl rfl trivial (fun hHeld => ?_); refine with_tabW spec_l10Glyphs.tab9 spec_l10Glyphs.bits9 (fun HT_ HW_ => ?_)
       generalize wr.drew = w28 at HO_4 HO_5 HO_6 HO_239000 HO_239001 BK238 HB hHeld ⊢
       refine pq 0 27 HT_.out ?_
       refine pq 1 28 HT_.out ?_
       refine pq 2 29 HT_.out ?_
       refine pq 3 30 HT_.out ?_
       refine pu 4 31 HT_.out ?_
       refine pu 5 32 HT_.out ?_
       refine pu 6 33 HT_.out ?_
       refine pu 7 34 HT_.out ?_
       refine pu 8 35 HT_.out ?_
       refine pu 9 36 HT_.out ?_
       refine pu 10 37 HT_.out ?_
       refine pu 11 38 HT_.out ?_
       refine pu 12 39 HT_.out ?_
       refine pq 13 40 HT_.out ?_
       refine done_ (done_of HT_.out (by kernel_rfl)) ?_
       try go_wp2
       go_meet
       case rel => exact ⟨_, (x5_2), (x7_2), sr, H', ⟨kl⟩, ⟨kR HO_4.out⟩, ⟨by (with_reducible repeat (first | apply Kd.Q_alloc | apply Kd.Q_drewN | apply Kd.Q_drew)); exact HO_5.out⟩, ⟨kR HO_6.out⟩, ⟨kR HO_239000.out⟩, ⟨kR HO_239001.out⟩, ⟨bk BK238.out⟩, ⟨bS⟩⟩
      rw [if_pos c17] at H
      have c17b0 : decide (0 < (x5_2.length : Int)) = true := decide_eq_true c17
      have c17b1 : decide (0 < x5_2.length) = true := decide_eq_true (by omega)
      clear c17
      (first | rw [c17b0] | (simp only [i64_w, i32_w]; rw [c17b0]) | skip)
      replace H := iteN H
      obtain ⟨c18, H⟩ := H
      have c18b0 : decide (0 < (x5_2.length : Int)) = true := decide_eq_true c18
      have c18b1 : decide (0 < x5_2.length) = true := decide_eq_true (by omega)
      clear c18
      replace H := iteN H
      obtain ⟨c19, H⟩ := H
      have c19b0 : decide (0 ≤ x8_1) = true := decide_eq_true c19
      clear c19
      replace H := iteN H
      obtain ⟨c20, H⟩ := H
      have c20b0 : decide (x8_1 < (t235.length : Int)) = true := decide_eq_true c20
      clear c20
      by_cases c21 : (rd x5_2 0) ≤ (rd t235 x8_1)
      rotate_left
      ·rw [if_neg c21] at H
       have c21b0 : decide ((rd x5_2 0) ≤ (rd t235 x8_1)) = false := decide_eq_false c21
       clear c21
       have H' := am H
       clear H
       try go_wp2
       replace HO_4 := am (Kd.R_drew HO_4.out)
       replace HO_5 := am (Kd.Q_drew HO_5.out)
       replace HO_6 := am (Kd.R_drew HO_6.out)
       replace HO_239000 := am (Kd.R_drew HO_239000.out)
       replace HO_239001 := am (Kd.R_drew HO_239001.out)
       replace BK238 := am (blk_drew BK238.out)
       replace HB := am (below_drew1 HB.out)
       obtain ⟨Ao27, co27, eo27, _⟩ := Kd.Q_slice HO_5.out
       (first | subst eo27 | (injection eo27 with f1_ f2_ f3_; have f4_ := f1_.symm; have f5_ := f3_.symm; clear f1_ f2_ f3_; subst f4_; subst f5_))
       have p248 : 0 ≤ (0 : Int) := (by omega)
       have q248 : 0 < (x5_2.length : Int) := od
       obtain ⟨ad248, e248, hx248_0⟩ := Kd.at_int (Kd.Q_reads' HO_5.out).2.2 0 p248 q248
       cases e248
       have qi248 : (0 < x5_2.length) = True := eq_true (by omega)
       (try rw [show ((0 : Int)).toNat = 0 from rfl] at hx248_0)
       (try rw [Addr.add_zero'] at hx248_0)
       replace p248 := eq_true p248
       replace q248 := eq_true q248
       have p249 : 0 ≤ (x8_1 : Int) := od
       have q249 : x8_1 < (t235.length : Int) := od
       obtain ⟨ad249, e249, hx249_0⟩ := Kd.at_int (Kd.R_reads' HO_239001.out).2.2 x8_1 p249 q249
       cases e249
       replace p249 := eq_true p249
       replace q249 := eq_true q249
       refine start_ (n := 14) (S := fun w' => w'.cell? ⟨gb238, 0, none⟩ = some (.slice Ao7 t232.length co7) ∧ w'.cell? ⟨gb238, 1, none⟩ = some (.slice (some ad249) t235.length co9) ∧ w'.cell? ad248 = some (.int .i64 (rd x5_2 0)) ∧ w'.cell? (ad249.add (x8_1).toNat) = some (.int .i64 (rd t235 x8_1))) (ds := []) #[false, false, false, false, false, false, false, false, false, false, false, false, false, false] (by kernel_rfl) rfl rfl ⟨(blk_cell BK238.out 0).trans rfl, (blk_cell BK238.out 1).trans rfl, hx248_0, hx249_0⟩ (fun hHeld => ?_); refine with_tabW spec_l10Glyphs.tab9 spec_l10Glyphs.bits9 (fun HT_ HW_ => ?_)
       generalize wr.drew = w26 at HO_4 HO_5 HO_6 HO_239000 HO_239001 BK238 HB hx248_0 hx249_0 hHeld ⊢
       refine pq 0 27 HT_.out ?_
       refine pq 1 28 HT_.out ?_
       refine pq 2 29 HT_.out ?_
       refine pq 3 30 HT_.out ?_
       refine pq 4 31 HT_.out ?_
       refine pq 5 32 HT_.out ?_
       refine pq 7 34 HT_.out ?_
       refine pq 9 36 HT_.out ?_
       refine take_ (i := 6) (N := some 33) (v := ?_) (a' := ?_) #[true, true, true, true, true, true, true, true, false, true, false, false, false, false] rfl rfl (take_ofW HT_.out HW_.out (by kernel_rfl)) (fun _ _ _ h => h) (Or.inl ⟨by rfl, ?_⟩) hHeld ?_ ?_
       rotate_left
       ·rintro w' ⟨s0, s1, s2, s3⟩
        go_simp
        with_reducible rfl
       rotate_left
       ·simp only [Act.put, List.setIfInBounds_toArray, List.set_cons_zero, List.set_cons_succ, i64_w, i32_w]
        rfl
       refine take_ (i := 8) (N := some 35) (v := ?_) (a' := ?_) #[true, true, true, true, true, true, true, true, true, true, false, false, false, false] rfl rfl (take_ofW HT_.out HW_.out (by kernel_rfl)) (fun _ _ _ h => h) (Or.inl ⟨by rfl, ?_⟩) hHeld ?_ ?_
       rotate_left
       ·rintro w' ⟨s0, s1, s2, s3⟩
        go_simp
        with_reducible rfl
       rotate_left
       ·simp only [Act.put, List.setIfInBounds_toArray, List.set_cons_zero, List.set_cons_succ, i64_w, i32_w]
        rfl
       refine pq 10 37 HT_.out ?_
       refine take_ (i := 11) (N := some 38) (v := ?_) (a' := ?_) #[true, true, true, true, true, true, true, true, true, true, true, true, false, false] rfl rfl (take_ofW HT_.out HW_.out (by kernel_rfl)) (fun _ _ _ h => h) (Or.inl ⟨by rfl, ?_⟩) hHeld ?_ ?_
       rotate_left
       ·rintro w' ⟨s0, s1, s2, s3⟩
        go_simp
        with_reducible rfl
       rotate_left
       ·simp only [Act.put, List.setIfInBounds_toArray, List.set_cons_zero, List.set_cons_succ, i64_w, i32_w]
        rfl
       refine pq 12 39 HT_.out ?_
       refine pq 13 40 HT_.out ?_
       refine done_ (done_of HT_.out (by kernel_rfl)) ?_
       try go_wp2
       go_meet
       case rel => exact ⟨_, (x5_2), (x7_2), sr, H', ⟨kl⟩, ⟨kR HO_4.out⟩, ⟨by (with_reducible repeat (first | apply Kd.Q_alloc | apply Kd.Q_drewN | apply Kd.Q_drew)); exact HO_5.out⟩, ⟨kR HO_6.out⟩, ⟨kR HO_239000.out⟩, ⟨kR HO_239001.out⟩, ⟨bk BK238.out⟩, ⟨bS⟩⟩
      rw [if_pos c21] at H
      have c21b0 : decide ((rd x5_2 0) ≤ (rd t235 x8_1)) = true := decide_eq_true c21
      clear c21
      replace H := iteN H
      obtain ⟨c22, H⟩ := H
      have c22b0 := eq_true c22
      have c22b1 : decide (1 ≤ (x5_2.length : Int)) = true := decide_eq_true c22
      clear c22
      obtain ⟨y251, hy251⟩ : ∃ y_ : List Int, y_ = (x5_2.drop (1 : Int).toNat) := ⟨_, rfl⟩
      replace H : (spec_l10Glyphs.l1 k2 t239 y251 x6_1 (rd x5_2 0) x8_1 t232 t235) = some r := by first | (rw [hy251]; with_reducible exact H) | (have H2_ := (Option.bind_some _ _).symm.trans H; rw [hy251]; with_reducible exact H2_) | (have H2_ := (Option.bind_some _ _).symm.trans H; with_reducible exact H2_) | with_reducible exact H | (rw [hy251]; exact H) | exact H
      have Ny251 := am hy251
      clear hy251
      have H' := am H
      clear H
      try go_wp2
      replace HO_4 := am (Kd.R_drew HO_4.out)
      replace HO_5 := am (Kd.Q_drew HO_5.out)
      replace HO_6 := am (Kd.R_drew HO_6.out)
      replace HO_239000 := am (Kd.R_drew HO_239000.out)
      replace HO_239001 := am (Kd.R_drew HO_239001.out)
      replace BK238 := am (blk_drew BK238.out)
      replace HB := am (below_drew1 HB.out)
      obtain ⟨Ao24, co24, eo24, _⟩ := Kd.Q_slice HO_5.out
      (first | subst eo24 | (injection eo24 with f1_ f2_ f3_; have f4_ := f1_.symm; have f5_ := f3_.symm; clear f1_ f2_ f3_; subst f4_; subst f5_))
      have p248 : 0 ≤ (0 : Int) := (by omega)
      have q248 : 0 < (x5_2.length : Int) := od
      obtain ⟨ad248, e248, hx248_0⟩ := Kd.at_int (Kd.Q_reads' HO_5.out).2.2 0 p248 q248
      cases e248
      have qi248 : (0 < x5_2.length) = True := eq_true (by omega)
      (try rw [show ((0 : Int)).toNat = 0 from rfl] at hx248_0)
      (try rw [Addr.add_zero'] at hx248_0)
      replace p248 := eq_true p248
      replace q248 := eq_true q248
      have p249 : 0 ≤ (x8_1 : Int) := od
      have q249 : x8_1 < (t235.length : Int) := od
      obtain ⟨ad249, e249, hx249_0⟩ := Kd.at_int (Kd.R_reads' HO_239001.out).2.2 x8_1 p249 q249
      cases e249
      replace p249 := eq_true p249
      replace q249 := eq_true q249
      refine start_ (n := 14) (S := fun w' => w'.cell? ⟨gb238, 0, none⟩ = some (.slice Ao7 t232.length co7) ∧ w'.cell? ⟨gb238, 1, none⟩ = some (.slice (some ad249) t235.length co9) ∧ w'.cell? ad248 = some (.int .i64 (rd x5_2 0)) ∧ w'.cell? (ad249.add (x8_1).toNat) = some (.int .i64 (rd t235 x8_1))) (ds := []) #[false, false, false, false, false, false, false, false, false, false, false, false, false, false] (by kernel_rfl) rfl rfl ⟨(blk_cell BK238.out 0).trans rfl, (blk_cell BK238.out 1).trans rfl, hx248_0, hx249_0⟩ (fun hHeld => ?_); refine with_tabW spec_l10Glyphs.tab9 spec_l10Glyphs.bits9 (fun HT_ HW_ => ?_)
      generalize wr.drew = w23 at HO_4 HO_5 HO_6 HO_239000 HO_239001 BK238 HB hx248_0 hx249_0 hHeld ⊢
      refine pq 0 27 HT_.out ?_
      refine pq 1 28 HT_.out ?_
      refine pq 2 29 HT_.out ?_
      refine pq 3 30 HT_.out ?_
      refine pq 4 31 HT_.out ?_
      refine pq 5 32 HT_.out ?_
      refine pq 7 34 HT_.out ?_
      refine pq 9 36 HT_.out ?_
      refine take_ (i := 6) (N := some 33) (v := ?_) (a' := ?_) #[true, true, true, true, true, true, true, true, false, true, false, false, false, false] rfl rfl (take_ofW HT_.out HW_.out (by kernel_rfl)) (fun _ _ _ h => h) (Or.inl ⟨by rfl, ?_⟩) hHeld ?_ ?_
      rotate_left
      ·rintro w' ⟨s0, s1, s2, s3⟩
       go_simp
       with_reducible rfl
      rotate_left
      ·simp only [Act.put, List.setIfInBounds_toArray, List.set_cons_zero, List.set_cons_succ, i64_w, i32_w]
       rfl
      refine take_ (i := 8) (N := some 35) (v := ?_) (a' := ?_) #[true, true, true, true, true, true, true, true, true, true, false, false, false, false] rfl rfl (take_ofW HT_.out HW_.out (by kernel_rfl)) (fun _ _ _ h => h) (Or.inl ⟨by rfl, ?_⟩) hHeld ?_ ?_
      rotate_left
      ·rintro w' ⟨s0, s1, s2, s3⟩
       go_simp
       with_reducible rfl
      rotate_left
      ·simp only [Act.put, List.setIfInBounds_toArray, List.set_cons_zero, List.set_cons_succ, i64_w, i32_w]
       rfl
      refine pq 10 37 HT_.out ?_
      refine take_ (i := 11) (N := some 38) (v := ?_) (a' := ?_) #[true, true, true, true, true, true, true, true, true, true, true, true, false, false] rfl rfl (take_ofW HT_.out HW_.out (by kernel_rfl)) (fun _ _ _ h => h) (Or.inl ⟨by rfl, ?_⟩) hHeld ?_ ?_
      rotate_left
      ·rintro w' ⟨s0, s1, s2, s3⟩
       go_simp
       with_reducible rfl
      rotate_left
      ·simp only [Act.put, List.setIfInBounds_toArray, List.set_cons_zero, List.set_cons_succ, i64_w, i32_w]
       rfl
      refine pq 12 39 HT_.out ?_
      refine pq 13 40 HT_.out ?_
      refine done_ (done_of HT_.out (by kernel_rfl)) ?_
      have p250 : 0 ≤ (0 : Int) := (by omega)
      have q250 : 0 < (x5_2.length : Int) := od
      obtain ⟨ad250, e250, hx250_0⟩ := Kd.at_int (Kd.Q_reads' HO_5.out).2.2 0 p250 q250
      obtain rfl : ad248 = ad250 := (by injection e250)
      have qi250 : (0 < x5_2.length) = True := eq_true (by omega)
      (try rw [show ((0 : Int)).toNat = 0 from rfl] at hx250_0)
      (try rw [Addr.add_zero'] at hx250_0)
      replace p250 := eq_true p250
      replace q250 := eq_true q250
      have q25 : (1 : Int) ≤ ((x5_2.length : Int) : Int) := od
      obtain ⟨i025, hi025, _, hsz25, _⟩ := info_parts info2
      have hcut25 := cut_from (P := Tryd.prog) 22 2 .i64 Tryd.underlying22 hi025 1 hsz25 (some ad248) x5_2.length co24 1 (by omega) q25
      have hr25 := Kd.Q_drop (k := (1 : Int).toNat) HO_5.out (by omega)
      obtain ⟨A25, hA25⟩ : ∃ A1, A1 = (if co24 = (1 : Int).toNat then (some ad248) else ((some ad248) : Option Addr).map (·.add ((1 : Int).toNat * 1))) := ⟨_, rfl⟩
      obtain ⟨c25, hc25⟩ : ∃ c1, c1 = co24 - (1 : Int).toNat := ⟨_, rfl⟩
      have hy25 : y251.length = x5_2.length - (1 : Int).toNat := (by rw [Ny251.out, List.length_drop])
      rw [← Ny251.out] at hr25
      rw [← hy25, ← hA25, ← hc25] at hcut25
      replace hr25 : Kd.Q (Kd.int .i64) 2 w23 w.heap.size (fun k_ => some k_ ≠ (v240 : Value).ownBlock ∧ some k_ ≠ (.slice Ao7 t232.length co7 : Value).ownBlock ∧ some k_ ≠ (.slice (some ad249) t235.length co9 : Value).ownBlock) (.slice A25 y251.length c25) y251 := (by rw [hA25, hc25, hy25]; exact hr25)
      have HE25 : Aside0 ((Value.slice A25 y251.length c25).ownBlock = (.slice (some ad248) x5_2.length co24 : Value).ownBlock) := ⟨by rw [hA25]; split <;> (cases ((some ad248) : Option Addr) <;> rfl)⟩
      clear hy25 hi025 hsz25 HO_5 hA25 hc25
      have HO253 := am hr25
      clear hr25
      replace q25 := eq_true q25
      have n_ := am (Kd.R_mono (ok' := fun k_ => (some k_ ≠ (.slice A25 y251.length c25 : Value).ownBlock ∧ (some k_ ≠ (.slice Ao7 t232.length co7 : Value).ownBlock ∧ some k_ ≠ (.slice (some ad249) t235.length co9 : Value).ownBlock))) HO_4.out (fun k_ hk => ⟨(by rw [HE25.out]; exact hk.1), ⟨hk.2.1, hk.2.2⟩⟩))
      clear HO_4
      have HO_4 := n_
      clear n_
      have n_ := am (Kd.R_mono (ok' := fun k_ => (some k_ ≠ (v240 : Value).ownBlock ∧ (some k_ ≠ (.slice A25 y251.length c25 : Value).ownBlock ∧ some k_ ≠ (.slice (some ad249) t235.length co9 : Value).ownBlock))) HO_239000.out (fun k_ hk => ⟨hk.1, ⟨(by rw [HE25.out]; exact hk.2.1), hk.2.2⟩⟩))
      clear HO_239000
      have HO_239000 := n_
      clear n_
      have n_ := am (Kd.R_mono (ok' := fun k_ => (some k_ ≠ (v240 : Value).ownBlock ∧ (some k_ ≠ (.slice A25 y251.length c25 : Value).ownBlock ∧ some k_ ≠ (.slice Ao7 t232.length co7 : Value).ownBlock))) HO_239001.out (fun k_ hk => ⟨hk.1, ⟨(by rw [HE25.out]; exact hk.2.1), hk.2.2⟩⟩))
      clear HO_239001
      have HO_239001 := n_
      clear n_
      try go_wp2
      go_roundg k2
      case measure => have := HK1.out; have := HK2.out; omega
      case rel => exact ⟨(y251), (rd x5_2 0), sr, H', ⟨kl⟩, ⟨kR HO_4.out⟩, ⟨by (with_reducible repeat (first | apply Kd.Q_alloc | apply Kd.Q_drewN | apply Kd.Q_drew)); exact HO253.out⟩, ⟨kR HO_6.out⟩, ⟨kR HO_239000.out⟩, ⟨kR HO_239001.out⟩, ⟨bk BK238.out⟩, ⟨bS⟩⟩
   case rest =>
    clear HC15
    try clear c14b0
    try clear hcz16_0
    try clear hcz16_1
    try clear hfz16_0
    try clear hfz16_1
    obtain ⟨kq, x5_14, x7_14, rfl, HA, HJ14, HO_4, HO_5, HO_6, HO_239000, HO_239001, BK238, HB⟩ := hcut
    cases kq with
    | zero => exact absurd HA.out (by simp [spec_l10Glyphs.j2])
    | succ kj14 =>
     have H := HA.out
     clear HA
     simp only [spec_l10Glyphs.j2] at H
     replace H := iteN H
     obtain ⟨c30, H⟩ := H
     have c30b0 : decide (0 ≤ x8_1) = true := decide_eq_true c30
     clear c30
     replace H := iteN H
     obtain ⟨c31, H⟩ := H
     have c31b0 : decide (x8_1 < (t232.length : Int)) = true := decide_eq_true c31
     clear c31
     replace H := iteN H
     obtain ⟨c32, H⟩ := H
     have c32b0 : decide (x8_1 < (t239.length : Int)) = true := decide_eq_true c32
     clear c32
     replace H := iteN H
     obtain ⟨c33, H⟩ := H
     have LMc33 := am c33
     clear c33
     obtain ⟨y257, hy257⟩ : ∃ y_ : List (S68), y_ = (x6_1 ++ [(⟨rd t232 x8_1, rd t239 x8_1, x7_14, 0, 0⟩ : S68)]) := ⟨_, rfl⟩
     replace H : (if (rd t232 x8_1) < 1568 then (spec_l10Glyphs.j3 kj14 t239 x5_14 y257 x7_14 x8_1 true t232 t235 (rd t232 x8_1) (rd t239 x8_1) x7_14 0 0) else (if (rd t232 x8_1) > 1579 then (spec_l10Glyphs.j3 kj14 t239 x5_14 y257 x7_14 x8_1 true t232 t235 (rd t232 x8_1) (rd t239 x8_1) x7_14 0 0) else (spec_l10Glyphs.j3 kj14 t239 x5_14 y257 x7_14 x8_1 ((Int.tmod (rd t232 x8_1) 2) != 0) t232 t235 (rd t232 x8_1) (rd t239 x8_1) x7_14 0 0))) = some r := by first | (rw [hy257]; with_reducible exact H) | (have H2_ := (Option.bind_some _ _).symm.trans H; rw [hy257]; with_reducible exact H2_) | (have H2_ := (Option.bind_some _ _).symm.trans H; with_reducible exact H2_) | with_reducible exact H | (rw [hy257]; exact H) | exact H
     have Ny257 := am hy257
     clear hy257
     have HC34 := am H
     clear H
     try go_wp2
     replace HO_4 := am (Kd.R_drew HO_4.out)
     replace HO_5 := am (Kd.Q_drew HO_5.out)
     replace HO_6 := am (Kd.R_drew HO_6.out)
     replace HO_239000 := am (Kd.R_drew HO_239000.out)
     replace HO_239001 := am (Kd.R_drew HO_239001.out)
     replace BK238 := am (blk_drew BK238.out)
     replace HB := am (below_drew1 HB.out)
     have p254 : 0 ≤ (x8_1 : Int) := od
     have q254 : x8_1 < (t232.length : Int) := od
     obtain ⟨ad254, e254, hx254_0⟩ := Kd.at_int (Kd.R_reads' HO_239000.out).2.2 x8_1 p254 q254
     cases e254
     replace p254 := eq_true p254
     replace q254 := eq_true q254
     obtain ⟨Ao36, co36, eo36⟩ := Kd.R_slice HO_4.out
     (first | subst eo36 | (injection eo36 with f1_ f2_ f3_; have f4_ := f1_.symm; have f5_ := f3_.symm; clear f1_ f2_ f3_; subst f4_; subst f5_))
     have p255 : 0 ≤ (x8_1 : Int) := od
     have q255 : x8_1 < (t239.length : Int) := od
     obtain ⟨ad255, e255, hx255_0⟩ := Kd.at_int (Kd.R_reads' HO_4.out).2.2 x8_1 p255 q255
     cases e255
     replace p255 := eq_true p255
     replace q255 := eq_true q255
     refine start_ (n := 13) (S := fun w' => w'.cell? ⟨gb238, 0, none⟩ = some (.slice (some ad254) t232.length co7) ∧ w'.cell? ⟨gb238, 1, none⟩ = some (.slice Ao9 t235.length co9) ∧ w'.cell? (ad254.add (x8_1).toNat) = some (.int .i64 (rd t232 x8_1)) ∧ w'.cell? (ad255.add (x8_1).toNat) = some (.int .i64 (rd t239 x8_1))) (ds := []) #[false, false, false, false, false, false, false, false, false, false, false, false, false] (by kernel_rfl) rfl rfl ⟨(blk_cell BK238.out 0).trans rfl, (blk_cell BK238.out 1).trans rfl, hx254_0, hx255_0⟩ (fun hHeld => ?_); refine with_tabW spec_l10Glyphs.tab12 spec_l10Glyphs.bits12 (fun HT_ HW_ => ?_)
     generalize wc.drew = w35 at HO_4 HO_5 HO_6 HO_239000 HO_239001 BK238 HB hx254_0 hx255_0 hHeld ⊢
     refine pq 0 46 HT_.out ?_
     refine pq 2 48 HT_.out ?_
     refine pq 5 51 HT_.out ?_
     refine pq 6 52 HT_.out ?_
     refine pq 7 53 HT_.out ?_
     refine pq 9 55 HT_.out ?_
     refine take_ (i := 1) (N := some 47) (v := ?_) (a' := ?_) #[true, true, true, false, false, true, true, true, false, true, false, false, false] rfl rfl (take_ofW HT_.out HW_.out (by kernel_rfl)) (fun _ _ _ h => h) (Or.inl ⟨by rfl, ?_⟩) hHeld ?_ ?_
     rotate_left
     ·rintro w' ⟨s0, s1, s2, s3⟩
      go_simp
      with_reducible rfl
     rotate_left
     ·simp only [Act.put, List.setIfInBounds_toArray, List.set_cons_zero, List.set_cons_succ, i64_w, i32_w]
      rfl
     refine pq 3 49 HT_.out ?_
     refine take_ (i := 4) (N := some 50) (v := ?_) (a' := ?_) #[true, true, true, true, true, true, true, true, false, true, false, false, false] rfl rfl (take_ofW HT_.out HW_.out (by kernel_rfl)) (fun _ _ _ h => h) (Or.inl ⟨by rfl, ?_⟩) hHeld ?_ ?_
     rotate_left
     ·rintro w' ⟨s0, s1, s2, s3⟩
      go_simp
      with_reducible rfl
     rotate_left
     ·simp only [Act.put, List.setIfInBounds_toArray, List.set_cons_zero, List.set_cons_succ, i64_w, i32_w]
      rfl
     refine take_ (i := 8) (N := some 54) (v := ?_) (a' := ?_) #[true, true, true, true, true, true, true, true, true, true, false, false, false] rfl rfl (take_ofW HT_.out HW_.out (by kernel_rfl)) (fun _ _ _ h => h) (Or.inl ⟨by rfl, ?_⟩) hHeld ?_ ?_
     rotate_left
     ·rintro w' ⟨s0, s1, s2, s3⟩
      go_simp
      with_reducible rfl
     rotate_left
     ·simp only [Act.put, List.setIfInBounds_toArray, List.set_cons_zero, List.set_cons_succ, i64_w, i32_w]
      rfl
     refine pq 10 56 HT_.out ?_
     refine one_ (i := 11) (N := some 9) #[true, true, true, true, true, true, true, true, true, true, true, true, false] rfl rfl (one_of HT_.out (by kernel_rfl)) (by decide) (fun K hK => ?_)
     refine box_step ?hg (N := 9) ?hd (cs := #[.int .i64 0, .int .i64 0, .int .i64 0, .int .i64 0, .int .i64 0]) (t := 68) ?hr ?_; (case hd => rfl); (case hg => rfl); (case hr => first | (go_simp; done) | (go_simp; rfl))
     intro gb256 hg w37 hbox hb
     have HS2_ := (hb.cell (World.block_lt_of_cell? _ _ (hHeld.2.2.1))).trans (hHeld.2.2.1)
     have HS3_ := (hb.cell (World.block_lt_of_cell? _ _ (hHeld.2.2.2))).trans (hHeld.2.2.2)
     replace HO_4 := am (Kd.R_below (kR HO_4.out) hb)
     replace HO_5 := am (Kd.Q_below (by (with_reducible repeat (first | apply Kd.Q_alloc | apply Kd.Q_drewN | apply Kd.Q_drew)); exact HO_5.out) hb)
     replace HO_6 := am (Kd.R_below (Kd.R_elderB (kR HO_6.out) gb256 (Nat.le_of_eq hg.symm)) hb)
     replace HO_239000 := am (Kd.R_below (kR HO_239000.out) hb)
     replace HO_239001 := am (Kd.R_below (kR HO_239001.out) hb)
     have BK256 := am (hbox)
     have GW256 := am ((by rw [hg]; exact (below_size bS) : w.heap.size ≤ gb256))
     have GE256 := am ((by rw [hg]; exact (below_size bS) : w.heap.size ≤ gb256))
     replace HB := am (below_step bS hb)
     have NB238_256 := am (nl hg BK238.out)
     have NB256_238 := am ((by rw [hg]; exact Nat.ne_of_gt (blk_lt (g := gb238) (o := .cells #[.slice (some ad254) t232.length co7, .slice Ao9 t235.length co9] 76 (0, 0)) (bk BK238.out)) : gb256 ≠ gb238))
     replace BK238 := am (blk_below (g := gb238) (o := .cells #[.slice (some ad254) t232.length co7, .slice Ao9 t235.length co9] 76 (0, 0)) (bk BK238.out) hb)
     clear hb hbox hg
     refine hK.out _ _ ⟨(blk_cell BK238.out 0).trans rfl, (blk_cell BK238.out 1).trans rfl, HS2_, HS3_⟩ (fun hHeld => ?_)
     clear hK K
     refine norm_ (a' := ?_) ?_ ?_
     rotate_left
     ·show Act.put _ (some 9) _ = _
      simp only [Act.put, List.setIfInBounds_toArray, List.set_cons_zero, List.set_cons_succ, i64_w, i32_w]
      rfl
     refine one_ (i := 12) (N := none) #[true, true, true, true, true, true, true, true, true, true, true, true, true] rfl rfl (one_of HT_.out (by kernel_rfl)) (by decide) (fun K hK => ?_)
     have hs38 : w37.cell? ⟨gb256, 0, none⟩ = some (.int .i64 0) := (blk_cell BK256.out 0).trans rfl
     have hfs38 := blk_frozen BK256.out 0
     have hns38_0 := NB238_256.out
     have hms38_0 := NB256_238.out
     have hs39 : w37.cell? ⟨gb256, 1, none⟩ = some (.int .i64 0) := (blk_cell BK256.out 1).trans rfl
     have hfs39 := blk_frozen BK256.out 1
     have hns39_0 := NB238_256.out
     have hms39_0 := NB256_238.out
     have hs40 : w37.cell? ⟨gb256, 2, none⟩ = some (.int .i64 0) := (blk_cell BK256.out 2).trans rfl
     have hfs40 := blk_frozen BK256.out 2
     have hns40_0 := NB238_256.out
     have hms40_0 := NB256_238.out
     have hs41 : w37.cell? ⟨gb256, 3, none⟩ = some (.int .i64 0) := (blk_cell BK256.out 3).trans rfl
     have hfs41 := blk_frozen BK256.out 3
     have hns41_0 := NB238_256.out
     have hms41_0 := NB256_238.out
     have hs42 : w37.cell? ⟨gb256, 4, none⟩ = some (.int .i64 0) := (blk_cell BK256.out 4).trans rfl
     have hfs42 := blk_frozen BK256.out 4
     have hns42_0 := NB238_256.out
     have hms42_0 := NB256_238.out
     refine skip_ (w1 := ?_) (by rfl) rfl ?_ ?_
     rotate_left
     ·go_simp
      rfl
     refine hK.out _ _ ⟨((cell_far (p := ⟨gb256, _, none⟩) NB238_256.out _).trans (((cell_far (p := ⟨gb256, _, none⟩) NB238_256.out _).trans (((cell_far (p := ⟨gb256, _, none⟩) NB238_256.out _).trans (((cell_far (p := ⟨gb256, _, none⟩) NB238_256.out _).trans (((cell_far (p := ⟨gb256, _, none⟩) NB238_256.out _).trans (hHeld.1)))))))))), ((cell_far (p := ⟨gb256, _, none⟩) NB238_256.out _).trans (((cell_far (p := ⟨gb256, _, none⟩) NB238_256.out _).trans (((cell_far (p := ⟨gb256, _, none⟩) NB238_256.out _).trans (((cell_far (p := ⟨gb256, _, none⟩) NB238_256.out _).trans (((cell_far (p := ⟨gb256, _, none⟩) NB238_256.out _).trans (hHeld.2.1)))))))))), ((cell_far (p := ⟨gb256, _, none⟩) (by first | exact Kd.own_blk (Kd.R_ne HO_239000.out BK256.out (by decide)) | (rw [add_block]; exact Kd.own_blk (Kd.R_ne HO_239000.out BK256.out (by decide))) | (show (Addr.add _ _).block ≠ _; rw [add_block]; exact Kd.own_blk (Kd.R_ne HO_239000.out BK256.out (by decide))) | (dsimp only; exact Kd.own_blk (Kd.R_ne HO_239000.out BK256.out (by decide)))) _).trans (((cell_far (p := ⟨gb256, _, none⟩) (by first | exact Kd.own_blk (Kd.R_ne HO_239000.out BK256.out (by decide)) | (rw [add_block]; exact Kd.own_blk (Kd.R_ne HO_239000.out BK256.out (by decide))) | (show (Addr.add _ _).block ≠ _; rw [add_block]; exact Kd.own_blk (Kd.R_ne HO_239000.out BK256.out (by decide))) | (dsimp only; exact Kd.own_blk (Kd.R_ne HO_239000.out BK256.out (by decide)))) _).trans (((cell_far (p := ⟨gb256, _, none⟩) (by first | exact Kd.own_blk (Kd.R_ne HO_239000.out BK256.out (by decide)) | (rw [add_block]; exact Kd.own_blk (Kd.R_ne HO_239000.out BK256.out (by decide))) | (show (Addr.add _ _).block ≠ _; rw [add_block]; exact Kd.own_blk (Kd.R_ne HO_239000.out BK256.out (by decide))) | (dsimp only; exact Kd.own_blk (Kd.R_ne HO_239000.out BK256.out (by decide)))) _).trans (((cell_far (p := ⟨gb256, _, none⟩) (by first | exact Kd.own_blk (Kd.R_ne HO_239000.out BK256.out (by decide)) | (rw [add_block]; exact Kd.own_blk (Kd.R_ne HO_239000.out BK256.out (by decide))) | (show (Addr.add _ _).block ≠ _; rw [add_block]; exact Kd.own_blk (Kd.R_ne HO_239000.out BK256.out (by decide))) | (dsimp only; exact Kd.own_blk (Kd.R_ne HO_239000.out BK256.out (by decide)))) _).trans (((cell_far (p := ⟨gb256, _, none⟩) (by first | exact Kd.own_blk (Kd.R_ne HO_239000.out BK256.out (by decide)) | (rw [add_block]; exact Kd.own_blk (Kd.R_ne HO_239000.out BK256.out (by decide))) | (show (Addr.add _ _).block ≠ _; rw [add_block]; exact Kd.own_blk (Kd.R_ne HO_239000.out BK256.out (by decide))) | (dsimp only; exact Kd.own_blk (Kd.R_ne HO_239000.out BK256.out (by decide)))) _).trans (hHeld.2.2.1)))))))))), ((cell_far (p := ⟨gb256, _, none⟩) (by first | exact Kd.own_blk (Kd.R_ne HO_4.out BK256.out (by decide)) | (rw [add_block]; exact Kd.own_blk (Kd.R_ne HO_4.out BK256.out (by decide))) | (show (Addr.add _ _).block ≠ _; rw [add_block]; exact Kd.own_blk (Kd.R_ne HO_4.out BK256.out (by decide))) | (dsimp only; exact Kd.own_blk (Kd.R_ne HO_4.out BK256.out (by decide)))) _).trans (((cell_far (p := ⟨gb256, _, none⟩) (by first | exact Kd.own_blk (Kd.R_ne HO_4.out BK256.out (by decide)) | (rw [add_block]; exact Kd.own_blk (Kd.R_ne HO_4.out BK256.out (by decide))) | (show (Addr.add _ _).block ≠ _; rw [add_block]; exact Kd.own_blk (Kd.R_ne HO_4.out BK256.out (by decide))) | (dsimp only; exact Kd.own_blk (Kd.R_ne HO_4.out BK256.out (by decide)))) _).trans (((cell_far (p := ⟨gb256, _, none⟩) (by first | exact Kd.own_blk (Kd.R_ne HO_4.out BK256.out (by decide)) | (rw [add_block]; exact Kd.own_blk (Kd.R_ne HO_4.out BK256.out (by decide))) | (show (Addr.add _ _).block ≠ _; rw [add_block]; exact Kd.own_blk (Kd.R_ne HO_4.out BK256.out (by decide))) | (dsimp only; exact Kd.own_blk (Kd.R_ne HO_4.out BK256.out (by decide)))) _).trans (((cell_far (p := ⟨gb256, _, none⟩) (by first | exact Kd.own_blk (Kd.R_ne HO_4.out BK256.out (by decide)) | (rw [add_block]; exact Kd.own_blk (Kd.R_ne HO_4.out BK256.out (by decide))) | (show (Addr.add _ _).block ≠ _; rw [add_block]; exact Kd.own_blk (Kd.R_ne HO_4.out BK256.out (by decide))) | (dsimp only; exact Kd.own_blk (Kd.R_ne HO_4.out BK256.out (by decide)))) _).trans (((cell_far (p := ⟨gb256, _, none⟩) (by first | exact Kd.own_blk (Kd.R_ne HO_4.out BK256.out (by decide)) | (rw [add_block]; exact Kd.own_blk (Kd.R_ne HO_4.out BK256.out (by decide))) | (show (Addr.add _ _).block ≠ _; rw [add_block]; exact Kd.own_blk (Kd.R_ne HO_4.out BK256.out (by decide))) | (dsimp only; exact Kd.own_blk (Kd.R_ne HO_4.out BK256.out (by decide)))) _).trans (hHeld.2.2.2))))))))))⟩ (fun hHeld => ?_)
     clear hK K
     refine done_ (done_of HT_.out (by kernel_rfl)) ?_
     have hnb43 := NB256_238.out
     have hnc43 := NB238_256.out
     have hcz44_0 := bc BK256.out 0 (.int .i64 0)
     have hcz44_1 := bc BK256.out 1 (.int .i64 0)
     have hcz44_2 := bc BK256.out 2 (.int .i64 0)
     have hcz44_3 := bc BK256.out 3 (.int .i64 0)
     have hcz44_4 := bc BK256.out 4 (.int .i64 0)
     have hfz44_0 := blk_frozen BK256.out 0
     have hfz44_1 := blk_frozen BK256.out 1
     have hfz44_2 := blk_frozen BK256.out 2
     have hfz44_3 := blk_frozen BK256.out 3
     have hfz44_4 := blk_frozen BK256.out 4
     go_upto_region 14 with (first | ((with_reducible refine gate_builtin (b := .append) (xs := #[.tmp 57, .tmp 59]) rfl ?_); at_builtin; refine Kd.R_append k68 (w0 := w) w.heap.size rfl (.tmp 57) (.tmp 59) 42 68 (.agg #[(.int .i64 0), (.int .i64 0), (.int .i64 0), (.int .i64 0), (.int .i64 0)]) 40 rfl Tryd.underlying42 info68 rfl (by decide) (by omega) u6 x6_1 (⟨rd t232 x8_1, rd t239 x8_1, x7_14, 0, 0⟩ : S68) [.int .i64 (rd t232 x8_1), .int .i64 (rd t239 x8_1), .int .i64 x7_14, .int .i64 0, .int .i64 0] (fun k_ => k_ ≠ gb256) (fun _ => False) rfl (by first | (go_simp; done) | (go_simp; rfl)) ?aP (fun _ hk => hk.elim) ?aF ?aO ?aB ?aS ?aL ?_; (case aP => exact k68_mkM _ _ _ (⟨rd t232 x8_1, rd t239 x8_1, x7_14, 0, 0⟩ : S68)); (case aB => exact bS); (case aF => exact (fun k_ hk => Kd.freshB (g := gb256) (o := .cells #[.int .i64 (rd t232 x8_1), .int .i64 (rd t239 x8_1), .int .i64 x7_14, .int .i64 0, .int .i64 0] 68 (0, 0)) (by (with_reducible repeat (first | refine blk_drewN ?_ _ | refine blk_drew ?_ | refine blk_alloc ?_ _)); refine blk_put (cs := #[.int .i64 (rd t232 x8_1), .int .i64 (rd t239 x8_1), .int .i64 x7_14, .int .i64 0, .int .i64 0]) ?_ 4 _ rfl; (with_reducible repeat (first | refine blk_drewN ?_ _ | refine blk_drew ?_ | refine blk_alloc ?_ _)); refine blk_put (cs := #[.int .i64 (rd t232 x8_1), .int .i64 (rd t239 x8_1), .int .i64 x7_14, .int .i64 0, .int .i64 0]) ?_ 3 _ rfl; (with_reducible repeat (first | refine blk_drewN ?_ _ | refine blk_drew ?_ | refine blk_alloc ?_ _)); refine blk_put (cs := #[.int .i64 (rd t232 x8_1), .int .i64 (rd t239 x8_1), .int .i64 0, .int .i64 0, .int .i64 0]) ?_ 2 _ rfl; (with_reducible repeat (first | refine blk_drewN ?_ _ | refine blk_drew ?_ | refine blk_alloc ?_ _)); refine blk_put (cs := #[.int .i64 (rd t232 x8_1), .int .i64 0, .int .i64 0, .int .i64 0, .int .i64 0]) ?_ 1 _ rfl; (with_reducible repeat (first | refine blk_drewN ?_ _ | refine blk_drew ?_ | refine blk_alloc ?_ _)); refine blk_put (cs := #[.int .i64 0, .int .i64 0, .int .i64 0, .int .i64 0, .int .i64 0]) ?_ 0 _ rfl; (with_reducible repeat (first | refine blk_drewN ?_ _ | refine blk_drew ?_ | refine blk_alloc ?_ _)); exact BK256.out) k_ hk)); (case aO => exact (kR (Kd.R_mono (Kd.R_far (p := ⟨gb256, 4, none⟩) (Kd.R_far (p := ⟨gb256, 3, none⟩) (Kd.R_far (p := ⟨gb256, 2, none⟩) (Kd.R_far (p := ⟨gb256, 1, none⟩) (Kd.R_far (p := ⟨gb256, 0, none⟩) (Kd.R_mono HO_6.out (fun k_ hk => (⟨hk, hk.2⟩ : _ ∧ k_ ≠ gb256))) (fun _ hk => hk.2) (.int .i64 (rd t232 x8_1))) (fun _ hk => hk.2) (.int .i64 (rd t239 x8_1))) (fun _ hk => hk.2) (.int .i64 x7_14)) (fun _ hk => hk.2) (.int .i64 0)) (fun _ hk => hk.2) (.int .i64 0)) (fun _ hk => hk.1.2)))); (case aS => exact (below_size bS)); (case aL => have := LMc33.out; omega); intro v258 w45 ho hb hg hat; rw [← Ny257.out] at ho; replace HO_4 := am (Kd.R_over' (kR ((Kd.R_mono (Kd.R_far (p := ⟨gb256, 4, none⟩) (Kd.R_far (p := ⟨gb256, 3, none⟩) (Kd.R_far (p := ⟨gb256, 2, none⟩) (Kd.R_far (p := ⟨gb256, 1, none⟩) (Kd.R_far (p := ⟨gb256, 0, none⟩) (Kd.R_types HO_4.out BK256.out (by decide)) (fun _ hk => hk.2) (.int .i64 (rd t232 x8_1))) (fun _ hk => hk.2) (.int .i64 (rd t239 x8_1))) (fun _ hk => hk.2) (.int .i64 x7_14)) (fun _ hk => hk.2) (.int .i64 0)) (fun _ hk => hk.2) (.int .i64 0)) (fun _ h_ => h_.1)))) (Kd.R_typed (kR ((Kd.R_mono (Kd.R_far (p := ⟨gb256, 4, none⟩) (Kd.R_far (p := ⟨gb256, 3, none⟩) (Kd.R_far (p := ⟨gb256, 2, none⟩) (Kd.R_far (p := ⟨gb256, 1, none⟩) (Kd.R_far (p := ⟨gb256, 0, none⟩) (Kd.R_mono HO_6.out (fun k_ hk => (⟨hk, hk.2⟩ : _ ∧ k_ ≠ gb256))) (fun _ hk => hk.2) (.int .i64 (rd t232 x8_1))) (fun _ hk => hk.2) (.int .i64 (rd t239 x8_1))) (fun _ hk => hk.2) (.int .i64 x7_14)) (fun _ hk => hk.2) (.int .i64 0)) (fun _ hk => hk.2) (.int .i64 0)) (fun _ h_ => h_.1))))) (by decide) hg); replace HO_5 := am (Kd.Q_over' (by (with_reducible repeat (first | apply Kd.Q_alloc | apply Kd.Q_drewN | apply Kd.Q_drew)); exact (Kd.Q_mono (Kd.Q_far (p := ⟨gb256, 4, none⟩) (Kd.Q_far (p := ⟨gb256, 3, none⟩) (Kd.Q_far (p := ⟨gb256, 2, none⟩) (Kd.Q_far (p := ⟨gb256, 1, none⟩) (Kd.Q_far (p := ⟨gb256, 0, none⟩) (Kd.Q_types HO_5.out BK256.out (by decide)) (fun _ hk => hk.2) (.int .i64 (rd t232 x8_1))) (fun _ hk => hk.2) (.int .i64 (rd t239 x8_1))) (fun _ hk => hk.2) (.int .i64 x7_14)) (fun _ hk => hk.2) (.int .i64 0)) (fun _ hk => hk.2) (.int .i64 0)) (fun _ h_ => h_.1))) (Kd.R_typed (kR ((Kd.R_mono (Kd.R_far (p := ⟨gb256, 4, none⟩) (Kd.R_far (p := ⟨gb256, 3, none⟩) (Kd.R_far (p := ⟨gb256, 2, none⟩) (Kd.R_far (p := ⟨gb256, 1, none⟩) (Kd.R_far (p := ⟨gb256, 0, none⟩) (Kd.R_mono HO_6.out (fun k_ hk => (⟨hk, hk.2⟩ : _ ∧ k_ ≠ gb256))) (fun _ hk => hk.2) (.int .i64 (rd t232 x8_1))) (fun _ hk => hk.2) (.int .i64 (rd t239 x8_1))) (fun _ hk => hk.2) (.int .i64 x7_14)) (fun _ hk => hk.2) (.int .i64 0)) (fun _ hk => hk.2) (.int .i64 0)) (fun _ h_ => h_.1))))) (by decide) hg); replace HO_239000 := am (Kd.R_over' (kR ((Kd.R_mono (Kd.R_far (p := ⟨gb256, 4, none⟩) (Kd.R_far (p := ⟨gb256, 3, none⟩) (Kd.R_far (p := ⟨gb256, 2, none⟩) (Kd.R_far (p := ⟨gb256, 1, none⟩) (Kd.R_far (p := ⟨gb256, 0, none⟩) (Kd.R_types HO_239000.out BK256.out (by decide)) (fun _ hk => hk.2) (.int .i64 (rd t232 x8_1))) (fun _ hk => hk.2) (.int .i64 (rd t239 x8_1))) (fun _ hk => hk.2) (.int .i64 x7_14)) (fun _ hk => hk.2) (.int .i64 0)) (fun _ hk => hk.2) (.int .i64 0)) (fun _ h_ => h_.1)))) (Kd.R_typed (kR ((Kd.R_mono (Kd.R_far (p := ⟨gb256, 4, none⟩) (Kd.R_far (p := ⟨gb256, 3, none⟩) (Kd.R_far (p := ⟨gb256, 2, none⟩) (Kd.R_far (p := ⟨gb256, 1, none⟩) (Kd.R_far (p := ⟨gb256, 0, none⟩) (Kd.R_mono HO_6.out (fun k_ hk => (⟨hk, hk.2⟩ : _ ∧ k_ ≠ gb256))) (fun _ hk => hk.2) (.int .i64 (rd t232 x8_1))) (fun _ hk => hk.2) (.int .i64 (rd t239 x8_1))) (fun _ hk => hk.2) (.int .i64 x7_14)) (fun _ hk => hk.2) (.int .i64 0)) (fun _ hk => hk.2) (.int .i64 0)) (fun _ h_ => h_.1))))) (by decide) hg); replace HO_239001 := am (Kd.R_over' (kR ((Kd.R_mono (Kd.R_far (p := ⟨gb256, 4, none⟩) (Kd.R_far (p := ⟨gb256, 3, none⟩) (Kd.R_far (p := ⟨gb256, 2, none⟩) (Kd.R_far (p := ⟨gb256, 1, none⟩) (Kd.R_far (p := ⟨gb256, 0, none⟩) (Kd.R_types HO_239001.out BK256.out (by decide)) (fun _ hk => hk.2) (.int .i64 (rd t232 x8_1))) (fun _ hk => hk.2) (.int .i64 (rd t239 x8_1))) (fun _ hk => hk.2) (.int .i64 x7_14)) (fun _ hk => hk.2) (.int .i64 0)) (fun _ hk => hk.2) (.int .i64 0)) (fun _ h_ => h_.1)))) (Kd.R_typed (kR ((Kd.R_mono (Kd.R_far (p := ⟨gb256, 4, none⟩) (Kd.R_far (p := ⟨gb256, 3, none⟩) (Kd.R_far (p := ⟨gb256, 2, none⟩) (Kd.R_far (p := ⟨gb256, 1, none⟩) (Kd.R_far (p := ⟨gb256, 0, none⟩) (Kd.R_mono HO_6.out (fun k_ hk => (⟨hk, hk.2⟩ : _ ∧ k_ ≠ gb256))) (fun _ hk => hk.2) (.int .i64 (rd t232 x8_1))) (fun _ hk => hk.2) (.int .i64 (rd t239 x8_1))) (fun _ hk => hk.2) (.int .i64 x7_14)) (fun _ hk => hk.2) (.int .i64 0)) (fun _ hk => hk.2) (.int .i64 0)) (fun _ h_ => h_.1))))) (by decide) hg); replace BK238 := am (blk_grown (g := gb238) (o := .cells #[.slice (some ad254) t232.length co7, .slice Ao9 t235.length co9] 76 (0, 0)) (bf BK238.out) hg (Kd.R_ne HO_6.out BK238.out (by decide))); replace BK256 := am (blk_grown (g := gb256) (o := .cells #[.int .i64 (rd t232 x8_1), .int .i64 (rd t239 x8_1), .int .i64 x7_14, .int .i64 0, .int .i64 0] 68 (0, 0)) (by (with_reducible repeat (first | refine blk_drewN ?_ _ | refine blk_drew ?_ | refine blk_alloc ?_ _)); refine blk_put (cs := #[.int .i64 (rd t232 x8_1), .int .i64 (rd t239 x8_1), .int .i64 x7_14, .int .i64 0, .int .i64 0]) ?_ 4 _ rfl; (with_reducible repeat (first | refine blk_drewN ?_ _ | refine blk_drew ?_ | refine blk_alloc ?_ _)); refine blk_put (cs := #[.int .i64 (rd t232 x8_1), .int .i64 (rd t239 x8_1), .int .i64 x7_14, .int .i64 0, .int .i64 0]) ?_ 3 _ rfl; (with_reducible repeat (first | refine blk_drewN ?_ _ | refine blk_drew ?_ | refine blk_alloc ?_ _)); refine blk_put (cs := #[.int .i64 (rd t232 x8_1), .int .i64 (rd t239 x8_1), .int .i64 0, .int .i64 0, .int .i64 0]) ?_ 2 _ rfl; (with_reducible repeat (first | refine blk_drewN ?_ _ | refine blk_drew ?_ | refine blk_alloc ?_ _)); refine blk_put (cs := #[.int .i64 (rd t232 x8_1), .int .i64 0, .int .i64 0, .int .i64 0, .int .i64 0]) ?_ 1 _ rfl; (with_reducible repeat (first | refine blk_drewN ?_ _ | refine blk_drew ?_ | refine blk_alloc ?_ _)); refine blk_put (cs := #[.int .i64 0, .int .i64 0, .int .i64 0, .int .i64 0, .int .i64 0]) ?_ 0 _ rfl; (with_reducible repeat (first | refine blk_drewN ?_ _ | refine blk_drew ?_ | refine blk_alloc ?_ _)); exact BK256.out) hg (Kd.R_away HO_6.out (fun _ hk => hk.2))); replace HB := am (hb); have HO259 := am (ho); clear HO_6; clear ho hb hg hat))
     (try simp only [Act.put, List.setIfInBounds_toArray, List.set_cons_zero, List.set_cons_succ])
     go_cut [74] (fun v74 wc => ∃ (kq : Nat) (x74_33 : Bool), v74 = .bool x74_33 ∧ Aside0 (spec_l10Glyphs.j3 kq t239 x5_14 y257 x7_14 x8_1 x74_33 t232 t235 (rd t232 x8_1) (rd t239 x8_1) x7_14 0 0 = some r) ∧ Aside0 (kq ≤ kj14) ∧ Aside0 (Kd.R (Kd.int .i64) 2 wc w.heap.size (fun k_ => some k_ ≠ (u5 : Value).ownBlock ∧ some k_ ≠ ((.slice (some ad254) t232.length co7) : Value).ownBlock ∧ some k_ ≠ ((.slice Ao9 t235.length co9) : Value).ownBlock) (.slice (some ad255) t239.length co36) t239) ∧ Aside0 (Kd.Q (Kd.int .i64) 2 wc w.heap.size (fun k_ => some k_ ≠ ((.slice (some ad255) t239.length co36) : Value).ownBlock ∧ some k_ ≠ ((.slice (some ad254) t232.length co7) : Value).ownBlock ∧ some k_ ≠ ((.slice Ao9 t235.length co9) : Value).ownBlock) u5 x5_14) ∧ Aside0 (Kd.R k68 68 wc w.heap.size (fun k_ => k_ ≠ gb256) v258 y257) ∧ Aside0 (Kd.R (Kd.int .i64) 2 wc w.heap.size (fun k_ => some k_ ≠ ((.slice (some ad255) t239.length co36) : Value).ownBlock ∧ some k_ ≠ (u5 : Value).ownBlock ∧ some k_ ≠ ((.slice Ao9 t235.length co9) : Value).ownBlock) (.slice (some ad254) t232.length co7) t232) ∧ Aside0 (Kd.R (Kd.int .i64) 2 wc w.heap.size (fun k_ => some k_ ≠ ((.slice (some ad255) t239.length co36) : Value).ownBlock ∧ some k_ ≠ (u5 : Value).ownBlock ∧ some k_ ≠ ((.slice (some ad254) t232.length co7) : Value).ownBlock) (.slice Ao9 t235.length co9) t235) ∧ Aside0 (wc.heap[gb238]? = some (.cells #[(.slice (some ad254) t232.length co7), (.slice Ao9 t235.length co9)] 76 (0, 0))) ∧ Aside0 (wc.heap[gb256]? = some (.cells #[.int .i64 (rd t232 x8_1), .int .i64 (rd t239 x8_1), .int .i64 x7_14, .int .i64 0, .int .i64 0] 68 (0, 0))) ∧ Aside0 (Below w.heap.size w wc))
     case first =>
      have H := HC34.out
      clear HC34
      by_cases c46 : (rd t232 x8_1) < 1568
      ·rw [if_pos c46] at H
       have c46b0 : decide ((rd t232 x8_1) < 1568) = true := decide_eq_true c46
       clear c46
       (first | rw [c46b0] | (simp only [i64_w, i32_w]; rw [c46b0]) | skip)
       have H' := am H
       clear H
       have hnb47 := NB256_238.out
       have hnc47 := NB238_256.out
       have hcz48_0 := bc BK256.out 0 (.int .i64 (rd t232 x8_1))
       have hcz48_1 := bc BK256.out 1 (.int .i64 (rd t239 x8_1))
       have hcz48_2 := bc BK256.out 2 (.int .i64 x7_14)
       have hcz48_3 := bc BK256.out 3 (.int .i64 0)
       have hcz48_4 := bc BK256.out 4 (.int .i64 0)
       have hfz48_0 := blk_frozen BK256.out 0
       have hfz48_1 := blk_frozen BK256.out 1
       have hfz48_2 := blk_frozen BK256.out 2
       have hfz48_3 := blk_frozen BK256.out 3
       have hfz48_4 := blk_frozen BK256.out 4
       go_wp2
       go_meet
       case rel => exact ⟨_, (true), sr, H', ⟨kl⟩, ⟨kR HO_4.out⟩, ⟨by (with_reducible repeat (first | apply Kd.Q_alloc | apply Kd.Q_drewN | apply Kd.Q_drew)); exact HO_5.out⟩, ⟨kR HO259.out⟩, ⟨kR HO_239000.out⟩, ⟨kR HO_239001.out⟩, ⟨bk BK238.out⟩, ⟨bk BK256.out⟩, ⟨bS⟩⟩
      rw [if_neg c46] at H
      have c46b0 : decide ((rd t232 x8_1) < 1568) = false := decide_eq_false c46
      clear c46
      (first | rw [c46b0] | (simp only [i64_w, i32_w]; rw [c46b0]) | skip)
      by_cases c49 : (rd t232 x8_1) > 1579
      ·rw [if_pos c49] at H
       have c49b0 : decide (1579 < (rd t232 x8_1)) = true := decide_eq_true c49
       clear c49
       have H' := am H
       clear H
       have hnb50 := NB256_238.out
       have hnc50 := NB238_256.out
       have hcz51_0 := bc BK256.out 0 (.int .i64 (rd t232 x8_1))
       have hcz51_1 := bc BK256.out 1 (.int .i64 (rd t239 x8_1))
       have hcz51_2 := bc BK256.out 2 (.int .i64 x7_14)
       have hcz51_3 := bc BK256.out 3 (.int .i64 0)
       have hcz51_4 := bc BK256.out 4 (.int .i64 0)
       have hfz51_0 := blk_frozen BK256.out 0
       have hfz51_1 := blk_frozen BK256.out 1
       have hfz51_2 := blk_frozen BK256.out 2
       have hfz51_3 := blk_frozen BK256.out 3
       have hfz51_4 := blk_frozen BK256.out 4
       go_wp2
       go_meet
       case rel => exact ⟨_, (true), sr, H', ⟨kl⟩, ⟨kR HO_4.out⟩, ⟨by (with_reducible repeat (first | apply Kd.Q_alloc | apply Kd.Q_drewN | apply Kd.Q_drew)); exact HO_5.out⟩, ⟨kR HO259.out⟩, ⟨kR HO_239000.out⟩, ⟨kR HO_239001.out⟩, ⟨bk BK238.out⟩, ⟨bk BK256.out⟩, ⟨bS⟩⟩
      rw [if_neg c49] at H
      have c49b0 : decide (1579 < (rd t232 x8_1)) = false := decide_eq_false c49
      clear c49
      have H' := am H
      clear H
      have hnb52 := NB256_238.out
      have hnc52 := NB238_256.out
      have hcz53_0 := bc BK256.out 0 (.int .i64 (rd t232 x8_1))
      have hcz53_1 := bc BK256.out 1 (.int .i64 (rd t239 x8_1))
      have hcz53_2 := bc BK256.out 2 (.int .i64 x7_14)
      have hcz53_3 := bc BK256.out 3 (.int .i64 0)
      have hcz53_4 := bc BK256.out 4 (.int .i64 0)
      have hfz53_0 := blk_frozen BK256.out 0
      have hfz53_1 := blk_frozen BK256.out 1
      have hfz53_2 := blk_frozen BK256.out 2
      have hfz53_3 := blk_frozen BK256.out 3
      have hfz53_4 := blk_frozen BK256.out 4
      go_wp2
      go_meet
      case rel => exact ⟨_, (((Int.tmod (rd t232 x8_1) 2) != 0)), sr, H', ⟨kl⟩, ⟨kR HO_4.out⟩, ⟨by (with_reducible repeat (first | apply Kd.Q_alloc | apply Kd.Q_drewN | apply Kd.Q_drew)); exact HO_5.out⟩, ⟨kR HO259.out⟩, ⟨kR HO_239000.out⟩, ⟨kR HO_239001.out⟩, ⟨bk BK238.out⟩, ⟨bk BK256.out⟩, ⟨bS⟩⟩
     case rest =>
      clear HC34
      try clear c30b0
      try clear c31b0
      try clear c32b0
      try clear hcz44_0
      try clear hcz44_1
      try clear hcz44_2
      try clear hcz44_3
      try clear hcz44_4
      try clear hfz44_0
      try clear hfz44_1
      try clear hfz44_2
      try clear hfz44_3
      try clear hfz44_4
      try clear hx254_0
      try clear hx255_0
      try clear p254
      try clear p255
      try clear q254
      try clear q255
      obtain ⟨kq, x74_33, rfl, HA, HJ33, HO_4, HO_5, HO_6, HO_239000, HO_239001, BK238, BK256, HB⟩ := hcut
      cases kq with
      | zero => exact absurd HA.out (by simp [spec_l10Glyphs.j3])
      | succ kj33 =>
       have H := HA.out
       clear HA
       simp only [spec_l10Glyphs.j3] at H
       by_cases c54 : x74_33 = true
       ·subst c54
        replace H := iT H
        have H' := am H
        clear H
        go_wp2
        go_roundg kj33
        case measure => have := HK1.out; have := HJ14.out; have := HJ33.out; omega
        case rel => exact ⟨(x5_14), (y257), (x7_14), (wrap64 (x8_1 + 1)), sr, sr, H', ⟨kl⟩, ⟨kR HO_4.out⟩, ⟨by (with_reducible repeat (first | apply Kd.Q_alloc | apply Kd.Q_drewN | apply Kd.Q_drew)); exact HO_5.out⟩, ⟨kR (Kd.R_mono HO_6.out (fun _ hk => trivial))⟩, ⟨kR HO_239000.out⟩, ⟨kR HO_239001.out⟩, ⟨bk BK238.out⟩, ⟨bS⟩⟩
       replace c54 := Bool.eq_false_iff.mpr c54
       subst c54
       replace H := iF H
       obtain ⟨t260, A55, H⟩ := bb H
       have H' := am H
       clear H
       obtain ⟨Ao56, co56, eo56⟩ := Kd.R_slice HO_6.out
       subst eo56
       go_wp2_with (first | ((with_reducible refine gate_callee (f := 98) rfl ?_); refine gl 77 Tryd.func98 #[.slice Ao56 y257.length co56, .int .i64 x8_1] ?_; (with_reducible refine (spec_l10Start.calls kj33 _ _ y257 x8_1 t260 _ ?side1 ?side2 A55.out).mono ?_); (case side1 => repeat (first | exact (Kd.R_reads' HO_6.out).2.2 | (with_reducible refine Kd.C_alloc ?_ _) | (with_reducible refine Kd.C_drewN ?_ _) | (with_reducible refine Kd.C_drew ?_))); (case side2 => exact (Kd.R_reads' HO_6.out).2.1); rintro e w' ⟨rfl, ⟨nd, rfl⟩⟩; refine ⟨_, rfl, ?_⟩))
       go_loopg [11] kj33 (fun kq v11 w' => ∃ (x6_4 : List (S68)) (x11_4 : Int) (x257000_4 : Int) (x257001_4 : Int) (x257002_4 : Int) (x257003_4 : Int) (x257004_4 : Int), v11 = .int .i64 x11_4 ∧ Aside0 (spec_l10Glyphs.l2 kq t239 x5_14 x6_4 x7_14 x8_1 t260 x11_4 t232 t235 x257000_4 x257001_4 x257002_4 x257003_4 x257004_4 = some r) ∧ Aside0 (kq ≤ kj33) ∧ Aside0 (Kd.R (Kd.int .i64) 2 w' w.heap.size (fun k_ => some k_ ≠ (u5 : Value).ownBlock ∧ some k_ ≠ ((.slice (some ad254) t232.length co7) : Value).ownBlock ∧ some k_ ≠ ((.slice Ao9 t235.length co9) : Value).ownBlock) (.slice (some ad255) t239.length co36) t239) ∧ Aside0 (Kd.Q (Kd.int .i64) 2 w' w.heap.size (fun k_ => some k_ ≠ ((.slice (some ad255) t239.length co36) : Value).ownBlock ∧ some k_ ≠ ((.slice (some ad254) t232.length co7) : Value).ownBlock ∧ some k_ ≠ ((.slice Ao9 t235.length co9) : Value).ownBlock) u5 x5_14) ∧ Aside0 (Kd.R k68 68 w' w.heap.size (fun k_ => k_ ≠ gb256) (.slice Ao56 y257.length co56) x6_4) ∧ Aside0 (Kd.R (Kd.int .i64) 2 w' w.heap.size (fun k_ => some k_ ≠ ((.slice (some ad255) t239.length co36) : Value).ownBlock ∧ some k_ ≠ (u5 : Value).ownBlock ∧ some k_ ≠ ((.slice Ao9 t235.length co9) : Value).ownBlock) (.slice (some ad254) t232.length co7) t232) ∧ Aside0 (Kd.R (Kd.int .i64) 2 w' w.heap.size (fun k_ => some k_ ≠ ((.slice (some ad255) t239.length co36) : Value).ownBlock ∧ some k_ ≠ (u5 : Value).ownBlock ∧ some k_ ≠ ((.slice (some ad254) t232.length co7) : Value).ownBlock) (.slice Ao9 t235.length co9) t235) ∧ Aside0 (w'.heap[gb238]? = some (.cells #[(.slice (some ad254) t232.length co7), (.slice Ao9 t235.length co9)] 76 (0, 0))) ∧ Aside0 (w'.heap[gb256]? = some (.cells #[.int .i64 x257000_4, .int .i64 x257001_4, .int .i64 x257002_4, .int .i64 x257003_4, .int .i64 x257004_4] 68 (0, 0))) ∧ Aside0 (Below w.heap.size w w'))
       case atStart => exact ⟨(y257), (x8_1), ((rd t232 x8_1)), ((rd t239 x8_1)), (x7_14), (0), (0), sr, H', ⟨Nat.le_refl _⟩, ⟨kR HO_4.out⟩, ⟨by (with_reducible repeat (first | apply Kd.Q_alloc | apply Kd.Q_drewN | apply Kd.Q_drew)); exact HO_5.out⟩, ⟨kR HO_6.out⟩, ⟨kR HO_239000.out⟩, ⟨kR HO_239001.out⟩, ⟨bk BK238.out⟩, ⟨bk BK256.out⟩, ⟨bS⟩⟩
       case round =>
        clear H'
        try clear c54
        obtain ⟨x6_4, x11_4, x257000_4, x257001_4, x257002_4, x257003_4, x257004_4, rfl, HA, HK4, HO_4, HO_5, HO_6, HO_239000, HO_239001, BK238, BK256, HB⟩ := hrel
        have hl6_4 := (Kd.R_reads' HO_6.out).1
        rw [hl6_4] at HO_6
        (try simp only [hl6_4])
        (try simp only [hl6_4] at BK238)
        (try simp only [hl6_4] at BK256)
        (try simp only [hl6_4] at HO_4)
        (try simp only [hl6_4] at HO_5)
        (try simp only [hl6_4] at HO_239000)
        (try simp only [hl6_4] at HO_239001)
        cases gk with
        | zero => exact absurd HA.out (by simp [spec_l10Glyphs.l2])
        | succ k4 =>
         have H := HA.out
         clear HA
         simp only [spec_l10Glyphs.l2] at H
         by_cases c57 : x11_4 > t260
         rotate_left
         ·rw [if_neg c57] at H
          have c57b0 : decide (t260 < x11_4) = false := decide_eq_false c57
          clear c57
          replace H := iteN H
          obtain ⟨c66, H⟩ := H
          have c66b0 : decide (0 ≤ t260) = true := decide_eq_true c66
          clear c66
          replace H := iteN H
          obtain ⟨c67, H⟩ := H
          have c67b0 : decide (t260 < (x6_4.length : Int)) = true := decide_eq_true c67
          clear c67
          obtain ⟨y263, hy263⟩ : ∃ y_ : List (S68), y_ = (x6_4.set (t260 : Int).toNat (⟨x257000_4, x257001_4, x257002_4, x257003_4, x257004_4⟩ : S68)) := ⟨_, rfl⟩
          replace H : (spec_l10Glyphs.l0 k4 t239 x5_14 y263 x7_14 (wrap64 (x8_1 + 1)) t232 t235) = some r := by first | (rw [hy263]; with_reducible exact H) | (have H2_ := (Option.bind_some _ _).symm.trans H; rw [hy263]; with_reducible exact H2_) | (have H2_ := (Option.bind_some _ _).symm.trans H; with_reducible exact H2_) | with_reducible exact H | (rw [hy263]; exact H) | exact H
          have Ny263 := am hy263
          clear hy263
          have H' := am H
          clear H
          have hnb69 := NB256_238.out
          have hnc69 := NB238_256.out
          have hcz70_0 := bc BK256.out 0 (.int .i64 x257000_4)
          have hcz70_1 := bc BK256.out 1 (.int .i64 x257001_4)
          have hcz70_2 := bc BK256.out 2 (.int .i64 x257002_4)
          have hcz70_3 := bc BK256.out 3 (.int .i64 x257003_4)
          have hcz70_4 := bc BK256.out 4 (.int .i64 x257004_4)
          have hfz70_0 := blk_frozen BK256.out 0
          have hfz70_1 := blk_frozen BK256.out 1
          have hfz70_2 := blk_frozen BK256.out 2
          have hfz70_3 := blk_frozen BK256.out 3
          have hfz70_4 := blk_frozen BK256.out 4
          have p68 : 0 ≤ (t260 : Int) := od
          have q68 : (t260 : Int) < ((x6_4.length : Int) : Int) := od
          obtain ⟨go68, co68, eo68, gb68, gl68, cl68, HG68⟩ := Kd.R_form HO_6.out (by omega)
          (first | cases eo68 | (injection eo68 with ea_ en_ ec_; (first | subst ea_ | (injection ea_ with ea_; subst ea_)); subst ec_; clear en_))
          have GB68 := am gb68
          have GG68 := am HG68
          clear gb68 gl68 HG68
          obtain ⟨ce68, hcl68, hM68, hcc68, hfr68⟩ := Kd.R_elem HO_6.out z68 (t260 : Int) p68 q68
          obtain rfl := k68_openM hM68
          have hx68_0 : wr.cell? ⟨go68, (t260 : Int).toNat * 5, none⟩ = some (.int .i64 ((rd_T68 x6_4 t260).f0)) := hcc68 0 _ rfl
          have hx68_1 : wr.cell? ⟨go68, (t260 : Int).toNat * 5 + 1, none⟩ = some (.int .i64 ((rd_T68 x6_4 t260).f1)) := hcc68 1 _ rfl
          have hx68_2 : wr.cell? ⟨go68, (t260 : Int).toNat * 5 + 2, none⟩ = some (.int .i64 ((rd_T68 x6_4 t260).f2)) := hcc68 2 _ rfl
          have hx68_3 : wr.cell? ⟨go68, (t260 : Int).toNat * 5 + 3, none⟩ = some (.int .i64 ((rd_T68 x6_4 t260).f3)) := hcc68 3 _ rfl
          have hx68_4 : wr.cell? ⟨go68, (t260 : Int).toNat * 5 + 4, none⟩ = some (.int .i64 ((rd_T68 x6_4 t260).f4)) := hcc68 4 _ rfl
          have hf68_0 : wr.frozen? ⟨go68, (t260 : Int).toNat * 5, none⟩ = false := hfr68 0
          have hf68_1 : wr.frozen? ⟨go68, (t260 : Int).toNat * 5 + 1, none⟩ = false := hfr68 1
          have hf68_2 : wr.frozen? ⟨go68, (t260 : Int).toNat * 5 + 2, none⟩ = false := hfr68 2
          have hf68_3 : wr.frozen? ⟨go68, (t260 : Int).toNat * 5 + 3, none⟩ = false := hfr68 3
          have hf68_4 : wr.frozen? ⟨go68, (t260 : Int).toNat * 5 + 4, none⟩ = false := hfr68 4
          clear hcl68 hcc68 hfr68 hM68
          replace p68 := eq_true p68
          replace q68 := eq_true q68
          have HX71 := am (show Kd.R k68 68 wr w.heap.size (fun k_ => k_ ≠ gb256) (.slice (some ⟨go68, 0, none⟩) x6_4.length co56) x6_4 from (kR HO_6.out))
          obtain ⟨ce71, hcl71, hM71, hcc71, hfr71⟩ := Kd.R_elem HX71.out z68 (t260 : Int) (od) (by have h_ : (t260 : Int) < ((x6_4.length : Int) : Int) := od; first | exact h_ | (have e_ := (Kd.R_reads' HO_6.out).1; omega) | simpa using h_)
          obtain rfl := k68_openM hM71
          have HP71 := Kd.R_seg HX71.out (t260 : Int) (od) (by have h_ : (t260 : Int) < ((x6_4.length : Int) : Int) := od; first | exact h_ | (have e_ := (Kd.R_reads' HO_6.out).1; omega) | simpa using h_) (seg := [.int .i64 x257000_4, .int .i64 x257001_4, .int .i64 x257002_4, .int .i64 x257003_4, .int .i64 x257004_4]) (j := 0) hcl71 hcc71 (show 5 ≤ 5 from by decide) (x' := (⟨x257000_4, x257001_4, x257002_4, x257003_4, x257004_4⟩ : S68)) (k68_mkM _ _ _ (⟨x257000_4, x257001_4, x257002_4, x257003_4, x257004_4⟩ : S68) ) (fun _ hk => hk)
          have hx71_0 := hcc71 0 _ rfl
          (try simp only [show (k68).sz = 5 from rfl, Nat.mul_one, Nat.add_zero] at hx71_0)
          have hf71_0 := hfr71 0
          (try simp only [show (k68).sz = 5 from rfl, Nat.mul_one, Nat.add_zero] at hf71_0)
          have hx71_1 := hcc71 1 _ rfl
          (try simp only [show (k68).sz = 5 from rfl, Nat.mul_one, Nat.add_zero] at hx71_1)
          have hf71_1 := hfr71 1
          (try simp only [show (k68).sz = 5 from rfl, Nat.mul_one, Nat.add_zero] at hf71_1)
          have hx71_2 := hcc71 2 _ rfl
          (try simp only [show (k68).sz = 5 from rfl, Nat.mul_one, Nat.add_zero] at hx71_2)
          have hf71_2 := hfr71 2
          (try simp only [show (k68).sz = 5 from rfl, Nat.mul_one, Nat.add_zero] at hf71_2)
          have hx71_3 := hcc71 3 _ rfl
          (try simp only [show (k68).sz = 5 from rfl, Nat.mul_one, Nat.add_zero] at hx71_3)
          have hf71_3 := hfr71 3
          (try simp only [show (k68).sz = 5 from rfl, Nat.mul_one, Nat.add_zero] at hf71_3)
          have hx71_4 := hcc71 4 _ rfl
          (try simp only [show (k68).sz = 5 from rfl, Nat.mul_one, Nat.add_zero] at hx71_4)
          have hf71_4 := hfr71 4
          (try simp only [show (k68).sz = 5 from rfl, Nat.mul_one, Nat.add_zero] at hf71_4)
          clear hcl71 hcc71 hfr71 hM71
          go_wp2_with (first | ((with_reducible refine gate_store (t := 68) (p := 95) rfl ?_); refine store_event (t := 68) (p := 95) (v := ?vo_w72) (w1 := (((((wr.setCell ⟨go68, (t260 : Int).toNat * 5, none⟩ (.int .i64 x257000_4)).setCell ⟨go68, (t260 : Int).toNat * 5 + 1, none⟩ (.int .i64 x257001_4)).setCell ⟨go68, (t260 : Int).toNat * 5 + 2, none⟩ (.int .i64 x257002_4)).setCell ⟨go68, (t260 : Int).toNat * 5 + 3, none⟩ (.int .i64 x257003_4)).setCell ⟨go68, (t260 : Int).toNat * 5 + 4, none⟩ (.int .i64 x257004_4))) ?hg ?ho ?hn ?hr ?_; (case ho => rfl); (case hg => rfl); (case hn => rfl); (case hr => first | (go_simp; done) | (go_simp; rfl)); intro w72 hw; have hg : wr.grownBy w72 (some go68) := (by rw [hw]; exact HP71.2); have hp_ : Kd.R k68 68 w72 w.heap.size (fun k_ => k_ ≠ gb256) (.slice (some ⟨go68, 0, none⟩) x6_4.length co56) y263 := (by rw [hw, Ny263.out]; exact HP71.1); clear HP71; replace HO_4 := am (Kd.R_over' (v := (.slice (some ⟨go68, 0, none⟩) x6_4.length co56)) (kR HO_4.out) (Kd.R_typed HO_6.out) (by decide) hg); replace HO_5 := am (Kd.Q_over' (v := (.slice (some ⟨go68, 0, none⟩) x6_4.length co56)) (by (with_reducible repeat (first | apply Kd.Q_alloc | apply Kd.Q_drewN | apply Kd.Q_drew)); exact HO_5.out) (Kd.R_typed HO_6.out) (by decide) hg); replace HO_239000 := am (Kd.R_over' (v := (.slice (some ⟨go68, 0, none⟩) x6_4.length co56)) (kR HO_239000.out) (Kd.R_typed HO_6.out) (by decide) hg); replace HO_239001 := am (Kd.R_over' (v := (.slice (some ⟨go68, 0, none⟩) x6_4.length co56)) (kR HO_239001.out) (Kd.R_typed HO_6.out) (by decide) hg); replace BK238 := am (blk_grown (g := gb238) (o := .cells #[.slice (some ad254) t232.length co7, .slice Ao9 t235.length co9] 76 (0, 0)) (bk BK238.out) hg (Kd.R_ne HO_6.out BK238.out (by decide))); replace BK256 := am (blk_grown (g := gb256) (o := .cells #[.int .i64 x257000_4, .int .i64 x257001_4, .int .i64 x257002_4, .int .i64 x257003_4, .int .i64 x257004_4] 68 (0, 0)) (bk BK256.out) hg (Kd.R_away HO_6.out (fun _ hk => hk))); replace HO_6 := am (hp_); replace HB := am ((by rw [hw]; exact below_set (below_set (below_set (below_set (below_set (HB.out) GB68.out) GB68.out) GB68.out) GB68.out) GB68.out : Below w.heap.size w w72)); clear hg hw hp_))
          (try simp only [← hl6_4])
          go_roundg k4
          case measure => have := HK1.out; have := HJ14.out; have := HJ33.out; have := HK4.out; omega
          case rel => exact ⟨(x5_14), (y263), (x7_14), (wrap64 (x8_1 + 1)), sr, sr, H', ⟨kl⟩, ⟨by (try simp only [hl6_4]); (with_reducible repeat (first | apply Kd.R_alloc | apply Kd.R_drewN | apply Kd.R_drew)); exact HO_4.out⟩, ⟨by (try simp only [hl6_4]); (with_reducible repeat (first | apply Kd.Q_alloc | apply Kd.Q_drewN | apply Kd.Q_drew)); exact HO_5.out⟩, ⟨by (try simp only [hl6_4]); (with_reducible repeat (first | apply Kd.R_alloc | apply Kd.R_drewN | apply Kd.R_drew)); exact Kd.R_mono HO_6.out (fun _ hk => trivial)⟩, ⟨by (try simp only [hl6_4]); (with_reducible repeat (first | apply Kd.R_alloc | apply Kd.R_drewN | apply Kd.R_drew)); exact HO_239000.out⟩, ⟨by (try simp only [hl6_4]); (with_reducible repeat (first | apply Kd.R_alloc | apply Kd.R_drewN | apply Kd.R_drew)); exact HO_239001.out⟩, ⟨by (try simp only [hl6_4]); (with_reducible repeat (first | refine blk_drewN ?_ _ | refine blk_drew ?_ | refine blk_alloc ?_ _)); exact BK238.out⟩, ⟨bS⟩⟩
         rw [if_pos c57] at H
         have c57b0 : decide (t260 < x11_4) = true := decide_eq_true c57
         clear c57
         obtain ⟨ji58, hji58⟩ : ∃ j_ : Int, (wrap64 (x11_4 - 1)) = j_ := ⟨_, rfl⟩
         replace H : (if 0 ≤ (ji58) then (if (ji58) < (x6_4.length : Int) then (if 0 ≤ x11_4 then (if x11_4 < (x6_4.length : Int) then (spec_l10Glyphs.l2 k4 t239 x5_14 (x6_4.set (x11_4 : Int).toNat (⟨(rd_T68 x6_4 (ji58)).f0, (rd_T68 x6_4 (ji58)).f1, (rd_T68 x6_4 (ji58)).f2, (rd_T68 x6_4 (ji58)).f3, (rd_T68 x6_4 (ji58)).f4⟩ : S68)) x7_14 x8_1 t260 ji58 t232 t235 x257000_4 x257001_4 x257002_4 x257003_4 x257004_4) else (none)) else (none)) else (none)) else (none)) = some r := by first | (rw [hji58] at H; exact H) | (simp only [hji58] at H ⊢; exact H)
         have hji58w : (IntKind.i64.wrap (x11_4 - 1)) = ji58 := (i64_w _).trans hji58
         replace H := iteN H
         obtain ⟨c59, H⟩ := H
         have c59b0 : decide (0 ≤ (ji58)) = true := decide_eq_true c59
         clear c59
         replace H := iteN H
         obtain ⟨c60, H⟩ := H
         have c60b0 : decide ((ji58) < (x6_4.length : Int)) = true := decide_eq_true c60
         clear c60
         replace H := iteN H
         obtain ⟨c61, H⟩ := H
         have c61b0 : decide (0 ≤ x11_4) = true := decide_eq_true c61
         clear c61
         replace H := iteN H
         obtain ⟨c62, H⟩ := H
         have c62b0 : decide (x11_4 < (x6_4.length : Int)) = true := decide_eq_true c62
         clear c62
         obtain ⟨y262, hy262⟩ : ∃ y_ : List (S68), y_ = (x6_4.set (x11_4 : Int).toNat (⟨(rd_T68 x6_4 (ji58)).f0, (rd_T68 x6_4 (ji58)).f1, (rd_T68 x6_4 (ji58)).f2, (rd_T68 x6_4 (ji58)).f3, (rd_T68 x6_4 (ji58)).f4⟩ : S68)) := ⟨_, rfl⟩
         replace H : (spec_l10Glyphs.l2 k4 t239 x5_14 y262 x7_14 x8_1 t260 ji58 t232 t235 x257000_4 x257001_4 x257002_4 x257003_4 x257004_4) = some r := by first | (rw [hy262]; with_reducible exact H) | (have H2_ := (Option.bind_some _ _).symm.trans H; rw [hy262]; with_reducible exact H2_) | (have H2_ := (Option.bind_some _ _).symm.trans H; with_reducible exact H2_) | with_reducible exact H | (rw [hy262]; exact H) | exact H
         have Ny262 := am hy262
         clear hy262
         have H' := am H
         clear H
         have p261 : 0 ≤ ((ji58) : Int) := od
         have q261 : (ji58) < (x6_4.length : Int) := od
         obtain ⟨ad261, e261, hx261_0, hx261_1, hx261_2, hx261_3, hx261_4⟩ := at_T68 (Kd.R_reads' HO_6.out).2.2 (ji58) p261 q261
         cases e261
         replace p261 := eq_true p261
         replace q261 := eq_true q261
         have p63 : 0 ≤ (x11_4 : Int) := od
         have q63 : (x11_4 : Int) < ((x6_4.length : Int) : Int) := od
         obtain ⟨go63, co63, eo63, gb63, gl63, cl63, HG63⟩ := Kd.R_form HO_6.out (by omega)
         (first | cases eo63 | (injection eo63 with ea_ en_ ec_; (first | subst ea_ | (injection ea_ with ea_; subst ea_)); subst ec_; clear en_))
         have GB63 := am gb63
         have GG63 := am HG63
         clear gb63 gl63 HG63
         (first | simp only [add_plain] at hx261_0 | skip)
         (first | simp only [add_plain] at hx261_1 | skip)
         (first | simp only [add_plain] at hx261_2 | skip)
         (first | simp only [add_plain] at hx261_3 | skip)
         (first | simp only [add_plain] at hx261_4 | skip)
         obtain ⟨ce63, hcl63, hM63, hcc63, hfr63⟩ := Kd.R_elem HO_6.out z68 (x11_4 : Int) p63 q63
         obtain rfl := k68_openM hM63
         have hx63_0 : wr.cell? ⟨go63, (x11_4 : Int).toNat * 5, none⟩ = some (.int .i64 ((rd_T68 x6_4 x11_4).f0)) := hcc63 0 _ rfl
         have hx63_1 : wr.cell? ⟨go63, (x11_4 : Int).toNat * 5 + 1, none⟩ = some (.int .i64 ((rd_T68 x6_4 x11_4).f1)) := hcc63 1 _ rfl
         have hx63_2 : wr.cell? ⟨go63, (x11_4 : Int).toNat * 5 + 2, none⟩ = some (.int .i64 ((rd_T68 x6_4 x11_4).f2)) := hcc63 2 _ rfl
         have hx63_3 : wr.cell? ⟨go63, (x11_4 : Int).toNat * 5 + 3, none⟩ = some (.int .i64 ((rd_T68 x6_4 x11_4).f3)) := hcc63 3 _ rfl
         have hx63_4 : wr.cell? ⟨go63, (x11_4 : Int).toNat * 5 + 4, none⟩ = some (.int .i64 ((rd_T68 x6_4 x11_4).f4)) := hcc63 4 _ rfl
         have hf63_0 : wr.frozen? ⟨go63, (x11_4 : Int).toNat * 5, none⟩ = false := hfr63 0
         have hf63_1 : wr.frozen? ⟨go63, (x11_4 : Int).toNat * 5 + 1, none⟩ = false := hfr63 1
         have hf63_2 : wr.frozen? ⟨go63, (x11_4 : Int).toNat * 5 + 2, none⟩ = false := hfr63 2
         have hf63_3 : wr.frozen? ⟨go63, (x11_4 : Int).toNat * 5 + 3, none⟩ = false := hfr63 3
         have hf63_4 : wr.frozen? ⟨go63, (x11_4 : Int).toNat * 5 + 4, none⟩ = false := hfr63 4
         clear hcl63 hcc63 hfr63 hM63
         replace p63 := eq_true p63
         replace q63 := eq_true q63
         have HX64 := am (show Kd.R k68 68 wr w.heap.size (fun k_ => k_ ≠ gb256) (.slice (some ⟨go63, 0, none⟩) x6_4.length co56) x6_4 from (kR HO_6.out))
         obtain ⟨ce64, hcl64, hM64, hcc64, hfr64⟩ := Kd.R_elem HX64.out z68 (x11_4 : Int) (od) (by have h_ : (x11_4 : Int) < ((x6_4.length : Int) : Int) := od; first | exact h_ | (have e_ := (Kd.R_reads' HO_6.out).1; omega) | simpa using h_)
         obtain rfl := k68_openM hM64
         have HP64 := Kd.R_seg HX64.out (x11_4 : Int) (od) (by have h_ : (x11_4 : Int) < ((x6_4.length : Int) : Int) := od; first | exact h_ | (have e_ := (Kd.R_reads' HO_6.out).1; omega) | simpa using h_) (seg := [.int .i64 ((rd_T68 x6_4 (ji58)).f0), .int .i64 ((rd_T68 x6_4 (ji58)).f1), .int .i64 ((rd_T68 x6_4 (ji58)).f2), .int .i64 ((rd_T68 x6_4 (ji58)).f3), .int .i64 ((rd_T68 x6_4 (ji58)).f4)]) (j := 0) hcl64 hcc64 (show 5 ≤ 5 from by decide) (x' := (⟨(rd_T68 x6_4 (ji58)).f0, (rd_T68 x6_4 (ji58)).f1, (rd_T68 x6_4 (ji58)).f2, (rd_T68 x6_4 (ji58)).f3, (rd_T68 x6_4 (ji58)).f4⟩ : S68)) (k68_mkM _ _ _ (⟨(rd_T68 x6_4 (ji58)).f0, (rd_T68 x6_4 (ji58)).f1, (rd_T68 x6_4 (ji58)).f2, (rd_T68 x6_4 (ji58)).f3, (rd_T68 x6_4 (ji58)).f4⟩ : S68) ) (fun _ hk => hk)
         have hx64_0 := hcc64 0 _ rfl
         (try simp only [show (k68).sz = 5 from rfl, Nat.mul_one, Nat.add_zero] at hx64_0)
         have hf64_0 := hfr64 0
         (try simp only [show (k68).sz = 5 from rfl, Nat.mul_one, Nat.add_zero] at hf64_0)
         have hx64_1 := hcc64 1 _ rfl
         (try simp only [show (k68).sz = 5 from rfl, Nat.mul_one, Nat.add_zero] at hx64_1)
         have hf64_1 := hfr64 1
         (try simp only [show (k68).sz = 5 from rfl, Nat.mul_one, Nat.add_zero] at hf64_1)
         have hx64_2 := hcc64 2 _ rfl
         (try simp only [show (k68).sz = 5 from rfl, Nat.mul_one, Nat.add_zero] at hx64_2)
         have hf64_2 := hfr64 2
         (try simp only [show (k68).sz = 5 from rfl, Nat.mul_one, Nat.add_zero] at hf64_2)
         have hx64_3 := hcc64 3 _ rfl
         (try simp only [show (k68).sz = 5 from rfl, Nat.mul_one, Nat.add_zero] at hx64_3)
         have hf64_3 := hfr64 3
         (try simp only [show (k68).sz = 5 from rfl, Nat.mul_one, Nat.add_zero] at hf64_3)
         have hx64_4 := hcc64 4 _ rfl
         (try simp only [show (k68).sz = 5 from rfl, Nat.mul_one, Nat.add_zero] at hx64_4)
         have hf64_4 := hfr64 4
         (try simp only [show (k68).sz = 5 from rfl, Nat.mul_one, Nat.add_zero] at hf64_4)
         clear hcl64 hcc64 hfr64 hM64
         go_wp2_with (first | ((with_reducible refine gate_store (t := 68) (p := 91) rfl ?_); refine store_event (t := 68) (p := 91) (v := ?vo_w65) (w1 := (((((wr.setCell ⟨go63, (x11_4 : Int).toNat * 5, none⟩ (.int .i64 ((rd_T68 x6_4 (ji58)).f0))).setCell ⟨go63, (x11_4 : Int).toNat * 5 + 1, none⟩ (.int .i64 ((rd_T68 x6_4 (ji58)).f1))).setCell ⟨go63, (x11_4 : Int).toNat * 5 + 2, none⟩ (.int .i64 ((rd_T68 x6_4 (ji58)).f2))).setCell ⟨go63, (x11_4 : Int).toNat * 5 + 3, none⟩ (.int .i64 ((rd_T68 x6_4 (ji58)).f3))).setCell ⟨go63, (x11_4 : Int).toNat * 5 + 4, none⟩ (.int .i64 ((rd_T68 x6_4 (ji58)).f4)))) ?hg ?ho ?hn ?hr ?_; (case ho => rfl); (case hg => rfl); (case hn => rfl); (case hr => first | (go_simp; done) | (go_simp; rfl)); intro w65 hw; have hg : wr.grownBy w65 (some go63) := (by rw [hw]; exact HP64.2); have hp_ : Kd.R k68 68 w65 w.heap.size (fun k_ => k_ ≠ gb256) (.slice (some ⟨go63, 0, none⟩) x6_4.length co56) y262 := (by rw [hw, Ny262.out]; exact HP64.1); clear HP64; replace HO_4 := am (Kd.R_over' (v := (.slice (some ⟨go63, 0, none⟩) x6_4.length co56)) (kR HO_4.out) (Kd.R_typed HO_6.out) (by decide) hg); replace HO_5 := am (Kd.Q_over' (v := (.slice (some ⟨go63, 0, none⟩) x6_4.length co56)) (by (with_reducible repeat (first | apply Kd.Q_alloc | apply Kd.Q_drewN | apply Kd.Q_drew)); exact HO_5.out) (Kd.R_typed HO_6.out) (by decide) hg); replace HO_239000 := am (Kd.R_over' (v := (.slice (some ⟨go63, 0, none⟩) x6_4.length co56)) (kR HO_239000.out) (Kd.R_typed HO_6.out) (by decide) hg); replace HO_239001 := am (Kd.R_over' (v := (.slice (some ⟨go63, 0, none⟩) x6_4.length co56)) (kR HO_239001.out) (Kd.R_typed HO_6.out) (by decide) hg); replace BK238 := am (blk_grown (g := gb238) (o := .cells #[.slice (some ad254) t232.length co7, .slice Ao9 t235.length co9] 76 (0, 0)) (bk BK238.out) hg (Kd.R_ne HO_6.out BK238.out (by decide))); replace BK256 := am (blk_grown (g := gb256) (o := .cells #[.int .i64 x257000_4, .int .i64 x257001_4, .int .i64 x257002_4, .int .i64 x257003_4, .int .i64 x257004_4] 68 (0, 0)) (bk BK256.out) hg (Kd.R_away HO_6.out (fun _ hk => hk))); replace HO_6 := am (hp_); replace HB := am ((by rw [hw]; exact below_set (below_set (below_set (below_set (below_set (HB.out) GB63.out) GB63.out) GB63.out) GB63.out) GB63.out : Below w.heap.size w w65)); clear hg hw hp_))
         (try simp only [← hl6_4])
         go_roundg k4
         case measure => have := HK1.out; have := HJ14.out; have := HJ33.out; have := HK4.out; omega
         case rel => exact ⟨(y262), (ji58), (x257000_4), (x257001_4), (x257002_4), (x257003_4), (x257004_4), (by first | rfl | (simp; done) | (simp only [← hji58] <;> (first | rfl | simp)) | (simp [*]; done)), H', ⟨kl⟩, ⟨by (try simp only [hl6_4]); (with_reducible repeat (first | apply Kd.R_alloc | apply Kd.R_drewN | apply Kd.R_drew)); exact HO_4.out⟩, ⟨by (try simp only [hl6_4]); (with_reducible repeat (first | apply Kd.Q_alloc | apply Kd.Q_drewN | apply Kd.Q_drew)); exact HO_5.out⟩, ⟨by (try simp only [hl6_4]); (with_reducible repeat (first | apply Kd.R_alloc | apply Kd.R_drewN | apply Kd.R_drew)); exact HO_6.out⟩, ⟨by (try simp only [hl6_4]); (with_reducible repeat (first | apply Kd.R_alloc | apply Kd.R_drewN | apply Kd.R_drew)); exact HO_239000.out⟩, ⟨by (try simp only [hl6_4]); (with_reducible repeat (first | apply Kd.R_alloc | apply Kd.R_drewN | apply Kd.R_drew)); exact HO_239001.out⟩, ⟨by (try simp only [hl6_4]); (with_reducible repeat (first | refine blk_drewN ?_ _ | refine blk_drew ?_ | refine blk_alloc ?_ _)); exact BK238.out⟩, ⟨by (try simp only [hl6_4]); (with_reducible repeat (first | refine blk_drewN ?_ _ | refine blk_drew ?_ | refine blk_alloc ?_ _)); exact BK256.out⟩, ⟨bS⟩⟩
end Go.Proofs.YtmlhnpggjkoinaaDoor.PFnExactGlyphsOf

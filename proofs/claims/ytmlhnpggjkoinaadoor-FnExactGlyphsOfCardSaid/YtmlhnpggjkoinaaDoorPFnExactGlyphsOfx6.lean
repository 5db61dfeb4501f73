-- Written by a program of this session (wip/tools/myprint.py) that runs the kit's print with hooks of its own. Lean checks it.
import Derived.Test.YtmlhnpggjkoinaaDoorPFnExactGlyphsOfx0
import Derived.Test.YtmlhnpggjkoinaaDoorSlimMore
import Derived.Test.YtmlhnpggjkoinaaDoorPFnExactGlyphsOfx1
import Derived.Test.YtmlhnpggjkoinaaDoorPFnExactGlyphsOfx2
import Derived.Test.YtmlhnpggjkoinaaDoorPFnExactGlyphsOfx5
namespace Go.Proofs.YtmlhnpggjkoinaaDoor.PFnExactGlyphsOf
open Go.RowKit Go.Proofs.YtmlhnpggjkoinaaDoorW.PrintWords Go.Proofs.YtmlhnpggjkoinaaDoorW.PrintLast Go.Proofs.YtmlhnpggjkoinaaDoorW.PrintMore
attribute [local go_sem] max2_int min2_int max_two min_two max_three min_three max_four min_four   -- for this text's walks alone
set_option linter.unusedVariables false
set_option linter.unusedSimpArgs false

/-! ### spec_l07Chars: function 48 -/
def spec_l07Chars.l0 : Nat → ByteArray → List Int → Int → List Int → List Int → Option (List Int)
 | 0, _, _, _, _, _ => none
 | k + 1, x0, x4, x5, x184000, x184001 => if x5 < (x184000.length : Int) then (if x5 = 0 then (if 0 ≤ x5 then (if x5 < (x184001.length : Int) then (if x4.length < 17592186044416 then (spec_l07Chars.l0 k x0 (x4 ++ [rd x184001 x5]) (wrap64 (x5 + 1)) x184000 x184001) else (none)) else (none)) else (none)) else ((spec_l07Char.f k x184000 x5).bind fun t191 => (if t191 = true then (if 0 ≤ x5 then (if x5 < (x184001.length : Int) then (if x4.length < 17592186044416 then (spec_l07Chars.l0 k x0 (x4 ++ [rd x184001 x5]) (wrap64 (x5 + 1)) x184000 x184001) else (none)) else (none)) else (none)) else (spec_l07Chars.l0 k x0 x4 (wrap64 (x5 + 1)) x184000 x184001)))) else (if (x0.size : Int) > 0 then (if x4.length < 17592186044416 then (some (x4 ++ [(x0.size : Int)])) else (none)) else (some x4))
def spec_l07Chars.f (k : Nat) (a0 : ByteArray) : Option (List Int) := (spec_l07RowOf.f k a0).bind fun bt177 => (spec_l07Chars.l0 k a0 (([] : List Int)) 0 bt177.1 bt177.2)
theorem spec_l07Chars.mono_l : ∀ k, (∀ y0 y1 y2 y3 y4, LeO (spec_l07Chars.l0 k y0 y1 y2 y3 y4) (spec_l07Chars.l0 (k + 1) y0 y1 y2 y3 y4))
 | 0 => fun _ _ _ _ _ r h => by simp [spec_l07Chars.l0] at h
 | k + 1 => by
  have ih0 := spec_l07Chars.mono_l k
  ·intro y0 y1 y2 y3 y4
   unfold spec_l07Chars.l0
   repeat' (first | (with_reducible first | exact ih0 .. | exact spec_l07Char.mono .. | exact spec_l07RowOf.mono .. | exact LeO.refl _ | exact LeO.none _ | refine LeO.ite ?_ ?_ | refine LeO.bind ?_ (fun _ => ?_)) | exact ih0 .. | exact spec_l07Char.mono .. | exact spec_l07RowOf.mono .. | exact LeO.none _ | refine LeO.ite ?_ ?_ | refine LeO.bind ?_ (fun _ => ?_))
theorem spec_l07Chars.mono : ∀ a0 k, LeO (spec_l07Chars.f k a0) (spec_l07Chars.f (k + 1) a0) := by
 intro a0 k
 have ih0 := spec_l07Chars.mono_l k
 unfold spec_l07Chars.f
 repeat' (first | (with_reducible first | exact ih0 .. | exact spec_l07Char.mono .. | exact spec_l07RowOf.mono .. | exact LeO.refl _ | exact LeO.none _ | refine LeO.ite ?_ ?_ | refine LeO.bind ?_ (fun _ => ?_)) | exact ih0 .. | exact spec_l07Char.mono .. | exact spec_l07RowOf.mono .. | exact LeO.none _ | refine LeO.ite ?_ ?_ | refine LeO.bind ?_ (fun _ => ?_))
set_option maxHeartbeats 8000000 in
set_option maxRecDepth 100000 in
theorem spec_l07Chars.calls (k : Nat) (a0 : ByteArray) (r : List Int) (w : World) (h : spec_l07Chars.f k a0 = some r) :
  Calls Tryd.prog 48 #[.string a0] w fun e w' => ∃ v0_ : Value, e = .returned (v0_) ∧ Kd.R (Kd.int .i64) 2 w' w.heap.size (fun _ => True) v0_ r ∧ Below w.heap.size w w' := by
 have hu76 := Tryd.underlying76
 have HB := am (Below.refl w.heap.size w)
 have H : ((spec_l07RowOf.f k a0).bind fun bt177 => (spec_l07Chars.l0 k a0 (([] : List Int)) 0 bt177.1 bt177.2)) = some r := h
 clear h
 replace H := Option.bind_eq_some_iff.mp H
 obtain ⟨⟨t177, t180⟩, A20, H⟩ := H
 replace H : (spec_l07Chars.l0 k a0 (([] : List Int)) 0 t177 t180) = some r := H
 have A2 := am A20
 clear A20
 obtain ⟨y184, hy184⟩ : ∃ y_ : List Int, y_ = (([] : List Int)) := ⟨_, rfl⟩
 replace H : (spec_l07Chars.l0 k a0 y184 0 t177 t180) = some r := by first | (rw [hy184]; with_reducible exact H) | (have H2_ := (Option.bind_some _ _).symm.trans H; rw [hy184]; with_reducible exact H2_) | (have H2_ := (Option.bind_some _ _).symm.trans H; with_reducible exact H2_) | with_reducible exact H | (rw [hy184]; exact H) | exact H
 have Ny184 := am hy184
 clear hy184
 have H' := am H
 clear H
 go_enter Tryd.func48, Tryd.ntmps48
 go_wp2_with (first | ((with_reducible refine gate_callee (f := 79) rfl ?_); refine gl 7 Tryd.func79 #[.string a0] ?_; (with_reducible refine (spec_l07RowOf.calls k a0 t177 t180 _ A2.out).mono ?_); rintro e w3 ⟨v178, v181, rfl, ho0, ho1, hb⟩; refine ⟨_, rfl, ?_⟩; have HO179 := am (Kd.R_lower ho0 (below_size bB)); have HO182 := am (Kd.R_lower ho1 (below_size bB)); replace HB := am (below_step bB hb); (try clear hb); (try clear ho0); (try clear ho1)) | ((with_reducible refine gate_dst (N := 3) rfl ?_); refine bx 3 #[.slice none 0 0, .slice none 0 0] 76 ?_; intro gb183 hg w4 hbox hb; replace HO179 := am (Kd.R_below (kR HO179.out) hb); replace HO182 := am (Kd.R_below (kR HO182.out) hb); have BK183 := am (hbox); have GW183 := am ((by rw [hg]; exact (below_size bB) : w.heap.size ≤ gb183)); have GE183 := am ((by rw [hg]; exact (below_size bB) : w.heap.size ≤ gb183)); replace HB := am (below_step bB hb); clear hb hbox hg; obtain ⟨Ao5, co5, eo5⟩ := Kd.R_slice HO179.out; subst eo5; have hcz6_0 := bc BK183.out 0 (.slice none 0 0); have hcz6_1 := bc BK183.out 1 (.slice none 0 0); have hfz6_0 := blk_frozen BK183.out 0; have hfz6_1 := blk_frozen BK183.out 1; obtain ⟨Ao7, co7, eo7⟩ := Kd.R_slice HO182.out; subst eo7) | ((with_reducible refine gate_dst (N := 8) rfl ?_); refine Kd.R_lit (Kd.int .i64) _ 2 ?hg (N := 8) ?hd (xs := ([] : List Int)) (inner := []) (ok := fun _ => True) (okp := fun _ => True) ?hr ?hp (fun _ hk => hk) trivial (Below.refl _ _) (Nat.le_refl _) (by simp) ?_; (case hd => rfl); (case hg => rfl); (case hr => first | (go_simp; done) | (go_simp; rfl)); (case hp => exact (Reps.none _ _)); intro v185 w8 ho9 hb hg_ hnew_; clear hg_ hnew_; (first | rw [← Ny184.out] at ho9 | (simp only [Int.reduceToNat] at ho9; rw [← Ny184.out] at ho9)); have HO186 := am (Kd.R_lower (Kd.R_new' (Kd.R_new' ho9 (Kd.R_lt (kR ((Kd.R_mono (Kd.R_far (p := ⟨gb183, 1, none⟩) (Kd.R_far (p := ⟨gb183, 0, none⟩) (Kd.R_types HO179.out BK183.out (by decide)) (fun _ hk => hk.2) (.slice Ao5 t177.length co5)) (fun _ hk => hk.2) (.slice Ao7 t180.length co7)) (fun _ h_ => h_.1)))))) (Kd.R_lt (kR ((Kd.R_mono (Kd.R_far (p := ⟨gb183, 1, none⟩) (Kd.R_far (p := ⟨gb183, 0, none⟩) (Kd.R_types HO182.out BK183.out (by decide)) (fun _ hk => hk.2) (.slice Ao5 t177.length co5)) (fun _ hk => hk.2) (.slice Ao7 t180.length co7)) (fun _ h_ => h_.1)))))) (below_size bS)); replace HO179 := am (Kd.R_elder' (kR ((Kd.R_mono (Kd.R_far (p := ⟨gb183, 1, none⟩) (Kd.R_far (p := ⟨gb183, 0, none⟩) (Kd.R_types HO179.out BK183.out (by decide)) (fun _ hk => hk.2) (.slice Ao5 t177.length co5)) (fun _ hk => hk.2) (.slice Ao7 t180.length co7)) (fun _ h_ => h_.1)))) (Kd.R_base ho9) hb); replace HO182 := am (Kd.R_elder' (kR ((Kd.R_mono (Kd.R_far (p := ⟨gb183, 1, none⟩) (Kd.R_far (p := ⟨gb183, 0, none⟩) (Kd.R_types HO182.out BK183.out (by decide)) (fun _ hk => hk.2) (.slice Ao5 t177.length co5)) (fun _ hk => hk.2) (.slice Ao7 t180.length co7)) (fun _ h_ => h_.1)))) (Kd.R_base ho9) hb); replace BK183 := am (blk_below (g := gb183) (o := .cells #[.slice Ao5 t177.length co5, .slice Ao7 t180.length co7] 76 (0, 0)) (by (with_reducible repeat (first | refine blk_drewN ?_ _ | refine blk_drew ?_ | refine blk_alloc ?_ _)); refine blk_put (cs := #[.slice Ao5 t177.length co5, .slice none 0 0]) ?_ 1 _ rfl; (with_reducible repeat (first | refine blk_drewN ?_ _ | refine blk_drew ?_ | refine blk_alloc ?_ _)); refine blk_put (cs := #[.slice none 0 0, .slice none 0 0]) ?_ 0 _ rfl; (with_reducible repeat (first | refine blk_drewN ?_ _ | refine blk_drew ?_ | refine blk_alloc ?_ _)); exact BK183.out) hb); replace HB := am (below_step bS hb); clear hb ho9))
 go_loopg [4, 5] k (fun kq v4 v5 w' => ∃ (x4_1 : List Int) (x5_1 : Int), v5 = .int .i64 x5_1 ∧ Aside0 (spec_l07Chars.l0 kq a0 x4_1 x5_1 t177 t180 = some r) ∧ Aside0 (kq ≤ k) ∧ Aside0 (Kd.R (Kd.int .i64) 2 w' w.heap.size (fun k_ => some k_ ≠ ((.slice Ao5 t177.length co5) : Value).ownBlock ∧ some k_ ≠ ((.slice Ao7 t180.length co7) : Value).ownBlock) v4 x4_1) ∧ Aside0 (Kd.R (Kd.int .i64) 2 w' w.heap.size (fun k_ => some k_ ≠ (v4 : Value).ownBlock ∧ some k_ ≠ ((.slice Ao7 t180.length co7) : Value).ownBlock) (.slice Ao5 t177.length co5) t177) ∧ Aside0 (Kd.R (Kd.int .i64) 2 w' w.heap.size (fun k_ => some k_ ≠ (v4 : Value).ownBlock ∧ some k_ ≠ ((.slice Ao5 t177.length co5) : Value).ownBlock) (.slice Ao7 t180.length co7) t180) ∧ Aside0 (w'.heap[gb183]? = some (.cells #[(.slice Ao5 t177.length co5), (.slice Ao7 t180.length co7)] 76 (0, 0))) ∧ Aside0 (Below w.heap.size w w'))
 case atStart => exact ⟨(y184), (0), sr, H', ⟨Nat.le_refl _⟩, ⟨kR (Kd.R_mono HO186.out (fun _ hk => ⟨hk.1.2, hk.2⟩))⟩, ⟨kR (Kd.R_mono HO179.out (fun _ hk => ⟨hk.2, hk.1⟩))⟩, ⟨kR (Kd.R_mono HO182.out (fun _ hk => ⟨hk.2, hk.1⟩))⟩, ⟨bk BK183.out⟩, ⟨bS⟩⟩
 case round =>
  clear H'
  try clear hcz6_0
  try clear hcz6_1
  try clear hfz6_0
  try clear hfz6_1
  obtain ⟨x4_1, x5_1, rfl, HA, HK1, HO_4, HO_184000, HO_184001, BK183, HB⟩ := hrel
  cases gk with
  | zero => exact absurd HA.out (by simp [spec_l07Chars.l0])
  | succ k1 =>
   have H := HA.out
   clear HA
   simp only [spec_l07Chars.l0] at H
   by_cases c10 : x5_1 < (t177.length : Int)
   rotate_left
   ·rw [if_neg c10] at H
    have c10b0 : decide (x5_1 < (t177.length : Int)) = false := decide_eq_false c10
    clear c10
    by_cases c28 : (a0.size : Int) > 0
    rotate_left
    ·rw [if_neg c28] at H
     have c28b0 : decide (0 < (a0.size : Int)) = false := decide_eq_false c28
     have c28b1 : decide (0 < a0.size) = false := decide_eq_false (by omega)
     clear c28
     obtain rfl := Option.some.inj H
     have hcz32_0 := bc BK183.out 0 (.slice Ao5 t177.length co5)
     have hcz32_1 := bc BK183.out 1 (.slice Ao7 t180.length co7)
     have hfz32_0 := blk_frozen BK183.out 0
     have hfz32_1 := blk_frozen BK183.out 1
     go_wp2
     go_ret
     exact ⟨_, rv, by (with_reducible repeat (first | apply Kd.R_alloc | apply Kd.R_drewN | apply Kd.R_drew)); exact Kd.R_mono HO_4.out (fun _ hk => trivial), bS⟩
    rw [if_pos c28] at H
    have c28b0 : decide (0 < (a0.size : Int)) = true := decide_eq_true c28
    have c28b1 : decide (0 < a0.size) = true := decide_eq_true (by omega)
    clear c28
    replace H := iteN H
    obtain ⟨c29, H⟩ := H
    have LMc29 := am c29
    clear c29
    obtain ⟨y196, hy196⟩ : ∃ y_ : List Int, y_ = (x4_1 ++ [(a0.size : Int)]) := ⟨_, rfl⟩
    replace H : (some y196) = some r := by first | (rw [hy196]; with_reducible exact H) | (have H2_ := (Option.bind_some _ _).symm.trans H; rw [hy196]; with_reducible exact H2_) | (have H2_ := (Option.bind_some _ _).symm.trans H; with_reducible exact H2_) | with_reducible exact H | (rw [hy196]; exact H) | exact H
    have Ny196 := am hy196
    clear hy196
    obtain rfl := Option.some.inj H
    have hcz30_0 := bc BK183.out 0 (.slice Ao5 t177.length co5)
    have hcz30_1 := bc BK183.out 1 (.slice Ao7 t180.length co7)
    have hfz30_0 := blk_frozen BK183.out 0
    have hfz30_1 := blk_frozen BK183.out 1
    go_wp2_with (first | ((with_reducible refine gate_builtin (b := .append) (xs := #[.tmp 35, .tmp 38]) rfl ?_); at_builtin; refine Kd.R_append (Kd.int .i64) (w0 := w) w.heap.size rfl (.tmp 35) (.tmp 38) 22 2 (.int .i64 0) 8 rfl Tryd.underlying22 info2 rfl (by decide) (by omega) u4 x4_1 (a0.size : Int) [.int .i64 (a0.size : Int)] (fun k_ => some k_ ≠ (.slice Ao5 t177.length co5 : Value).ownBlock ∧ some k_ ≠ (.slice Ao7 t180.length co7 : Value).ownBlock) (fun _ => False) rfl rfl ?aP (fun _ hk => hk.elim) ?aF ?aO ?aB ?aS ?aL ?_; (case aP => exact rfl); (case aB => exact bS); (case aF => exact (fun k_ hk => ⟨Kd.fresh' (Kd.R_lt (kR HO_184000.out)) k_ hk, Kd.fresh' (Kd.R_lt (kR HO_184001.out)) k_ hk⟩)); (case aO => exact (kR HO_4.out)); (case aS => exact (below_size bS)); (case aL => have := LMc29.out; omega); intro v197 w31 ho hb hg hat; rw [← Ny196.out] at ho; replace HO_184000 := am (Kd.R_after (ok := (fun k_ => some k_ ≠ (.slice Ao7 t180.length co7 : Value).ownBlock)) (kR (Kd.R_mono HO_184000.out (fun _ hk => ⟨hk.2, hk.1⟩))) hg hat); replace HO_184001 := am (Kd.R_after (ok := (fun k_ => some k_ ≠ (.slice Ao5 t177.length co5 : Value).ownBlock)) (kR (Kd.R_mono HO_184001.out (fun _ hk => ⟨hk.2, hk.1⟩))) hg hat); replace BK183 := am (blk_grown (g := gb183) (o := .cells #[.slice Ao5 t177.length co5, .slice Ao7 t180.length co7] 76 (0, 0)) (bk BK183.out) hg (Kd.R_ne HO_4.out BK183.out (by decide))); replace HB := am (hb); have HO198 := am (ho); clear HO_4; clear ho hb hg hat))
    go_ret
    exact ⟨_, rv, by (with_reducible repeat (first | apply Kd.R_alloc | apply Kd.R_drewN | apply Kd.R_drew)); exact Kd.R_mono HO198.out (fun _ hk => trivial), bS⟩
   rw [if_pos c10] at H
   have c10b0 : decide (x5_1 < (t177.length : Int)) = true := decide_eq_true c10
   clear c10
   by_cases c11 : x5_1 = 0
   ·rw [if_pos c11] at H
    have c11b0 : (x5_1 == 0) = true := beq_iff_eq.mpr c11
    have c11b1 : (x5_1 != 0) = false := bne_eq_false_iff_eq.mpr c11
    clear c11
    replace H := iteN H
    obtain ⟨c12, H⟩ := H
    have c12b0 : decide (0 ≤ x5_1) = true := decide_eq_true c12
    clear c12
    replace H := iteN H
    obtain ⟨c13, H⟩ := H
    have c13b0 : decide (x5_1 < (t180.length : Int)) = true := decide_eq_true c13
    clear c13
    replace H := iteN H
    obtain ⟨c14, H⟩ := H
    have LMc14 := am c14
    clear c14
    obtain ⟨y188, hy188⟩ : ∃ y_ : List Int, y_ = (x4_1 ++ [rd t180 x5_1]) := ⟨_, rfl⟩
    replace H : (spec_l07Chars.l0 k1 a0 y188 (wrap64 (x5_1 + 1)) t177 t180) = some r := by first | (rw [hy188]; with_reducible exact H) | (have H2_ := (Option.bind_some _ _).symm.trans H; rw [hy188]; with_reducible exact H2_) | (have H2_ := (Option.bind_some _ _).symm.trans H; with_reducible exact H2_) | with_reducible exact H | (rw [hy188]; exact H) | exact H
    have Ny188 := am hy188
    clear hy188
    have H' := am H
    clear H
    have hcz15_0 := bc BK183.out 0 (.slice Ao5 t177.length co5)
    have hcz15_1 := bc BK183.out 1 (.slice Ao7 t180.length co7)
    have hfz15_0 := blk_frozen BK183.out 0
    have hfz15_1 := blk_frozen BK183.out 1
    have p187 : 0 ≤ (x5_1 : Int) := od
    have q187 : x5_1 < (t180.length : Int) := od
    obtain ⟨ad187, e187, hx187_0⟩ := Kd.at_int (Kd.R_reads' HO_184001.out).2.2 x5_1 p187 q187
    cases e187
    replace p187 := eq_true p187
    replace q187 := eq_true q187
    go_wp2_with (first | ((with_reducible refine gate_builtin (b := .append) (xs := #[.tmp 24, .tmp 30]) rfl ?_); at_builtin; refine Kd.R_append (Kd.int .i64) (w0 := w) w.heap.size rfl (.tmp 24) (.tmp 30) 22 2 (.int .i64 0) 8 rfl Tryd.underlying22 info2 rfl (by decide) (by omega) u4 x4_1 (rd t180 x5_1) [.int .i64 (rd t180 x5_1)] (fun k_ => some k_ ≠ (.slice Ao5 t177.length co5 : Value).ownBlock ∧ some k_ ≠ (.slice (some ad187) t180.length co7 : Value).ownBlock) (fun _ => False) rfl rfl ?aP (fun _ hk => hk.elim) ?aF ?aO ?aB ?aS ?aL ?_; (case aP => exact rfl); (case aB => exact bS); (case aF => exact (fun k_ hk => ⟨Kd.fresh' (Kd.R_lt (kR HO_184000.out)) k_ hk, Kd.fresh' (Kd.R_lt (kR HO_184001.out)) k_ hk⟩)); (case aO => exact (kR HO_4.out)); (case aS => exact (below_size bS)); (case aL => have := LMc14.out; omega); intro v189 w16 ho hb hg hat; rw [← Ny188.out] at ho; replace HO_184000 := am (Kd.R_after (ok := (fun k_ => some k_ ≠ (.slice (some ad187) t180.length co7 : Value).ownBlock)) (kR (Kd.R_mono HO_184000.out (fun _ hk => ⟨hk.2, hk.1⟩))) hg hat); replace HO_184001 := am (Kd.R_after (ok := (fun k_ => some k_ ≠ (.slice Ao5 t177.length co5 : Value).ownBlock)) (kR (Kd.R_mono HO_184001.out (fun _ hk => ⟨hk.2, hk.1⟩))) hg hat); replace BK183 := am (blk_grown (g := gb183) (o := .cells #[.slice Ao5 t177.length co5, .slice (some ad187) t180.length co7] 76 (0, 0)) (bk BK183.out) hg (Kd.R_ne HO_4.out BK183.out (by decide))); replace HB := am (hb); have HO190 := am (ho); clear HO_4; clear ho hb hg hat))
    go_roundg k1
    case measure => have := HK1.out; omega
    case rel => exact ⟨(y188), (wrap64 (x5_1 + 1)), sr, H', ⟨kl⟩, ⟨kR HO190.out⟩, ⟨kR (Kd.R_mono HO_184000.out (fun _ hk => ⟨hk.2, hk.1⟩))⟩, ⟨kR (Kd.R_mono HO_184001.out (fun _ hk => ⟨hk.2, hk.1⟩))⟩, ⟨bk BK183.out⟩, ⟨bS⟩⟩
   rw [if_neg c11] at H
   have c11b0 : (x5_1 == 0) = false := beq_eq_false_iff_ne.mpr c11
   have c11b1 : (x5_1 != 0) = true := bne_iff_ne.mpr c11
   obtain ⟨t191, A17, H⟩ := bb H
   by_cases c18 : t191 = true
   rotate_left
   ·replace c18 := Bool.eq_false_iff.mpr c18
    subst c18
    replace H := iF H
    have H' := am H
    clear H
    have hcz26_0 := bc BK183.out 0 (.slice Ao5 t177.length co5)
    have hcz26_1 := bc BK183.out 1 (.slice Ao7 t180.length co7)
    have hfz26_0 := blk_frozen BK183.out 0
    have hfz26_1 := blk_frozen BK183.out 1
    go_wp2_with (first | (go_at_call 80; (with_reducible refine (spec_l07Char.calls k1 _ _ t177 x5_1 false _ ?side1 ?side2 A17.out).mono ?_); (case side1 => repeat (first | exact (Kd.R_reads' HO_184000.out).2.2 | (with_reducible refine Kd.C_alloc ?_ _) | (with_reducible refine Kd.C_drewN ?_ _) | (with_reducible refine Kd.C_drew ?_))); (case side2 => exact (Kd.R_reads' HO_184000.out).2.1); rintro e w27 ⟨rfl, hb⟩; replace HO_4 := am (Kd.R_below (kR HO_4.out) hb); replace HO_184000 := am (Kd.R_below (kR HO_184000.out) hb); replace HO_184001 := am (Kd.R_below (kR HO_184001.out) hb); replace BK183 := am (blk_below (g := gb183) (o := .cells #[.slice Ao5 t177.length co5, .slice Ao7 t180.length co7] 76 (0, 0)) (bk BK183.out) hb); replace HB := am (below_step bS hb); (try clear hb)))
    go_roundg k1
    case measure => have := HK1.out; omega
    case rel => exact ⟨(x4_1), (wrap64 (x5_1 + 1)), sr, H', ⟨kl⟩, ⟨kR HO_4.out⟩, ⟨kR HO_184000.out⟩, ⟨kR HO_184001.out⟩, ⟨bk BK183.out⟩, ⟨bS⟩⟩
   subst c18
   replace H := iT H
   replace H := iteN H
   obtain ⟨c19, H⟩ := H
   have c19b0 : decide (0 ≤ x5_1) = true := decide_eq_true c19
   clear c19
   replace H := iteN H
   obtain ⟨c20, H⟩ := H
   have c20b0 : decide (x5_1 < (t180.length : Int)) = true := decide_eq_true c20
   clear c20
   replace H := iteN H
   obtain ⟨c21, H⟩ := H
   have LMc21 := am c21
   clear c21
   obtain ⟨y193, hy193⟩ : ∃ y_ : List Int, y_ = (x4_1 ++ [rd t180 x5_1]) := ⟨_, rfl⟩
   replace H : (spec_l07Chars.l0 k1 a0 y193 (wrap64 (x5_1 + 1)) t177 t180) = some r := by first | (rw [hy193]; with_reducible exact H) | (have H2_ := (Option.bind_some _ _).symm.trans H; rw [hy193]; with_reducible exact H2_) | (have H2_ := (Option.bind_some _ _).symm.trans H; with_reducible exact H2_) | with_reducible exact H | (rw [hy193]; exact H) | exact H
   have Ny193 := am hy193
   clear hy193
   have H' := am H
   clear H
   have hcz22_0 := bc BK183.out 0 (.slice Ao5 t177.length co5)
   have hcz22_1 := bc BK183.out 1 (.slice Ao7 t180.length co7)
   have hfz22_0 := blk_frozen BK183.out 0
   have hfz22_1 := blk_frozen BK183.out 1
   go_wp2_with (first | (go_at_call 80; (with_reducible refine (spec_l07Char.calls k1 _ _ t177 x5_1 true _ ?side1 ?side2 A17.out).mono ?_); (case side1 => repeat (first | exact (Kd.R_reads' HO_184000.out).2.2 | (with_reducible refine Kd.C_alloc ?_ _) | (with_reducible refine Kd.C_drewN ?_ _) | (with_reducible refine Kd.C_drew ?_))); (case side2 => exact (Kd.R_reads' HO_184000.out).2.1); rintro e w23 ⟨rfl, hb⟩; replace HO_4 := am (Kd.R_below (kR HO_4.out) hb); replace HO_184000 := am (Kd.R_below (kR HO_184000.out) hb); replace HO_184001 := am (Kd.R_below (kR HO_184001.out) hb); replace BK183 := am (blk_below (g := gb183) (o := .cells #[.slice Ao5 t177.length co5, .slice Ao7 t180.length co7] 76 (0, 0)) (bk BK183.out) hb); replace HB := am (below_step bS hb); (try clear hb); have hcz24_0 := bc BK183.out 0 (.slice Ao5 t177.length co5); have hcz24_1 := bc BK183.out 1 (.slice Ao7 t180.length co7); have hfz24_0 := blk_frozen BK183.out 0; have hfz24_1 := blk_frozen BK183.out 1; have p192 : 0 ≤ (x5_1 : Int) := od; have q192 : x5_1 < (t180.length : Int) := od; obtain ⟨ad192, e192, hx192_0⟩ := Kd.at_int (Kd.R_reads' HO_184001.out).2.2 x5_1 p192 q192; cases e192; replace p192 := eq_true p192; replace q192 := eq_true q192) | ((with_reducible refine gate_builtin (b := .append) (xs := #[.tmp 24, .tmp 30]) rfl ?_); at_builtin; refine Kd.R_append (Kd.int .i64) (w0 := w) w.heap.size rfl (.tmp 24) (.tmp 30) 22 2 (.int .i64 0) 8 rfl Tryd.underlying22 info2 rfl (by decide) (by omega) u4 x4_1 (rd t180 x5_1) [.int .i64 (rd t180 x5_1)] (fun k_ => some k_ ≠ (.slice Ao5 t177.length co5 : Value).ownBlock ∧ some k_ ≠ (.slice (some ad192) t180.length co7 : Value).ownBlock) (fun _ => False) rfl rfl ?aP (fun _ hk => hk.elim) ?aF ?aO ?aB ?aS ?aL ?_; (case aP => exact rfl); (case aB => exact bS); (case aF => exact (fun k_ hk => ⟨Kd.fresh' (Kd.R_lt (kR HO_184000.out)) k_ hk, Kd.fresh' (Kd.R_lt (kR HO_184001.out)) k_ hk⟩)); (case aO => exact (kR HO_4.out)); (case aS => exact (below_size bS)); (case aL => have := LMc21.out; omega); intro v194 w25 ho hb hg hat; rw [← Ny193.out] at ho; replace HO_184000 := am (Kd.R_after (ok := (fun k_ => some k_ ≠ (.slice (some ad192) t180.length co7 : Value).ownBlock)) (kR (Kd.R_mono HO_184000.out (fun _ hk => ⟨hk.2, hk.1⟩))) hg hat); replace HO_184001 := am (Kd.R_after (ok := (fun k_ => some k_ ≠ (.slice Ao5 t177.length co5 : Value).ownBlock)) (kR (Kd.R_mono HO_184001.out (fun _ hk => ⟨hk.2, hk.1⟩))) hg hat); replace BK183 := am (blk_grown (g := gb183) (o := .cells #[.slice Ao5 t177.length co5, .slice (some ad192) t180.length co7] 76 (0, 0)) (bk BK183.out) hg (Kd.R_ne HO_4.out BK183.out (by decide))); replace HB := am (hb); have HO195 := am (ho); clear HO_4; clear ho hb hg hat))
   go_roundg k1
   case measure => have := HK1.out; omega
   case rel => exact ⟨(y193), (wrap64 (x5_1 + 1)), sr, H', ⟨kl⟩, ⟨kR HO195.out⟩, ⟨kR (Kd.R_mono HO_184000.out (fun _ hk => ⟨hk.2, hk.1⟩))⟩, ⟨kR (Kd.R_mono HO_184001.out (fun _ hk => ⟨hk.2, hk.1⟩))⟩, ⟨bk BK183.out⟩, ⟨bS⟩⟩
/-! ### spec_l10Letter: function 102 -/
def spec_l10Letter.f (a0 : Int) : Option (Bool) := if a0 ≥ 1280 then (some (decide (a0 ≤ 1311))) else (some false)
set_option maxHeartbeats 8000000 in
set_option maxRecDepth 100000 in
theorem spec_l10Letter.calls (a0 : Int) (r : Bool) (w : World) (h : spec_l10Letter.f a0 = some r) :
  Calls Tryd.prog 102 #[.int .i64 a0] w fun e w' => e = .returned (.bool r) ∧ Drawn0 w w' := by
 have H : (if a0 ≥ 1280 then (some (decide (a0 ≤ 1311))) else (some false)) = some r := h
 clear h
 by_cases c2 : a0 ≥ 1280
 ·rw [if_pos c2] at H
  have c2b0 : decide (1280 ≤ a0) = true := decide_eq_true c2
  clear c2
  obtain rfl := Option.some.inj H
  go_enter Tryd.func102, Tryd.ntmps102
  go_wp2
  go_ret
  exact rdd
 rw [if_neg c2] at H
 have c2b0 : decide (1280 ≤ a0) = false := decide_eq_false c2
 clear c2
 obtain rfl := Option.some.inj H
 go_enter Tryd.func102, Tryd.ntmps102
 go_wp2
 go_ret
 exact rdd
/-! ### spec_JoinsTo: function 101 -/
def spec_JoinsTo.f (k : Nat) (a0 : Int) : Option (Int) := (spec_l01Cat.f k a0).bind fun t199 => (if t199 = 3 then (some (-1)) else (if a0 = 7936 then (some 3) else ((spec_l10Letter.f a0).bind fun t200 => (if t200 = true then ((some (([3, 2, 3, 0] : List Int) : List Int)).bind fun y201 => (if 0 ≤ (Int.tmod a0 4) then (if (Int.tmod a0 4) < (y201.length : Int) then (some (rd y201 (Int.tmod a0 4))) else (none)) else (none))) else (some 0)))))
theorem spec_JoinsTo.mono : ∀ a0 k, LeO (spec_JoinsTo.f k a0) (spec_JoinsTo.f (k + 1) a0) := by
 intro a0 k
 unfold spec_JoinsTo.f
 repeat' (first | (with_reducible first | exact spec_l01Cat.mono .. | exact LeO.refl _ | exact LeO.none _ | refine LeO.ite ?_ ?_ | refine LeO.bind ?_ (fun _ => ?_)) | exact spec_l01Cat.mono .. | exact LeO.none _ | refine LeO.ite ?_ ?_ | refine LeO.bind ?_ (fun _ => ?_))
set_option maxHeartbeats 8000000 in
set_option maxRecDepth 100000 in
theorem spec_JoinsTo.calls (k : Nat) (a0 : Int) (r : Int) (w : World) (h : spec_JoinsTo.f k a0 = some r) :
  Calls Tryd.prog 101 #[.int .i64 a0] w fun e w' => e = .returned (.int .i64 r) ∧ Below w.heap.size w w' := by
 have HB := am (Below.refl w.heap.size w)
 have H : ((spec_l01Cat.f k a0).bind fun t199 => (if t199 = 3 then (some (-1)) else (if a0 = 7936 then (some 3) else ((spec_l10Letter.f a0).bind fun t200 => (if t200 = true then ((some (([3, 2, 3, 0] : List Int) : List Int)).bind fun y201 => (if 0 ≤ (Int.tmod a0 4) then (if (Int.tmod a0 4) < (y201.length : Int) then (some (rd y201 (Int.tmod a0 4))) else (none)) else (none))) else (some 0)))))) = some r := h
 clear h
 obtain ⟨t199, A2, H⟩ := bb H
 by_cases c3 : t199 = 3
 ·rw [if_pos c3] at H
  have c3b0 : (t199 == 3) = true := beq_iff_eq.mpr c3
  have c3b1 : (t199 != 3) = false := bne_eq_false_iff_eq.mpr c3
  clear c3
  obtain rfl := Option.some.inj H
  go_enter Tryd.func101, Tryd.ntmps101
  go_wp2_with (first | ((with_reducible refine gate_callee (f := 94) rfl ?_); refine gl 5 Tryd.func94 #[.int .i64 a0] ?_; (with_reducible refine (spec_l01Cat.calls k a0 t199 _ A2.out).mono ?_); rintro e w4 ⟨rfl, hb⟩; refine ⟨_, rfl, ?_⟩; replace HB := am (below_step bB hb); (try clear hb)))
  go_ret
  exact ⟨rv, bB⟩
 rw [if_neg c3] at H
 have c3b0 : (t199 == 3) = false := beq_eq_false_iff_ne.mpr c3
 have c3b1 : (t199 != 3) = true := bne_iff_ne.mpr c3
 by_cases c5 : a0 = 7936
 ·rw [if_pos c5] at H
  have c5b0 : (a0 == 7936) = true := beq_iff_eq.mpr c5
  have c5b1 : (a0 != 7936) = false := bne_eq_false_iff_eq.mpr c5
  clear c5
  obtain rfl := Option.some.inj H
  go_enter Tryd.func101, Tryd.ntmps101
  go_wp2_with (first | ((with_reducible refine gate_callee (f := 94) rfl ?_); refine gl 5 Tryd.func94 #[.int .i64 a0] ?_; (with_reducible refine (spec_l01Cat.calls k a0 t199 _ A2.out).mono ?_); rintro e w6 ⟨rfl, hb⟩; refine ⟨_, rfl, ?_⟩; replace HB := am (below_step bB hb); (try clear hb)))
  go_ret
  exact ⟨rv, bB⟩
 rw [if_neg c5] at H
 have c5b0 : (a0 == 7936) = false := beq_eq_false_iff_ne.mpr c5
 have c5b1 : (a0 != 7936) = true := bne_iff_ne.mpr c5
 obtain ⟨t200, A7, H⟩ := bb H
 by_cases c8 : t200 = true
 rotate_left
 ·replace c8 := Bool.eq_false_iff.mpr c8
  subst c8
  replace H := iF H
  obtain rfl := Option.some.inj H
  go_enter Tryd.func101, Tryd.ntmps101
  go_wp2_with (first | ((with_reducible refine gate_callee (f := 94) rfl ?_); refine gl 5 Tryd.func94 #[.int .i64 a0] ?_; (with_reducible refine (spec_l01Cat.calls k a0 t199 _ A2.out).mono ?_); rintro e w16 ⟨rfl, hb⟩; refine ⟨_, rfl, ?_⟩; replace HB := am (below_step bB hb); (try clear hb)) | ((with_reducible refine gate_callee (f := 102) rfl ?_); refine gq 12 Tryd.func102 (spec_l10Letter.calls a0 false _ A7.out) fun nd => ?_))
  go_ret
  exact ⟨rv, bB⟩
 subst c8
 replace H := iT H
 obtain ⟨y201, hy201⟩ : ∃ y_ : List Int, y_ = (([3, 2, 3, 0] : List Int)) := ⟨_, rfl⟩
 replace H : (if 0 ≤ (Int.tmod a0 4) then (if (Int.tmod a0 4) < (y201.length : Int) then (some (rd y201 (Int.tmod a0 4))) else (none)) else (none)) = some r := by first | (rw [hy201]; with_reducible exact H) | (have H2_ := (Option.bind_some _ _).symm.trans H; rw [hy201]; with_reducible exact H2_) | (have H2_ := (Option.bind_some _ _).symm.trans H; with_reducible exact H2_) | with_reducible exact H | (rw [hy201]; exact H) | exact H
 have Ny201 := am hy201
 clear hy201
 obtain ⟨ji9, hji9⟩ : ∃ j_ : Int, (Int.tmod a0 4) = j_ := ⟨_, rfl⟩
 replace H : (if 0 ≤ (ji9) then (if (ji9) < (y201.length : Int) then (some (rd y201 (ji9))) else (none)) else (none)) = some r := by first | (rw [hji9] at H; exact H) | (simp only [hji9] at H ⊢; exact H)
 (try rw [hji9] at A2)
 (try rw [hji9] at A7)
 replace H := iteN H
 obtain ⟨c10, H⟩ := H
 have c10b0 : decide (0 ≤ (ji9)) = true := decide_eq_true c10
 clear c10
 replace H := iteN H
 obtain ⟨c11, H⟩ := H
 have c11b0 : decide ((ji9) < (y201.length : Int)) = true := decide_eq_true c11
 clear c11
 obtain rfl := Option.some.inj H
 go_enter Tryd.func101, Tryd.ntmps101
 go_wp2_with (first | ((with_reducible refine gate_callee (f := 94) rfl ?_); refine gl 5 Tryd.func94 #[.int .i64 a0] ?_; (with_reducible refine (spec_l01Cat.calls k a0 t199 _ A2.out).mono ?_); rintro e w12 ⟨rfl, hb⟩; refine ⟨_, rfl, ?_⟩; replace HB := am (below_step bB hb); (try clear hb)) | ((with_reducible refine gate_callee (f := 102) rfl ?_); refine gq 12 Tryd.func102 (spec_l10Letter.calls a0 true _ A7.out) fun nd => ?_) | ((with_reducible refine gate_dst (N := 14) rfl ?_); refine Kd.R_lit (Kd.int .i64) _ 2 ?hg (N := 14) ?hd (xs := ([3, 2, 3, 0] : List Int)) (inner := [.int .i64 3, .int .i64 2, .int .i64 3, .int .i64 0]) (ok := fun _ => True) (okp := fun _ => True) ?hr ?hp (fun _ hk => hk) trivial (Below.refl _ _) (Nat.le_refl _) (by simp) ?_; (case hd => rfl); (case hg => rfl); (case hr => first | (go_simp; done) | (go_simp; rfl)); (case hp => exact (Reps.one (show Kd.M (Kd.int .i64) _ _ _ 3 [.int .i64 3] from rfl) (Reps.one (show Kd.M (Kd.int .i64) _ _ _ 2 [.int .i64 2] from rfl) (Reps.one (show Kd.M (Kd.int .i64) _ _ _ 3 [.int .i64 3] from rfl) (Reps.one (show Kd.M (Kd.int .i64) _ _ _ 0 [.int .i64 0] from rfl) (Reps.none _ _)))))); intro v202 w13 ho14 hb hg_ hnew_; clear hg_ hnew_; (first | rw [← Ny201.out] at ho14 | (simp only [Int.reduceToNat] at ho14; rw [← Ny201.out] at ho14)); have HO203 := am (Kd.R_lower ho14 (below_size bB)); replace HB := am (below_step bB hb); clear hb ho14; obtain ⟨Ao15, co15, eo15⟩ := Kd.R_slice HO203.out; subst eo15; have p204 : 0 ≤ ((ji9) : Int) := od; have q204 : (ji9) < (y201.length : Int) := od; obtain ⟨ad204, e204, hx204_0⟩ := Kd.at_int (Kd.R_reads' HO203.out).2.2 (ji9) p204 q204; cases e204; replace p204 := eq_true p204; replace q204 := eq_true q204))
 go_ret
 exact ⟨by first | rfl | (simp [errW_none, errW_some] <;> rfl) | (simp only [← hji9]; first | rfl | (simp [errW_none, errW_some] <;> rfl)) | (simp [*, errW_none, errW_some] <;> rfl), bB⟩
/-! ### spec_l10Forms: function 73 -/
mutual
def spec_l10Forms.l0 : Nat → List Int → List Int → Int → Int → Option (List Int)
 | 0, _, _, _, _ => none
 | k + 1, x0, x3, x4, x5 => if x5 < (x0.length : Int) then (if 0 ≤ x5 then ((spec_JoinsTo.f k (rd x0 x5)).bind fun t209 => (if t209 < 0 then (spec_l10Forms.l0 k x0 x3 x4 (wrap64 (x5 + 1))) else (if x4 ≥ 0 then (if 0 ≤ x4 then (if x4 < (x0.length : Int) then ((spec_JoinsTo.f k (rd x0 x4)).bind fun t211 => (if t211 = 3 then (spec_l10Forms.j1 k x0 x3 x4 x5 (decide (t209 ≥ 2))) else (spec_l10Forms.j1 k x0 x3 x4 x5 false))) else (none)) else (none)) else (spec_l10Forms.j1 k x0 x3 x4 x5 false)))) else (none)) else (some x3)
def spec_l10Forms.j1 : Nat → List Int → List Int → Int → Int → Bool → Option (List Int)
 | 0, _, _, _, _, _ => none
 | k + 1, x0, x3, x4, x5, x36 => if x36 = true then (if 0 ≤ x4 then (if x4 < (x0.length : Int) then ((spec_l10Letter.f (rd x0 x4)).bind fun t213 => (if t213 = true then ((some (([1, 1, 2, 2] : List Int) : List Int)).bind fun y214 => (if x4 < (x3.length : Int) then (if 0 ≤ (rd x3 x4) then (if (rd x3 x4) < (y214.length : Int) then ((some (x3.set (x4 : Int).toNat (rd y214 (rd x3 x4)) : List Int)).bind fun y219 => (if 0 ≤ x5 then (if x5 < (x0.length : Int) then ((spec_l10Letter.f (rd x0 x5)).bind fun t221 => (if t221 = true then (if x5 < (x3.length : Int) then (spec_l10Forms.l0 k x0 (y219.set (x5 : Int).toNat 3) x5 (wrap64 (x5 + 1))) else (none)) else (spec_l10Forms.l0 k x0 y219 x5 (wrap64 (x5 + 1))))) else (none)) else (none))) else (none)) else (none)) else (none))) else (if 0 ≤ x5 then (if x5 < (x0.length : Int) then ((spec_l10Letter.f (rd x0 x5)).bind fun t224 => (if t224 = true then (if x5 < (x3.length : Int) then (spec_l10Forms.l0 k x0 (x3.set (x5 : Int).toNat 3) x5 (wrap64 (x5 + 1))) else (none)) else (spec_l10Forms.l0 k x0 x3 x5 (wrap64 (x5 + 1))))) else (none)) else (none)))) else (none)) else (none)) else (spec_l10Forms.l0 k x0 x3 x5 (wrap64 (x5 + 1)))
end
def spec_l10Forms.f (k : Nat) (l0 : List Int) : Option (List Int) := if 0 ≤ (l0.length : Int) then (if ((l0.length : Int) : Int).toNat ≤ 35184372088832 then (spec_l10Forms.l0 k l0 (List.replicate ((l0.length : Int) : Int).toNat 0) (-1) 0) else (none)) else (none)
theorem spec_l10Forms.mono_l : ∀ k, (∀ y0 y1 y2 y3, LeO (spec_l10Forms.l0 k y0 y1 y2 y3) (spec_l10Forms.l0 (k + 1) y0 y1 y2 y3)) ∧ (∀ y0 y1 y2 y3 y4, LeO (spec_l10Forms.j1 k y0 y1 y2 y3 y4) (spec_l10Forms.j1 (k + 1) y0 y1 y2 y3 y4))
 | 0 => ⟨fun _ _ _ _ r h => by simp [spec_l10Forms.l0] at h, fun _ _ _ _ _ r h => by simp [spec_l10Forms.j1] at h⟩
 | k + 1 => by
  obtain ⟨ih0, ih1⟩ := spec_l10Forms.mono_l k
  refine ⟨fun y0 y1 y2 y3 => ?_, fun y0 y1 y2 y3 y4 => ?_⟩
  all_goals (first | unfold spec_l10Forms.l0 | unfold spec_l10Forms.j1)
  all_goals (repeat' (first | (with_reducible first | exact ih0 .. | exact ih1 .. | exact spec_JoinsTo.mono .. | exact LeO.refl _ | exact LeO.none _ | refine LeO.ite ?_ ?_ | refine LeO.bind ?_ (fun _ => ?_)) | exact ih0 .. | exact ih1 .. | exact spec_JoinsTo.mono .. | exact LeO.none _ | refine LeO.ite ?_ ?_ | refine LeO.bind ?_ (fun _ => ?_)))
theorem spec_l10Forms.mono : ∀ a0 k, LeO (spec_l10Forms.f k a0) (spec_l10Forms.f (k + 1) a0) := by
 intro a0 k
 obtain ⟨ih0, ih1⟩ := spec_l10Forms.mono_l k
 unfold spec_l10Forms.f
 repeat' (first | (with_reducible first | exact ih0 .. | exact ih1 .. | exact spec_JoinsTo.mono .. | exact LeO.refl _ | exact LeO.none _ | refine LeO.ite ?_ ?_ | refine LeO.bind ?_ (fun _ => ?_)) | exact ih0 .. | exact ih1 .. | exact spec_JoinsTo.mono .. | exact LeO.none _ | refine LeO.ite ?_ ?_ | refine LeO.bind ?_ (fun _ => ?_))
set_option maxHeartbeats 8000000 in
set_option maxRecDepth 100000 in
theorem spec_l10Forms.calls (k : Nat) (A0 : Option Addr) (c0 : Nat) (l0 : List Int) (r : List Int) (w : World) (hr0 : Kd.C (Kd.int .i64) w A0 l0.length l0) (hc0 : l0.length ≤ c0) (h : spec_l10Forms.f k l0 = some r) :
  Calls Tryd.prog 73 #[.slice A0 l0.length c0] w fun e w' => ∃ v0_ : Value, e = .returned (v0_) ∧ Kd.R (Kd.int .i64) 2 w' w.heap.size (fun _ => True) v0_ r ∧ Below w.heap.size w w' := by
 have HR0 := am hr0
 have HC0 := am hc0
 clear hr0 hc0
 have HB := am (Below.refl w.heap.size w)
 have H : (if 0 ≤ (l0.length : Int) then (if ((l0.length : Int) : Int).toNat ≤ 35184372088832 then (spec_l10Forms.l0 k l0 (List.replicate ((l0.length : Int) : Int).toNat 0) (-1) 0) else (none)) else (none)) = some r := h
 clear h
 replace H := iteN H
 obtain ⟨c2, H⟩ := H
 have c2b0 := eq_true c2
 have c2b1 : decide (0 ≤ (l0.length : Int)) = true := decide_eq_true c2
 clear c2
 replace H := iteN H
 obtain ⟨c3, H⟩ := H
 have c3b0 := eq_true c3
 have c3b1 : decide (((l0.length : Int) : Int).toNat ≤ 35184372088832) = true := decide_eq_true c3
 clear c3
 obtain ⟨y205, hy205⟩ : ∃ y_ : List Int, y_ = (List.replicate ((l0.length : Int) : Int).toNat 0) := ⟨_, rfl⟩
 replace H : (spec_l10Forms.l0 k l0 y205 (-1) 0) = some r := by first | (rw [hy205]; with_reducible exact H) | (have H2_ := (Option.bind_some _ _).symm.trans H; rw [hy205]; with_reducible exact H2_) | (have H2_ := (Option.bind_some _ _).symm.trans H; with_reducible exact H2_) | with_reducible exact H | (rw [hy205]; exact H) | exact H
 have Ny205 := am hy205
 clear hy205
 have H' := am H
 clear H
 go_enter Tryd.func73, Tryd.ntmps73
 go_wp2_with (first | ((with_reducible refine gate_dst (N := 9) rfl ?_); refine Kd.R_make (Kd.int .i64) _ 2 rfl (N := 9) rfl 22 _ _ rfl (l0.length : Int) rfl rfl Tryd.underlying22 (.int .i64 0) 8 info2 rfl (by decide) (by omega) 0 (ok := fun _ => True) (okp := fun _ => True) rfl (fun _ hk => hk) trivial (od) (Nat.le_trans (Nat.mul_le_mul_right _ (od : (l0.length : Int).toNat ≤ 35184372088832)) (by omega)) (Below.refl _ _) (Nat.le_refl _) ?_; intro v206 w4 ho5 hb hg_ hnew_; clear hg_ hnew_; (first | rw [← Ny205.out] at ho5 | (simp only [Int.reduceToNat] at ho5; rw [← Ny205.out] at ho5)); have HO207 := am (Kd.R_lower ho5 (below_size bB)); replace HB := am (below_step bB hb); clear hb ho5))
 go_loopg [4, 5] k (fun kq v4 v5 w' => ∃ (x3_1 : List Int) (x4_1 : Int) (x5_1 : Int), v4 = .int .i64 x4_1 ∧ v5 = .int .i64 x5_1 ∧ Aside0 (spec_l10Forms.l0 kq l0 x3_1 x4_1 x5_1 = some r) ∧ Aside0 (kq ≤ k) ∧ Aside0 (Kd.R (Kd.int .i64) 2 w' w.heap.size (fun _ => True) v206 x3_1) ∧ Aside0 (Below w.heap.size w w'))
 case atStart => exact ⟨(y205), ((-1)), (0), sr, sr, H', ⟨Nat.le_refl _⟩, ⟨kR HO207.out⟩, ⟨bB⟩⟩
 case round =>
  clear H'
  try clear c2b0
  try clear c2b1
  try clear c3b0
  try clear c3b1
  obtain ⟨x3_1, x4_1, x5_1, rfl, rfl, HA, HK1, HO_3, HB⟩ := hrel
  cases gk with
  | zero => exact absurd HA.out (by simp [spec_l10Forms.l0])
  | succ k1 =>
   have H := HA.out
   clear HA
   simp only [spec_l10Forms.l0] at H
   by_cases c6 : x5_1 < (l0.length : Int)
   rotate_left
   ·rw [if_neg c6] at H
    have c6b0 : decide (x5_1 < (l0.length : Int)) = false := decide_eq_false c6
    clear c6
    obtain rfl := Option.some.inj H
    go_wp2
    go_ret
    exact ⟨_, rv, kR HO_3.out, bB⟩
   rw [if_pos c6] at H
   have c6b0 : decide (x5_1 < (l0.length : Int)) = true := decide_eq_true c6
   clear c6
   replace H := iteN H
   obtain ⟨c7, H⟩ := H
   have c7b0 : decide (0 ≤ x5_1) = true := decide_eq_true c7
   clear c7
   obtain ⟨t209, A8, H⟩ := bb H
   by_cases c9 : t209 < 0
   ·rw [if_pos c9] at H
    have c9b0 : decide (t209 < 0) = true := decide_eq_true c9
    clear c9
    have H' := am H
    clear H
    have p208 : 0 ≤ (x5_1 : Int) := od
    have q208 : x5_1 < (l0.length : Int) := od
    obtain ⟨ad208, e208, hx208_0⟩ := Kd.at_int HR0.out x5_1 p208 q208
    cases e208
    replace hx208_0 := cl HB hx208_0
    replace p208 := eq_true p208
    replace q208 := eq_true q208
    go_wp2_with (first | ((with_reducible refine gate_callee (f := 101) rfl ?_); refine gl 20 Tryd.func101 #[.int .i64 (rd l0 x5_1)] ?_; (with_reducible refine (spec_JoinsTo.calls k1 (rd l0 x5_1) t209 _ A8.out).mono ?_); rintro e w10 ⟨rfl, hb⟩; refine ⟨_, rfl, ?_⟩; replace HO_3 := am (Kd.R_below (kR HO_3.out) hb); replace HB := am (below_step bB hb); (try clear hb)))
    go_roundg k1
    case measure => have := HK1.out; omega
    case rel => exact ⟨(x3_1), (x4_1), (wrap64 (x5_1 + 1)), sr, sr, H', ⟨kl⟩, ⟨kR HO_3.out⟩, ⟨bB⟩⟩
   rw [if_neg c9] at H
   have c9b0 : decide (t209 < 0) = false := decide_eq_false c9
   clear c9
   have HC11 := am H
   clear H
   have p208 : 0 ≤ (x5_1 : Int) := od
   have q208 : x5_1 < (l0.length : Int) := od
   obtain ⟨ad208, e208, hx208_0⟩ := Kd.at_int HR0.out x5_1 p208 q208
   cases e208
   replace hx208_0 := cl HB hx208_0
   replace p208 := eq_true p208
   replace q208 := eq_true q208
   go_upto_region 8 with (first | ((with_reducible refine gate_callee (f := 101) rfl ?_); refine gl 20 Tryd.func101 #[.int .i64 (rd l0 x5_1)] ?_; (with_reducible refine (spec_JoinsTo.calls k1 (rd l0 x5_1) t209 _ A8.out).mono ?_); rintro e w12 ⟨rfl, hb⟩; refine ⟨_, rfl, ?_⟩; replace HO_3 := am (Kd.R_below (kR HO_3.out) hb); replace HB := am (below_step bB hb); (try clear hb)))
   (try simp only [Act.put, List.setIfInBounds_toArray, List.set_cons_zero, List.set_cons_succ])
   go_cut [36] (fun v36 wc => ∃ (kq : Nat) (x36_10 : Bool), v36 = .bool x36_10 ∧ Aside0 (spec_l10Forms.j1 kq l0 x3_1 x4_1 x5_1 x36_10 = some r) ∧ Aside0 (kq ≤ k1) ∧ Aside0 (Kd.R (Kd.int .i64) 2 wc w.heap.size (fun _ => True) v206 x3_1) ∧ Aside0 (Below w.heap.size w wc))
   case first =>
    have H := HC11.out
    clear HC11
    by_cases c13 : x4_1 ≥ 0
    rotate_left
    ·rw [if_neg c13] at H
     have c13b0 : decide (0 ≤ x4_1) = false := decide_eq_false c13
     clear c13
     (first | rw [c13b0] | (simp only [i64_w, i32_w]; rw [c13b0]) | skip)
     have H' := am H
     clear H
     go_wp2
     go_meet
     case rel => exact ⟨_, (false), sr, H', ⟨kl⟩, ⟨kR HO_3.out⟩, ⟨bB⟩⟩
    rw [if_pos c13] at H
    have c13b0 : decide (0 ≤ x4_1) = true := decide_eq_true c13
    clear c13
    (first | rw [c13b0] | (simp only [i64_w, i32_w]; rw [c13b0]) | skip)
    replace H := iteN H
    obtain ⟨c14, H⟩ := H
    have c14b0 : decide (0 ≤ x4_1) = true := decide_eq_true c14
    clear c14
    replace H := iteN H
    obtain ⟨c15, H⟩ := H
    have c15b0 : decide (x4_1 < (l0.length : Int)) = true := decide_eq_true c15
    clear c15
    obtain ⟨t211, A16, H⟩ := bb H
    by_cases c17 : t211 = 3
    rotate_left
    ·rw [if_neg c17] at H
     have c17b0 : (t211 == 3) = false := beq_eq_false_iff_ne.mpr c17
     have c17b1 : (t211 != 3) = true := bne_iff_ne.mpr c17
     have H' := am H
     clear H
     have p210 : 0 ≤ (x4_1 : Int) := od
     have q210 : x4_1 < (l0.length : Int) := od
     obtain ⟨ad210, e210, hx210_0⟩ := Kd.at_int HR0.out x4_1 p210 q210
     obtain rfl : ad208 = ad210 := (by injection e210)
     replace hx210_0 := cl HB hx210_0
     replace p210 := eq_true p210
     replace q210 := eq_true q210
     go_wp2_with (first | (go_at_call 101; (with_reducible refine (spec_JoinsTo.calls k1 (rd l0 x4_1) t211 _ A16.out).mono ?_); rintro e w19 ⟨rfl, hb⟩; replace HO_3 := am (Kd.R_below (kR HO_3.out) hb); replace HB := am (below_step bB hb); (try clear hb)))
     go_meet
     case rel => exact ⟨_, (false), sr, H', ⟨kl⟩, ⟨kR HO_3.out⟩, ⟨bB⟩⟩
    rw [if_pos c17] at H
    have c17b0 : (t211 == 3) = true := beq_iff_eq.mpr c17
    have c17b1 : (t211 != 3) = false := bne_eq_false_iff_eq.mpr c17
    clear c17
    have H' := am H
    clear H
    have p210 : 0 ≤ (x4_1 : Int) := od
    have q210 : x4_1 < (l0.length : Int) := od
    obtain ⟨ad210, e210, hx210_0⟩ := Kd.at_int HR0.out x4_1 p210 q210
    obtain rfl : ad208 = ad210 := (by injection e210)
    replace hx210_0 := cl HB hx210_0
    replace p210 := eq_true p210
    replace q210 := eq_true q210
    go_wp2_with (first | (go_at_call 101; (with_reducible refine (spec_JoinsTo.calls k1 (rd l0 x4_1) t211 _ A16.out).mono ?_); rintro e w18 ⟨rfl, hb⟩; replace HO_3 := am (Kd.R_below (kR HO_3.out) hb); replace HB := am (below_step bB hb); (try clear hb)))
    go_meet
    case rel => exact ⟨_, (decide (t209 ≥ 2)), sr, H', ⟨kl⟩, ⟨kR HO_3.out⟩, ⟨bB⟩⟩
   case rest =>
    clear HC11
    try clear c6b0
    try clear c7b0
    try clear c9b0
    try clear hx208_0
    try clear p208
    try clear q208
    obtain ⟨kq, x36_10, rfl, HA, HJ10, HO_3, HB⟩ := hcut
    cases kq with
    | zero => exact absurd HA.out (by simp [spec_l10Forms.j1])
    | succ kj10 =>
     have H := HA.out
     clear HA
     simp only [spec_l10Forms.j1] at H
     by_cases c20 : x36_10 = true
     rotate_left
     ·replace c20 := Bool.eq_false_iff.mpr c20
      subst c20
      replace H := iF H
      have H' := am H
      clear H
      go_wp2
      go_roundg kj10
      case measure => have := HK1.out; have := HJ10.out; omega
      case rel => exact ⟨(x3_1), (x5_1), (wrap64 (x5_1 + 1)), sr, sr, H', ⟨kl⟩, ⟨kR HO_3.out⟩, ⟨bB⟩⟩
     subst c20
     replace H := iT H
     replace H := iteN H
     obtain ⟨c21, H⟩ := H
     have c21b0 : decide (0 ≤ x4_1) = true := decide_eq_true c21
     clear c21
     replace H := iteN H
     obtain ⟨c22, H⟩ := H
     have c22b0 : decide (x4_1 < (l0.length : Int)) = true := decide_eq_true c22
     clear c22
     obtain ⟨t213, A23, H⟩ := bb H
     by_cases c24 : t213 = true
     rotate_left
     ·replace c24 := Bool.eq_false_iff.mpr c24
      subst c24
      replace H := iF H
      replace H := iteN H
      obtain ⟨c49, H⟩ := H
      have c49b0 : decide (0 ≤ x5_1) = true := decide_eq_true c49
      clear c49
      replace H := iteN H
      obtain ⟨c50, H⟩ := H
      have c50b0 : decide (x5_1 < (l0.length : Int)) = true := decide_eq_true c50
      clear c50
      obtain ⟨t224, A51, H⟩ := bb H
      by_cases c52 : t224 = true
      rotate_left
      ·replace c52 := Bool.eq_false_iff.mpr c52
       subst c52
       replace H := iF H
       have H' := am H
       clear H
       have p212 : 0 ≤ (x4_1 : Int) := od
       have q212 : x4_1 < (l0.length : Int) := od
       obtain ⟨ad212, e212, hx212_0⟩ := Kd.at_int HR0.out x4_1 p212 q212
       obtain rfl : ad208 = ad212 := (by injection e212)
       replace hx212_0 := cl HB hx212_0
       replace p212 := eq_true p212
       replace q212 := eq_true q212
       go_wp2_with (first | ((with_reducible refine gate_callee (f := 102) rfl ?_); refine gq 41 Tryd.func102 (spec_l10Letter.calls (rd l0 x4_1) false _ A23.out) fun nd => ?_; have p223 : 0 ≤ (x5_1 : Int) := od; have q223 : x5_1 < (l0.length : Int) := od; obtain ⟨ad223, e223, hx223_0⟩ := Kd.at_int HR0.out x5_1 p223 q223; obtain rfl : ad208 = ad223 := (by injection e223); replace hx223_0 := cl HB hx223_0; replace p223 := eq_true p223; replace q223 := eq_true q223) | ((with_reducible refine gate_callee (f := 102) rfl ?_); refine gq 56 Tryd.func102 (spec_l10Letter.calls (rd l0 x5_1) false _ A51.out) fun nd => ?_))
       go_roundg kj10
       case measure => have := HK1.out; have := HJ10.out; omega
       case rel => exact ⟨(x3_1), (x5_1), (wrap64 (x5_1 + 1)), sr, sr, H', ⟨kl⟩, ⟨kR HO_3.out⟩, ⟨bB⟩⟩
      subst c52
      replace H := iT H
      replace H := iteN H
      obtain ⟨c53, H⟩ := H
      have c53b0 : decide (x5_1 < (x3_1.length : Int)) = true := decide_eq_true c53
      clear c53
      obtain ⟨y225, hy225⟩ : ∃ y_ : List Int, y_ = (x3_1.set (x5_1 : Int).toNat 3) := ⟨_, rfl⟩
      replace H : (spec_l10Forms.l0 kj10 l0 y225 x5_1 (wrap64 (x5_1 + 1))) = some r := by first | (rw [hy225]; with_reducible exact H) | (have H2_ := (Option.bind_some _ _).symm.trans H; rw [hy225]; with_reducible exact H2_) | (have H2_ := (Option.bind_some _ _).symm.trans H; with_reducible exact H2_) | with_reducible exact H | (rw [hy225]; exact H) | exact H
      have Ny225 := am hy225
      clear hy225
      have H' := am H
      clear H
      have p212 : 0 ≤ (x4_1 : Int) := od
      have q212 : x4_1 < (l0.length : Int) := od
      obtain ⟨ad212, e212, hx212_0⟩ := Kd.at_int HR0.out x4_1 p212 q212
      obtain rfl : ad208 = ad212 := (by injection e212)
      replace hx212_0 := cl HB hx212_0
      replace p212 := eq_true p212
      replace q212 := eq_true q212
      go_wp2_with (first | ((with_reducible refine gate_callee (f := 102) rfl ?_); refine gq 41 Tryd.func102 (spec_l10Letter.calls (rd l0 x4_1) false _ A23.out) fun nd => ?_; (try (rw [drewN_self wc]; generalize hq_ : World.drewN wc _ = wc; have n0_ : Aside0 (Kd.R (Kd.int .i64) 2 wc w.heap.size (fun _ => True) v206 x3_1) := ⟨by rw [← hq_]; exact (kR HO_3.out)⟩; have n1_ : Aside0 (Below w.heap.size w wc) := ⟨by rw [← hq_]; exact bB⟩; clear HO_3 HB hq_; have HO_3 := n0_; have HB := n1_; clear n0_ n1_)); have p223 : 0 ≤ (x5_1 : Int) := od; have q223 : x5_1 < (l0.length : Int) := od; obtain ⟨ad223, e223, hx223_0⟩ := Kd.at_int HR0.out x5_1 p223 q223; obtain rfl : ad208 = ad223 := (by injection e223); replace hx223_0 := cl HB hx223_0; replace p223 := eq_true p223; replace q223 := eq_true q223) | ((with_reducible refine gate_callee (f := 102) rfl ?_); refine gq 56 Tryd.func102 (spec_l10Letter.calls (rd l0 x5_1) true _ A51.out) fun nd => ?_; (try (rw [drewN_self wc]; generalize hq_ : World.drewN wc _ = wc; have n0_ : Aside0 (Kd.R (Kd.int .i64) 2 wc w.heap.size (fun _ => True) v206 x3_1) := ⟨by rw [← hq_]; exact (kR HO_3.out)⟩; have n1_ : Aside0 (Below w.heap.size w wc) := ⟨by rw [← hq_]; exact bB⟩; clear HO_3 HB hq_; have HO_3 := n0_; have HB := n1_; clear n0_ n1_)); have p54 : 0 ≤ (x5_1 : Int) := od; have q54 : (x5_1 : Int) < ((x3_1.length : Int) : Int) := od; obtain ⟨go54, co54, eo54, gb54, gl54, cl54, HG54⟩ := Kd.R_form HO_3.out (by omega); (first | cases eo54 | (injection eo54 with ea_ en_ ec_; (first | subst ea_ | (injection ea_ with ea_; subst ea_)); subst ec_; clear en_)); have GB54 := am gb54; have GG54 := am HG54; clear gb54 gl54 HG54; obtain ⟨hx54_0, hf54_0⟩ := Kd.R_celln 0 HO_3.out (x5_1 : Int) p54 q54; replace p54 := eq_true p54; replace q54 := eq_true q54; obtain ⟨hy55_, hz55_⟩ := Kd.R_celln 0 HO_3.out (x5_1 : Int) (od) (od); have HP55 := Kd.R_putg HO_3.out (x5_1 : Int) 3) | ((with_reducible refine gate_store (t := 2) (p := 59) rfl ?_); refine store_event (t := 2) (p := 59) (v := ?vo_w56) (w1 := (wc.setCell ⟨go54, (x5_1 : Int).toNat, none⟩ (.int .i64 3))) ?hg ?ho ?hn ?hr ?_; (case ho => rfl); (case hg => rfl); (case hn => rfl); (case hr => first | (go_simp; done) | (go_simp; rfl)); intro w56 hw; have hg : wc.grownBy w56 (some go54) := (by rw [hw]; exact HP55.2); have hp_ : Kd.R (Kd.int .i64) 2 w56 w.heap.size (fun _ => True) (.slice (some ⟨go54, 0, none⟩) x3_1.length co54) y225 := (by rw [hw, Ny225.out]; exact HP55.1); clear HP55; replace HO_3 := am (hp_); replace HB := am ((by rw [hw]; exact below_set (HB.out) GB54.out : Below w.heap.size w w56)); clear hg hw hp_))
      go_roundg kj10
      case measure => have := HK1.out; have := HJ10.out; omega
      case rel => exact ⟨(y225), (x5_1), (wrap64 (x5_1 + 1)), sr, sr, H', ⟨kl⟩, ⟨kR HO_3.out⟩, ⟨bB⟩⟩
     subst c24
     replace H := iT H
     obtain ⟨y214, hy214⟩ : ∃ y_ : List Int, y_ = (([1, 1, 2, 2] : List Int)) := ⟨_, rfl⟩
     replace H : (if x4_1 < (x3_1.length : Int) then (if 0 ≤ (rd x3_1 x4_1) then (if (rd x3_1 x4_1) < (y214.length : Int) then ((some (x3_1.set (x4_1 : Int).toNat (rd y214 (rd x3_1 x4_1)) : List Int)).bind fun y219 => (if 0 ≤ x5_1 then (if x5_1 < (l0.length : Int) then ((spec_l10Letter.f (rd l0 x5_1)).bind fun t221 => (if t221 = true then (if x5_1 < (x3_1.length : Int) then (spec_l10Forms.l0 kj10 l0 (y219.set (x5_1 : Int).toNat 3) x5_1 (wrap64 (x5_1 + 1))) else (none)) else (spec_l10Forms.l0 kj10 l0 y219 x5_1 (wrap64 (x5_1 + 1))))) else (none)) else (none))) else (none)) else (none)) else (none)) = some r := by first | (rw [hy214]; with_reducible exact H) | (have H2_ := (Option.bind_some _ _).symm.trans H; rw [hy214]; with_reducible exact H2_) | (have H2_ := (Option.bind_some _ _).symm.trans H; with_reducible exact H2_) | with_reducible exact H | (rw [hy214]; exact H) | exact H
     have Ny214 := am hy214
     clear hy214
     replace H := iteN H
     obtain ⟨c25, H⟩ := H
     have c25b0 : decide (x4_1 < (x3_1.length : Int)) = true := decide_eq_true c25
     clear c25
     replace H := iteN H
     obtain ⟨c26, H⟩ := H
     have c26b0 : decide (0 ≤ (rd x3_1 x4_1)) = true := decide_eq_true c26
     clear c26
     replace H := iteN H
     obtain ⟨c27, H⟩ := H
     have c27b0 : decide ((rd x3_1 x4_1) < (y214.length : Int)) = true := decide_eq_true c27
     clear c27
     obtain ⟨y219, hy219⟩ : ∃ y_ : List Int, y_ = (x3_1.set (x4_1 : Int).toNat (rd y214 (rd x3_1 x4_1))) := ⟨_, rfl⟩
     replace H : (if 0 ≤ x5_1 then (if x5_1 < (l0.length : Int) then ((spec_l10Letter.f (rd l0 x5_1)).bind fun t221 => (if t221 = true then (if x5_1 < (x3_1.length : Int) then (spec_l10Forms.l0 kj10 l0 (y219.set (x5_1 : Int).toNat 3) x5_1 (wrap64 (x5_1 + 1))) else (none)) else (spec_l10Forms.l0 kj10 l0 y219 x5_1 (wrap64 (x5_1 + 1))))) else (none)) else (none)) = some r := by first | (rw [hy219]; with_reducible exact H) | (have H2_ := (Option.bind_some _ _).symm.trans H; rw [hy219]; with_reducible exact H2_) | (have H2_ := (Option.bind_some _ _).symm.trans H; with_reducible exact H2_) | with_reducible exact H | (rw [hy219]; exact H) | exact H
     have Ny219 := am hy219
     clear hy219
     replace H := iteN H
     obtain ⟨c29, H⟩ := H
     have c29b0 : decide (0 ≤ x5_1) = true := decide_eq_true c29
     clear c29
     replace H := iteN H
     obtain ⟨c30, H⟩ := H
     have c30b0 : decide (x5_1 < (l0.length : Int)) = true := decide_eq_true c30
     clear c30
     obtain ⟨t221, A31, H⟩ := bb H
     by_cases c32 : t221 = true
     rotate_left
     ·replace c32 := Bool.eq_false_iff.mpr c32
      subst c32
      replace H := iF H
      have H' := am H
      clear H
      have p212 : 0 ≤ (x4_1 : Int) := od
      have q212 : x4_1 < (l0.length : Int) := od
      obtain ⟨ad212, e212, hx212_0⟩ := Kd.at_int HR0.out x4_1 p212 q212
      obtain rfl : ad208 = ad212 := (by injection e212)
      replace hx212_0 := cl HB hx212_0
      replace p212 := eq_true p212
      replace q212 := eq_true q212
      go_wp2_with (first | ((with_reducible refine gate_callee (f := 102) rfl ?_); refine gq 41 Tryd.func102 (spec_l10Letter.calls (rd l0 x4_1) true _ A23.out) fun nd => ?_; (try (rw [drewN_self wc]; generalize hq_ : World.drewN wc _ = wc; have n0_ : Aside0 (Kd.R (Kd.int .i64) 2 wc w.heap.size (fun _ => True) v206 x3_1) := ⟨by rw [← hq_]; exact (kR HO_3.out)⟩; have n1_ : Aside0 (Below w.heap.size w wc) := ⟨by rw [← hq_]; exact bB⟩; clear HO_3 HB hq_; have HO_3 := n0_; have HB := n1_; clear n0_ n1_))) | ((with_reducible refine gate_dst (N := 44) rfl ?_); refine Kd.R_lit (Kd.int .i64) _ 2 ?hg (N := 44) ?hd (xs := ([1, 1, 2, 2] : List Int)) (inner := [.int .i64 1, .int .i64 1, .int .i64 2, .int .i64 2]) (ok := fun _ => True) (okp := fun _ => True) ?hr ?hp (fun _ hk => hk) trivial (Below.refl _ _) (Nat.le_refl _) (by simp) ?_; (case hd => rfl); (case hg => rfl); (case hr => first | (go_simp; done) | (go_simp; rfl)); (case hp => exact (Reps.one (show Kd.M (Kd.int .i64) _ _ _ 1 [.int .i64 1] from rfl) (Reps.one (show Kd.M (Kd.int .i64) _ _ _ 1 [.int .i64 1] from rfl) (Reps.one (show Kd.M (Kd.int .i64) _ _ _ 2 [.int .i64 2] from rfl) (Reps.one (show Kd.M (Kd.int .i64) _ _ _ 2 [.int .i64 2] from rfl) (Reps.none _ _)))))); intro v215 w43 ho44 hb hg_ hnew_; clear hg_ hnew_; (first | rw [← Ny214.out] at ho44 | (simp only [Int.reduceToNat] at ho44; rw [← Ny214.out] at ho44)); have HO216 := am (Kd.R_lower (Kd.R_new' ho44 (Kd.R_lt (kR HO_3.out))) (below_size bB)); replace HO_3 := am (Kd.R_elder' (kR HO_3.out) (Kd.R_base ho44) hb); replace HB := am (below_step bB hb); clear hb ho44; obtain ⟨Ao45, co45, eo45⟩ := Kd.R_slice HO_3.out; subst eo45; have p217 : 0 ≤ (x4_1 : Int) := od; have q217 : x4_1 < (x3_1.length : Int) := od; obtain ⟨ad217, e217, hx217_0⟩ := Kd.at_int (Kd.R_reads' HO_3.out).2.2 x4_1 p217 q217; cases e217; replace p217 := eq_true p217; replace q217 := eq_true q217; obtain ⟨Ao46, co46, eo46⟩ := Kd.R_slice HO216.out; subst eo46; have p218 : 0 ≤ ((rd x3_1 x4_1) : Int) := od; have q218 : (rd x3_1 x4_1) < (y214.length : Int) := od; obtain ⟨ad218, e218, hx218_0⟩ := Kd.at_int (Kd.R_reads' HO216.out).2.2 (rd x3_1 x4_1) p218 q218; cases e218; replace p218 := eq_true p218; replace q218 := eq_true q218; have p28 : 0 ≤ (x4_1 : Int) := od; have q28 : (x4_1 : Int) < ((x3_1.length : Int) : Int) := od; obtain ⟨go28, co28, eo28, gb28, gl28, cl28, HG28⟩ := Kd.R_form HO_3.out (by omega); (first | cases eo28 | (injection eo28 with ea_ en_ ec_; (first | subst ea_ | (injection ea_ with ea_; subst ea_)); subst ec_; clear en_)); have GB28 := am gb28; have GG28 := am HG28; clear gb28 gl28 HG28; (first | simp only [add_plain] at hx217_0 | skip); obtain ⟨hx28_0, hf28_0⟩ := Kd.R_celln 0 HO_3.out (x4_1 : Int) p28 q28; replace p28 := eq_true p28; replace q28 := eq_true q28; have n_ := am (Kd.R_mono (ok' := (fun k_ => some k_ ≠ (.slice (some ad218) y214.length co46 : Value).ownBlock)) HO_3.out (fun k_ hk => hk.2)); clear HO_3; have HO_3 := n_; clear n_; obtain ⟨hy47_, hz47_⟩ := Kd.R_celln 0 HO_3.out (x4_1 : Int) (od) (od); have HP47 := Kd.R_putg HO_3.out (x4_1 : Int) (rd y214 (rd x3_1 x4_1))) | ((with_reducible refine gate_store (t := 2) (p := 51) rfl ?_); refine store_event (t := 2) (p := 51) (v := ?vo_w48) (w1 := (w43.setCell ⟨go28, (x4_1 : Int).toNat, none⟩ (.int .i64 (rd y214 (rd x3_1 x4_1))))) ?hg ?ho ?hn ?hr ?_; (case ho => rfl); (case hg => rfl); (case hn => rfl); (case hr => first | (go_simp; done) | (go_simp; rfl)); intro w48 hw; have hg : w43.grownBy w48 (some go28) := (by rw [hw]; exact HP47.2); have hp_ : Kd.R (Kd.int .i64) 2 w48 w.heap.size (fun k_ => some k_ ≠ (.slice (some ad218) y214.length co46 : Value).ownBlock) (.slice (some ⟨go28, 0, none⟩) x3_1.length co45) y219 := (by rw [hw, Ny219.out]; exact HP47.1); clear HP47; replace HO_3 := am (hp_); replace HO216 := am (Kd.R_after (v := (.slice (some ⟨go28, 0, none⟩) x3_1.length co45)) (v1 := (.slice (some ⟨go28, 0, none⟩) x3_1.length co45)) (ok := (fun _ => True)) (kR HO216.out) hg (.inl rfl)); replace HB := am ((by rw [hw]; exact below_set (HB.out) GB28.out : Below w.heap.size w w48)); clear hg hw hp_; have p220 : 0 ≤ (x5_1 : Int) := od; have q220 : x5_1 < (l0.length : Int) := od; obtain ⟨ad220, e220, hx220_0⟩ := Kd.at_int HR0.out x5_1 p220 q220; obtain rfl : ad208 = ad220 := (by injection e220); replace hx220_0 := cl HB hx220_0; replace p220 := eq_true p220; replace q220 := eq_true q220) | ((with_reducible refine gate_callee (f := 102) rfl ?_); refine gq 56 Tryd.func102 (spec_l10Letter.calls (rd l0 x5_1) false _ A31.out) fun nd => ?_))
      go_roundg kj10
      case measure => have := HK1.out; have := HJ10.out; omega
      case rel => exact ⟨(y219), (x5_1), (wrap64 (x5_1 + 1)), sr, sr, H', ⟨kl⟩, ⟨kR (Kd.R_mono HO_3.out (fun _ hk => trivial))⟩, ⟨bB⟩⟩
     subst c32
     replace H := iT H
     replace H := iteN H
     obtain ⟨c33, H⟩ := H
     have c33b0 : decide (x5_1 < (x3_1.length : Int)) = true := decide_eq_true c33
     clear c33
     obtain ⟨y222, hy222⟩ : ∃ y_ : List Int, y_ = (y219.set (x5_1 : Int).toNat 3) := ⟨_, rfl⟩
     replace H : (spec_l10Forms.l0 kj10 l0 y222 x5_1 (wrap64 (x5_1 + 1))) = some r := by first | (rw [hy222]; with_reducible exact H) | (have H2_ := (Option.bind_some _ _).symm.trans H; rw [hy222]; with_reducible exact H2_) | (have H2_ := (Option.bind_some _ _).symm.trans H; with_reducible exact H2_) | with_reducible exact H | (rw [hy222]; exact H) | exact H
     have Ny222 := am hy222
     clear hy222
     have H' := am H
     clear H
     have p212 : 0 ≤ (x4_1 : Int) := od
     have q212 : x4_1 < (l0.length : Int) := od
     obtain ⟨ad212, e212, hx212_0⟩ := Kd.at_int HR0.out x4_1 p212 q212
     obtain rfl : ad208 = ad212 := (by injection e212)
     replace hx212_0 := cl HB hx212_0
     replace p212 := eq_true p212
     replace q212 := eq_true q212
     go_wp2_with (first | ((with_reducible refine gate_callee (f := 102) rfl ?_); refine gq 41 Tryd.func102 (spec_l10Letter.calls (rd l0 x4_1) true _ A23.out) fun nd => ?_; (try (rw [drewN_self wc]; generalize hq_ : World.drewN wc _ = wc; have n0_ : Aside0 (Kd.R (Kd.int .i64) 2 wc w.heap.size (fun _ => True) v206 x3_1) := ⟨by rw [← hq_]; exact (kR HO_3.out)⟩; have n1_ : Aside0 (Below w.heap.size w wc) := ⟨by rw [← hq_]; exact bB⟩; clear HO_3 HB hq_; have HO_3 := n0_; have HB := n1_; clear n0_ n1_))) | ((with_reducible refine gate_dst (N := 44) rfl ?_); refine Kd.R_lit (Kd.int .i64) _ 2 ?hg (N := 44) ?hd (xs := ([1, 1, 2, 2] : List Int)) (inner := [.int .i64 1, .int .i64 1, .int .i64 2, .int .i64 2]) (ok := fun _ => True) (okp := fun _ => True) ?hr ?hp (fun _ hk => hk) trivial (Below.refl _ _) (Nat.le_refl _) (by simp) ?_; (case hd => rfl); (case hg => rfl); (case hr => first | (go_simp; done) | (go_simp; rfl)); (case hp => exact (Reps.one (show Kd.M (Kd.int .i64) _ _ _ 1 [.int .i64 1] from rfl) (Reps.one (show Kd.M (Kd.int .i64) _ _ _ 1 [.int .i64 1] from rfl) (Reps.one (show Kd.M (Kd.int .i64) _ _ _ 2 [.int .i64 2] from rfl) (Reps.one (show Kd.M (Kd.int .i64) _ _ _ 2 [.int .i64 2] from rfl) (Reps.none _ _)))))); intro v215 w35 ho36 hb hg_ hnew_; clear hg_ hnew_; (first | rw [← Ny214.out] at ho36 | (simp only [Int.reduceToNat] at ho36; rw [← Ny214.out] at ho36)); have HO216 := am (Kd.R_lower (Kd.R_new' ho36 (Kd.R_lt (kR HO_3.out))) (below_size bB)); replace HO_3 := am (Kd.R_elder' (kR HO_3.out) (Kd.R_base ho36) hb); replace HB := am (below_step bB hb); clear hb ho36; obtain ⟨Ao37, co37, eo37⟩ := Kd.R_slice HO_3.out; subst eo37; have p217 : 0 ≤ (x4_1 : Int) := od; have q217 : x4_1 < (x3_1.length : Int) := od; obtain ⟨ad217, e217, hx217_0⟩ := Kd.at_int (Kd.R_reads' HO_3.out).2.2 x4_1 p217 q217; cases e217; replace p217 := eq_true p217; replace q217 := eq_true q217; obtain ⟨Ao38, co38, eo38⟩ := Kd.R_slice HO216.out; subst eo38; have p218 : 0 ≤ ((rd x3_1 x4_1) : Int) := od; have q218 : (rd x3_1 x4_1) < (y214.length : Int) := od; obtain ⟨ad218, e218, hx218_0⟩ := Kd.at_int (Kd.R_reads' HO216.out).2.2 (rd x3_1 x4_1) p218 q218; cases e218; replace p218 := eq_true p218; replace q218 := eq_true q218; have p28 : 0 ≤ (x4_1 : Int) := od; have q28 : (x4_1 : Int) < ((x3_1.length : Int) : Int) := od; obtain ⟨go28, co28, eo28, gb28, gl28, cl28, HG28⟩ := Kd.R_form HO_3.out (by omega); (first | cases eo28 | (injection eo28 with ea_ en_ ec_; (first | subst ea_ | (injection ea_ with ea_; subst ea_)); subst ec_; clear en_)); have GB28 := am gb28; have GG28 := am HG28; clear gb28 gl28 HG28; (first | simp only [add_plain] at hx217_0 | skip); obtain ⟨hx28_0, hf28_0⟩ := Kd.R_celln 0 HO_3.out (x4_1 : Int) p28 q28; replace p28 := eq_true p28; replace q28 := eq_true q28; have n_ := am (Kd.R_mono (ok' := (fun k_ => some k_ ≠ (.slice (some ad218) y214.length co38 : Value).ownBlock)) HO_3.out (fun k_ hk => hk.2)); clear HO_3; have HO_3 := n_; clear n_; obtain ⟨hy39_, hz39_⟩ := Kd.R_celln 0 HO_3.out (x4_1 : Int) (od) (od); have HP39 := Kd.R_putg HO_3.out (x4_1 : Int) (rd y214 (rd x3_1 x4_1))) | ((with_reducible refine gate_store (t := 2) (p := 51) rfl ?_); refine store_event (t := 2) (p := 51) (v := ?vo_w40) (w1 := (w35.setCell ⟨go28, (x4_1 : Int).toNat, none⟩ (.int .i64 (rd y214 (rd x3_1 x4_1))))) ?hg ?ho ?hn ?hr ?_; (case ho => rfl); (case hg => rfl); (case hn => rfl); (case hr => first | (go_simp; done) | (go_simp; rfl)); intro w40 hw; have hg : w35.grownBy w40 (some go28) := (by rw [hw]; exact HP39.2); have hp_ : Kd.R (Kd.int .i64) 2 w40 w.heap.size (fun k_ => some k_ ≠ (.slice (some ad218) y214.length co38 : Value).ownBlock) (.slice (some ⟨go28, 0, none⟩) x3_1.length co37) y219 := (by rw [hw, Ny219.out]; exact HP39.1); clear HP39; replace HO_3 := am (hp_); replace HO216 := am (Kd.R_after (v := (.slice (some ⟨go28, 0, none⟩) x3_1.length co37)) (v1 := (.slice (some ⟨go28, 0, none⟩) x3_1.length co37)) (ok := (fun _ => True)) (kR HO216.out) hg (.inl rfl)); replace HB := am ((by rw [hw]; exact below_set (HB.out) GB28.out : Below w.heap.size w w40)); clear hg hw hp_; have p220 : 0 ≤ (x5_1 : Int) := od; have q220 : x5_1 < (l0.length : Int) := od; obtain ⟨ad220, e220, hx220_0⟩ := Kd.at_int HR0.out x5_1 p220 q220; obtain rfl : ad208 = ad220 := (by injection e220); replace hx220_0 := cl HB hx220_0; replace p220 := eq_true p220; replace q220 := eq_true q220) | ((with_reducible refine gate_callee (f := 102) rfl ?_); refine gq 56 Tryd.func102 (spec_l10Letter.calls (rd l0 x5_1) true _ A31.out) fun nd => ?_; (try (rw [drewN_self w40]; generalize hq_ : World.drewN w40 _ = w40; have n0_ : Aside0 (Kd.R (Kd.int .i64) 2 w40 w.heap.size (fun k_ => some k_ ≠ (.slice (some ⟨go28, 0, none⟩) x3_1.length co37 : Value).ownBlock) (.slice (some ad218) y214.length co38) y214) := ⟨by rw [← hq_]; exact (kR (Kd.R_mono HO216.out (fun _ hk => hk.2)))⟩; have n1_ : Aside0 (Kd.R (Kd.int .i64) 2 w40 w.heap.size (fun k_ => some k_ ≠ (.slice (some ad218) y214.length co38 : Value).ownBlock) (.slice (some ⟨go28, 0, none⟩) x3_1.length co37) y219) := ⟨by rw [← hq_]; exact (kR HO_3.out)⟩; have n2_ : Aside0 (Below w.heap.size w w40) := ⟨by rw [← hq_]; exact bB⟩; clear HO216 HO_3 HB hq_; have HO216 := n0_; have HO_3 := n1_; have HB := n2_; clear n0_ n1_ n2_)); have p34 : 0 ≤ (x5_1 : Int) := od; have q34 : (x5_1 : Int) < ((x3_1.length : Int) : Int) := od; obtain ⟨hx34_0, hf34_0⟩ := Kd.R_celln 0 HO_3.out (x5_1 : Int) p34 q34; replace p34 := eq_true p34; replace q34 := eq_true q34; obtain ⟨hy41_, hz41_⟩ := Kd.R_celln 0 HO_3.out (x5_1 : Int) (od) (od); have HP41 := Kd.R_putg HO_3.out (x5_1 : Int) 3) | ((with_reducible refine gate_store (t := 2) (p := 59) rfl ?_); refine store_event (t := 2) (p := 59) (v := ?vo_w42) (w1 := (w40.setCell ⟨go28, (x5_1 : Int).toNat, none⟩ (.int .i64 3))) ?hg ?ho ?hn ?hr ?_; (case ho => rfl); (case hg => rfl); (case hn => rfl); (case hr => first | (go_simp; done) | (go_simp; rfl)); intro w42 hw; have hg : w40.grownBy w42 (some go28) := (by rw [hw]; exact HP41.2); have hp_ : Kd.R (Kd.int .i64) 2 w42 w.heap.size (fun k_ => some k_ ≠ (.slice (some ad218) y214.length co38 : Value).ownBlock) (.slice (some ⟨go28, 0, none⟩) x3_1.length co37) y222 := (by rw [hw, Ny222.out]; exact HP41.1); clear HP41; replace HO_3 := am (hp_); replace HO216 := am (Kd.R_after (v := (.slice (some ⟨go28, 0, none⟩) x3_1.length co37)) (v1 := (.slice (some ⟨go28, 0, none⟩) x3_1.length co37)) (ok := (fun _ => True)) (kR HO216.out) hg (.inl rfl)); replace HB := am ((by rw [hw]; exact below_set (HB.out) GB28.out : Below w.heap.size w w42)); clear hg hw hp_))
     go_roundg kj10
     case measure => have := HK1.out; have := HJ10.out; omega
     case rel => exact ⟨(y222), (x5_1), (wrap64 (x5_1 + 1)), sr, sr, H', ⟨kl⟩, ⟨by (with_reducible repeat (first | apply Kd.R_alloc | apply Kd.R_drewN | apply Kd.R_drew)); first | exact Kd.R_mono HO_3.out (fun _ hk => trivial) | (rw [Ny222.out]; exact Kd.R_mono HP41.1 (fun _ hk => trivial))⟩, ⟨by first | exact below_set HB.out GB28.out | repeat (first | (with_reducible first | exact HB.out | apply below_alloc | apply pw_below_drewN | apply below_drew1) | exact HB.out)⟩⟩
end Go.Proofs.YtmlhnpggjkoinaaDoor.PFnExactGlyphsOf

-- Written by a program of this session (wip/tools/myprint.py) that runs the kit's print with hooks of its own. Lean checks it.
import Derived.Test.YtmlhnpggjkoinaaDoorPFnExactWordCutsx0
import Derived.Test.YtmlhnpggjkoinaaDoorSlimMore
import Derived.Test.YtmlhnpggjkoinaaDoorPFnExactWordCutsx10
namespace Go.Proofs.YtmlhnpggjkoinaaDoor.PFnExactWordCuts
open Go.RowKit Go.Proofs.YtmlhnpggjkoinaaDoorW.PrintWords Go.Proofs.YtmlhnpggjkoinaaDoorW.PrintLast Go.Proofs.YtmlhnpggjkoinaaDoorW.PrintMore
attribute [local go_sem] max2_int min2_int max_two min_two max_three min_three max_four min_four   -- for this text's walks alone
set_option linter.unusedVariables false
set_option linter.unusedSimpArgs false

/-! ### spec_WordCuts: function 28 -/
def spec_WordCuts.f (k : Nat) (a0 : ByteArray) (l1 : List (S54)) : Option (List Int) := if (a0.size : Int) > 65536 then (some (([] : List Int))) else (if (l1.length : Int) > 1000 then (some (([] : List Int))) else ((spec_l07Words.f k a0 l1).bind fun t286 => (some t286)))
theorem spec_WordCuts.mono : ∀ a0 a1 k, LeO (spec_WordCuts.f k a0 a1) (spec_WordCuts.f (k + 1) a0 a1) := by
 intro a0 a1 k
 unfold spec_WordCuts.f
 repeat' (first | (with_reducible first | exact spec_l07Words.mono .. | exact LeO.refl _ | exact LeO.none _ | refine LeO.ite ?_ ?_ | refine LeO.bind ?_ (fun _ => ?_)) | exact spec_l07Words.mono .. | exact LeO.none _ | refine LeO.ite ?_ ?_ | refine LeO.bind ?_ (fun _ => ?_))
set_option maxHeartbeats 8000000 in
set_option maxRecDepth 100000 in
theorem spec_WordCuts.calls (k : Nat) (a0 : ByteArray) (A1 : Option Addr) (c1 : Nat) (l1 : List (S54)) (r : List Int) (w : World) (hr1 : Kd.C k54 w A1 l1.length l1) (hc1 : l1.length ≤ c1) (h : spec_WordCuts.f k a0 l1 = some r) :
  Calls Tryd.prog 28 #[.string a0, .slice A1 l1.length c1] w fun e w' => ∃ v0_ : Value, e = .returned (v0_) ∧ Kd.R (Kd.int .i64) 2 w' w.heap.size (fun _ => True) v0_ r ∧ Below w.heap.size w w' := by
 have HR1 := am hr1
 have HC1 := am hc1
 clear hr1 hc1
 have HB := am (Below.refl w.heap.size w)
 have H : (if (a0.size : Int) > 65536 then (some (([] : List Int))) else (if (l1.length : Int) > 1000 then (some (([] : List Int))) else ((spec_l07Words.f k a0 l1).bind fun t286 => (some t286)))) = some r := h
 clear h
 by_cases c3 : (a0.size : Int) > 65536
 ·rw [if_pos c3] at H
  have c3b0 : decide (65536 < (a0.size : Int)) = true := decide_eq_true c3
  have c3b1 : decide (65536 < a0.size) = true := decide_eq_true (by omega)
  clear c3
  obtain ⟨y280, hy280⟩ : ∃ y_ : List Int, y_ = (([] : List Int)) := ⟨_, rfl⟩
  replace H : (some y280) = some r := by first | (rw [hy280]; with_reducible exact H) | (have H2_ := (Option.bind_some _ _).symm.trans H; rw [hy280]; with_reducible exact H2_) | (have H2_ := (Option.bind_some _ _).symm.trans H; with_reducible exact H2_) | with_reducible exact H | (rw [hy280]; exact H) | exact H
  have Ny280 := am hy280
  clear hy280
  obtain rfl := Option.some.inj H
  go_enter Tryd.func28, Tryd.ntmps28
  go_wp2_with (first | ((with_reducible refine gate_dst (N := 13) rfl ?_); (try (refine gate_guard (by rfl) ?_; dsimp only)); refine Kd.R_lit (Kd.int .i64) _ 2 ?hg (N := 13) ?hd (xs := ([] : List Int)) (inner := []) (ok := fun _ => True) (okp := fun _ => True) ?hr ?hp (fun _ hk => hk) trivial (Below.refl _ _) (Nat.le_refl _) (by simp) ?_; (case hd => rfl); (case hg => rfl); (case hr => first | (go_simp; done) | (go_simp; rfl)); (case hp => exact (Reps.none _ _)); intro v281 w4 ho5 hb hg_ hnew_; clear hg_ hnew_; (first | rw [← Ny280.out] at ho5 | (simp only [Int.reduceToNat] at ho5; rw [← Ny280.out] at ho5)); have HO282 := am (Kd.R_lower ho5 (below_size bB)); replace HB := am (below_step bB hb); clear hb ho5))
  go_ret
  exact ⟨_, rv, kR HO282.out, bB⟩
 rw [if_neg c3] at H
 have c3b0 : decide (65536 < (a0.size : Int)) = false := decide_eq_false c3
 have c3b1 : decide (65536 < a0.size) = false := decide_eq_false (by omega)
 clear c3
 by_cases c6 : (l1.length : Int) > 1000
 rotate_left
 ·rw [if_neg c6] at H
  have c6b0 : decide (1000 < (l1.length : Int)) = false := decide_eq_false c6
  have c6b1 : decide (1000 < l1.length) = false := decide_eq_false (by omega)
  clear c6
  obtain ⟨t286, A9, H⟩ := bb H
  obtain rfl := Option.some.inj H
  go_enter Tryd.func28, Tryd.ntmps28
  go_wp2_with (first | ((with_reducible refine gate_callee (f := 54) rfl ?_); refine gl 16 Tryd.func54 #[.string a0, .slice A1 l1.length c1] ?_; (with_reducible refine (spec_l07Words.calls k a0 _ _ l1 t286 _ ?side1 ?side2 A9.out).mono ?_); (case side1 => exact cC HR1.out); (case side2 => exact HC1.out); rintro e w10 ⟨v287, rfl, ho0, hb⟩; refine ⟨_, rfl, ?_⟩; have HO288 := am (Kd.R_lower ho0 (below_size bB)); replace HB := am (below_step bB hb); (try clear hb); (try clear ho0)))
  go_ret
  exact ⟨_, rv, kR HO288.out, bB⟩
 rw [if_pos c6] at H
 have c6b0 : decide (1000 < (l1.length : Int)) = true := decide_eq_true c6
 have c6b1 : decide (1000 < l1.length) = true := decide_eq_true (by omega)
 clear c6
 obtain ⟨y283, hy283⟩ : ∃ y_ : List Int, y_ = (([] : List Int)) := ⟨_, rfl⟩
 replace H : (some y283) = some r := by first | (rw [hy283]; with_reducible exact H) | (have H2_ := (Option.bind_some _ _).symm.trans H; rw [hy283]; with_reducible exact H2_) | (have H2_ := (Option.bind_some _ _).symm.trans H; with_reducible exact H2_) | with_reducible exact H | (rw [hy283]; exact H) | exact H
 have Ny283 := am hy283
 clear hy283
 obtain rfl := Option.some.inj H
 go_enter Tryd.func28, Tryd.ntmps28
 go_wp2_with (first | ((with_reducible refine gate_dst (N := 13) rfl ?_); (try (refine gate_guard (by rfl) ?_; dsimp only)); refine Kd.R_lit (Kd.int .i64) _ 2 ?hg (N := 13) ?hd (xs := ([] : List Int)) (inner := []) (ok := fun _ => True) (okp := fun _ => True) ?hr ?hp (fun _ hk => hk) trivial (Below.refl _ _) (Nat.le_refl _) (by simp) ?_; (case hd => rfl); (case hg => rfl); (case hr => first | (go_simp; done) | (go_simp; rfl)); (case hp => exact (Reps.none _ _)); intro v284 w7 ho8 hb hg_ hnew_; clear hg_ hnew_; (first | rw [← Ny283.out] at ho8 | (simp only [Int.reduceToNat] at ho8; rw [← Ny283.out] at ho8)); have HO285 := am (Kd.R_lower ho8 (below_size bB)); replace HB := am (below_step bB hb); clear hb ho8))
 go_ret
 exact ⟨_, rv, kR HO285.out, bB⟩
/-! ### laws_toTailor: function 55 -/
def laws_toTailor.f (a0_0 : Int) (a0_1 : Int) (a0_2 : Bool) : Option (Int × Int × Bool) := some (a0_0, a0_1, a0_2)
set_option maxHeartbeats 8000000 in
set_option maxRecDepth 100000 in
theorem laws_toTailor.calls (a0_0 : Int) (a0_1 : Int) (a0_2 : Bool) (r1 : Int) (r2 : Int) (r3 : Bool) (w : World) (h : laws_toTailor.f a0_0 a0_1 a0_2 = some (r1, r2, r3)) :
  Calls Tryd.prog 55 #[.agg #[.int .i64 a0_0, .int .i64 a0_1, .bool a0_2]] w fun e w' => e = .returned (.agg #[.int .i64 r1, .int .i64 r2, .bool r3]) ∧ Below w.heap.size w w' := by
 have hu56 := Tryd.underlying56
 have hu54 := Tryd.underlying54
 have HB := am (Below.refl w.heap.size w)
 have H : (some (a0_0, a0_1, a0_2)) = some (r1, r2, r3) := h
 clear h
 simp only [Option.some.injEq, Prod.mk.injEq] at H
 obtain ⟨rfl, rfl, rfl⟩ := H
 go_enter Tryd.func55, Tryd.ntmps55
 go_wp2_with (first | ((with_reducible refine gate_dst (N := 1) rfl ?_); refine bx 1 #[.int .i64 a0_0, .int .i64 a0_1, .bool a0_2] 56 ?_; intro gb289 hg w2 hbox hb; have BK289 := am (hbox); have GW289 := am ((by rw [hg]; exact (below_size bB) : w.heap.size ≤ gb289)); have GE289 := am ((by rw [hg]; exact (below_size bB) : w.heap.size ≤ gb289)); replace HB := am (below_step bB hb); clear hb hbox hg) | ((with_reducible refine gate_dst (N := 2) rfl ?_); refine bx 2 #[.int .i64 0, .int .i64 0, .bool false] 54 ?_; intro gb290 hg w3 hbox hb; have BK290 := am (hbox); have GW290 := am ((by rw [hg]; exact (below_size bS) : w.heap.size ≤ gb290)); have GE290 := am ((by rw [hg]; exact (below_size bS) : w.heap.size ≤ gb290)); replace HB := am (below_step bS hb); have NB289_290 := am (nl hg BK289.out); have NB290_289 := am NB289_290.out.symm; replace BK289 := am (blk_below (g := gb289) (o := .cells #[.int .i64 a0_0, .int .i64 a0_1, .bool a0_2] 56 (0, 0)) (bk BK289.out) hb); clear hb hbox hg) | ((with_reducible refine gate_dst (N := 3) rfl ?_); refine bx 3 #[.int .i64 0, .int .i64 0, .bool false] 54 ?_; intro gb291 hg w4 hbox hb; have BK291 := am (hbox); have GW291 := am ((by rw [hg]; exact (below_size bS) : w.heap.size ≤ gb291)); have GE291 := am ((by rw [hg]; exact (below_size bS) : w.heap.size ≤ gb291)); replace HB := am (below_step bS hb); have NB289_291 := am (nl hg BK289.out); have NB291_289 := am NB289_291.out.symm; replace BK289 := am (blk_below (g := gb289) (o := .cells #[.int .i64 a0_0, .int .i64 a0_1, .bool a0_2] 56 (0, 0)) (bk BK289.out) hb); have NB290_291 := am (nl hg BK290.out); have NB291_290 := am NB290_291.out.symm; replace BK290 := am (blk_below (g := gb290) (o := .cells #[.int .i64 0, .int .i64 0, .bool false] 54 (0, 0)) (bk BK290.out) hb); clear hb hbox hg; have hnb5 := NB289_290.out; have hnc5 := NB290_289.out; have hnb6 := NB289_291.out; have hnc6 := NB291_289.out; have hcz7_0 := bc BK289.out 0 (.int .i64 a0_0); have hcz7_1 := bc BK289.out 1 (.int .i64 a0_1); have hcz7_2 := bc BK289.out 2 (.bool a0_2); have hfz7_0 := blk_frozen BK289.out 0; have hfz7_1 := blk_frozen BK289.out 1; have hfz7_2 := blk_frozen BK289.out 2; have hnb8 := NB291_290.out; have hnc8 := NB290_291.out; have hcz9_0 := bc BK291.out 0 (.int .i64 0); have hcz9_1 := bc BK291.out 1 (.int .i64 0); have hcz9_2 := bc BK291.out 2 (.bool false); have hfz9_0 := blk_frozen BK291.out 0; have hfz9_1 := blk_frozen BK291.out 1; have hfz9_2 := blk_frozen BK291.out 2; have hcz10_0 := bc BK290.out 0 (.int .i64 0); have hcz10_1 := bc BK290.out 1 (.int .i64 0); have hcz10_2 := bc BK290.out 2 (.bool false); have hfz10_0 := blk_frozen BK290.out 0; have hfz10_1 := blk_frozen BK290.out 1; have hfz10_2 := blk_frozen BK290.out 2))
 refine bodyPost_ret (results_cell_row rfl _ _ gb290 54 #[.int .i64 a0_0, .int .i64 a0_1, .bool a0_2] (0, 0) _ rfl (by (with_reducible repeat (first | refine blk_drewN ?_ _ | refine blk_drew ?_ | refine blk_alloc ?_ _)); refine blk_put (cs := #[.int .i64 a0_0, .int .i64 a0_1, .bool false]) ?_ 2 _ rfl; (with_reducible repeat (first | refine blk_drewN ?_ _ | refine blk_drew ?_ | refine blk_alloc ?_ _)); refine blk_put (cs := #[.int .i64 a0_0, .int .i64 0, .bool false]) ?_ 1 _ rfl; (with_reducible repeat (first | refine blk_drewN ?_ _ | refine blk_drew ?_ | refine blk_alloc ?_ _)); refine blk_put (cs := #[.int .i64 0, .int .i64 0, .bool false]) ?_ 0 _ rfl; (with_reducible repeat (first | refine blk_drewN ?_ _ | refine blk_drew ?_ | refine blk_alloc ?_ _)); refine blk_far ?_ NB290_291.out _; (with_reducible repeat (first | refine blk_drewN ?_ _ | refine blk_drew ?_ | refine blk_alloc ?_ _)); refine blk_far ?_ NB290_291.out _; (with_reducible repeat (first | refine blk_drewN ?_ _ | refine blk_drew ?_ | refine blk_alloc ?_ _)); refine blk_far ?_ NB290_291.out _; (with_reducible repeat (first | refine blk_drewN ?_ _ | refine blk_drew ?_ | refine blk_alloc ?_ _)); exact BK290.out) Tryd.underlying54 rfl (by kernel_rfl)) rfl ?_
 exact ⟨rv, bS⟩
/-! ### laws_toTailorS: function 29 -/
def laws_toTailorS.l0 : Nat → List (S56) → List (S54) → Int → Option ((List (S54)))
 | 0, _, _, _ => none
 | k + 1, x0, x3, x4 => if x4 < (x0.length : Int) then (if 0 ≤ x4 then ((laws_toTailor.f ((rd_T56 x0 x4).f0) ((rd_T56 x0 x4).f1) ((rd_T56 x0 x4).f2)).bind fun bt296 => (if x4 < (x3.length : Int) then (laws_toTailorS.l0 k x0 (x3.set (x4 : Int).toNat (⟨bt296.1, bt296.2.1, bt296.2.2⟩ : S54)) (wrap64 (x4 + 1))) else (none))) else (none)) else (some x3)
def laws_toTailorS.f (k : Nat) (l0 : List (S56)) : Option ((List (S54))) := if 0 ≤ (l0.length : Int) then (if ((l0.length : Int) : Int).toNat ≤ 11728124029610 then (laws_toTailorS.l0 k l0 (List.replicate ((l0.length : Int) : Int).toNat z54) 0) else (none)) else (none)
theorem laws_toTailorS.mono_l : ∀ k, (∀ y0 y1 y2, LeO (laws_toTailorS.l0 k y0 y1 y2) (laws_toTailorS.l0 (k + 1) y0 y1 y2))
 | 0 => fun _ _ _ r h => by simp [laws_toTailorS.l0] at h
 | k + 1 => by
  have ih0 := laws_toTailorS.mono_l k
  ·intro y0 y1 y2
   unfold laws_toTailorS.l0
   repeat' (first | (with_reducible first | exact ih0 .. | exact LeO.refl _ | exact LeO.none _ | refine LeO.ite ?_ ?_ | refine LeO.bind ?_ (fun _ => ?_)) | exact ih0 .. | exact LeO.none _ | refine LeO.ite ?_ ?_ | refine LeO.bind ?_ (fun _ => ?_))
theorem laws_toTailorS.mono : ∀ a0 k, LeO (laws_toTailorS.f k a0) (laws_toTailorS.f (k + 1) a0) := by
 intro a0 k
 have ih0 := laws_toTailorS.mono_l k
 unfold laws_toTailorS.f
 repeat' (first | (with_reducible first | exact ih0 .. | exact LeO.refl _ | exact LeO.none _ | refine LeO.ite ?_ ?_ | refine LeO.bind ?_ (fun _ => ?_)) | exact ih0 .. | exact LeO.none _ | refine LeO.ite ?_ ?_ | refine LeO.bind ?_ (fun _ => ?_))
set_option maxHeartbeats 8000000 in
set_option maxRecDepth 100000 in
theorem laws_toTailorS.calls (k : Nat) (A0 : Option Addr) (c0 : Nat) (l0 : List (S56)) (r : List (S54)) (w : World) (hr0 : Kd.C k56 w A0 l0.length l0) (hc0 : l0.length ≤ c0) (h : laws_toTailorS.f k l0 = some r) :
  Calls Tryd.prog 29 #[.slice A0 l0.length c0] w fun e w' => ∃ v0_ : Value, e = .returned (v0_) ∧ Kd.R k54 54 w' w.heap.size (fun _ => True) v0_ r ∧ Below w.heap.size w w' := by
 have hu56 := Tryd.underlying56
 have hu54 := Tryd.underlying54
 have HR0 := am hr0
 have HC0 := am hc0
 clear hr0 hc0
 have HB := am (Below.refl w.heap.size w)
 have H : (if 0 ≤ (l0.length : Int) then (if ((l0.length : Int) : Int).toNat ≤ 11728124029610 then (laws_toTailorS.l0 k l0 (List.replicate ((l0.length : Int) : Int).toNat z54) 0) else (none)) else (none)) = some r := h
 clear h
 replace H := iteN H
 obtain ⟨c2, H⟩ := H
 have c2b0 := eq_true c2
 have c2b1 : decide (0 ≤ (l0.length : Int)) = true := decide_eq_true c2
 clear c2
 replace H := iteN H
 obtain ⟨c3, H⟩ := H
 have c3b0 := eq_true c3
 have c3b1 : decide (((l0.length : Int) : Int).toNat ≤ 11728124029610) = true := decide_eq_true c3
 clear c3
 obtain ⟨y292, hy292⟩ : ∃ y_ : List (S54), y_ = (List.replicate ((l0.length : Int) : Int).toNat z54) := ⟨_, rfl⟩
 replace H : (laws_toTailorS.l0 k l0 y292 0) = some r := by first | (rw [hy292]; with_reducible exact H) | (have H2_ := (Option.bind_some _ _).symm.trans H; rw [hy292]; with_reducible exact H2_) | (have H2_ := (Option.bind_some _ _).symm.trans H; with_reducible exact H2_) | with_reducible exact H | (rw [hy292]; exact H) | exact H
 have Ny292 := am hy292
 clear hy292
 have H' := am H
 clear H
 go_enter Tryd.func29, Tryd.ntmps29
 go_wp2_with (first | ((with_reducible refine gate_dst (N := 7) rfl ?_); refine Kd.R_make k54 _ 54 rfl (N := 7) rfl 36 _ _ rfl (l0.length : Int) rfl rfl Tryd.underlying36 (.agg #[(.int .i64 0), (.int .i64 0), (.bool false)]) 24 info54 rfl (by decide) (by omega) z54 (ok := fun _ => True) (okp := fun _ => True) (k54_mkM _ _ _ z54 ) (fun _ hk => hk) trivial (od) (Nat.le_trans (Nat.mul_le_mul_right _ (od : (l0.length : Int).toNat ≤ 11728124029610)) (by omega)) (Below.refl _ _) (Nat.le_refl _) ?_; intro v293 w4 ho5 hb hg_ hnew_; clear hg_ hnew_; (first | rw [← Ny292.out] at ho5 | (simp only [Int.reduceToNat] at ho5; rw [← Ny292.out] at ho5)); have HO294 := am (Kd.R_lower ho5 (below_size bB)); replace HB := am (below_step bB hb); clear hb ho5))
 go_loopg [4] k (fun kq v4 w' => ∃ (x3_1 : List (S54)) (x4_1 : Int), v4 = .int .i64 x4_1 ∧ Aside0 (laws_toTailorS.l0 kq l0 x3_1 x4_1 = some r) ∧ Aside0 (kq ≤ k) ∧ Aside0 (Kd.R k54 54 w' w.heap.size (fun _ => True) v293 x3_1) ∧ Aside0 (Below w.heap.size w w'))
 case atStart => exact ⟨(y292), (0), sr, H', ⟨Nat.le_refl _⟩, ⟨kR HO294.out⟩, ⟨bB⟩⟩
 case round =>
  clear H'
  try clear c2b0
  try clear c2b1
  try clear c3b0
  try clear c3b1
  obtain ⟨x3_1, x4_1, rfl, HA, HK1, HO_3, HB⟩ := hrel
  cases gk with
  | zero => exact absurd HA.out (by simp [laws_toTailorS.l0])
  | succ k1 =>
   have H := HA.out
   clear HA
   simp only [laws_toTailorS.l0] at H
   by_cases c6 : x4_1 < (l0.length : Int)
   rotate_left
   ·rw [if_neg c6] at H
    have c6b0 : decide (x4_1 < (l0.length : Int)) = false := decide_eq_false c6
    clear c6
    obtain rfl := Option.some.inj H
    go_wp2
    go_ret
    exact ⟨_, rv, kR HO_3.out, bB⟩
   rw [if_pos c6] at H
   have c6b0 : decide (x4_1 < (l0.length : Int)) = true := decide_eq_true c6
   clear c6
   replace H := iteN H
   obtain ⟨c7, H⟩ := H
   have c7b0 : decide (0 ≤ x4_1) = true := decide_eq_true c7
   clear c7
   replace H := Option.bind_eq_some_iff.mp H
   obtain ⟨⟨t296, t297, t298⟩, A80, H⟩ := H
   replace H : (if x4_1 < (x3_1.length : Int) then (laws_toTailorS.l0 k1 l0 (x3_1.set (x4_1 : Int).toNat (⟨t296, t297, t298⟩ : S54)) (wrap64 (x4_1 + 1))) else (none)) = some r := H
   have A8 := am A80
   clear A80
   replace H := iteN H
   obtain ⟨c9, H⟩ := H
   have c9b0 : decide (x4_1 < (x3_1.length : Int)) = true := decide_eq_true c9
   clear c9
   obtain ⟨y299, hy299⟩ : ∃ y_ : List (S54), y_ = (x3_1.set (x4_1 : Int).toNat (⟨t296, t297, t298⟩ : S54)) := ⟨_, rfl⟩
   replace H : (laws_toTailorS.l0 k1 l0 y299 (wrap64 (x4_1 + 1))) = some r := by first | (rw [hy299]; with_reducible exact H) | (have H2_ := (Option.bind_some _ _).symm.trans H; rw [hy299]; with_reducible exact H2_) | (have H2_ := (Option.bind_some _ _).symm.trans H; with_reducible exact H2_) | with_reducible exact H | (rw [hy299]; exact H) | exact H
   have Ny299 := am hy299
   clear hy299
   have H' := am H
   clear H
   have p295 : 0 ≤ (x4_1 : Int) := od
   have q295 : x4_1 < (l0.length : Int) := od
   obtain ⟨ad295, e295, hx295_0, hx295_1, hx295_2⟩ := at_T56 HR0.out x4_1 p295 q295
   cases e295
   replace hx295_0 := cl HB hx295_0
   replace hx295_1 := cl HB hx295_1
   replace hx295_2 := cl HB hx295_2
   replace p295 := eq_true p295
   replace q295 := eq_true q295
   go_wp2_with (first | ((with_reducible refine gate_callee (f := 55) rfl ?_); refine gl 20 Tryd.func55 #[.agg #[.int .i64 ((rd_T56 l0 x4_1).f0), .int .i64 ((rd_T56 l0 x4_1).f1), .bool ((rd_T56 l0 x4_1).f2)]] ?_; (with_reducible refine (laws_toTailor.calls ((rd_T56 l0 x4_1).f0) ((rd_T56 l0 x4_1).f1) ((rd_T56 l0 x4_1).f2) t296 t297 t298 _ A8.out).mono ?_); rintro e w11 ⟨rfl, hb⟩; refine ⟨_, rfl, ?_⟩; replace HO_3 := am (Kd.R_below (kR HO_3.out) hb); replace HB := am (below_step bB hb); (try clear hb); have p10 : 0 ≤ (x4_1 : Int) := od; have q10 : (x4_1 : Int) < ((x3_1.length : Int) : Int) := od; obtain ⟨go10, co10, eo10, gb10, gl10, cl10, HG10⟩ := Kd.R_form HO_3.out (by omega); (first | cases eo10 | (injection eo10 with ea_ en_ ec_; (first | subst ea_ | (injection ea_ with ea_; subst ea_)); subst ec_; clear en_)); have GB10 := am gb10; have GG10 := am HG10; clear gb10 gl10 HG10; obtain ⟨ce10, hcl10, hM10, hcc10, hfr10⟩ := Kd.R_elem HO_3.out z54 (x4_1 : Int) p10 q10; obtain rfl := k54_openM hM10; have hx10_0 : w11.cell? ⟨go10, (x4_1 : Int).toNat * 3, none⟩ = some (.int .i64 ((rd_T54 x3_1 x4_1).f0)) := hcc10 0 _ rfl; have hx10_1 : w11.cell? ⟨go10, (x4_1 : Int).toNat * 3 + 1, none⟩ = some (.int .i64 ((rd_T54 x3_1 x4_1).f1)) := hcc10 1 _ rfl; have hx10_2 : w11.cell? ⟨go10, (x4_1 : Int).toNat * 3 + 2, none⟩ = some (.bool ((rd_T54 x3_1 x4_1).f2)) := hcc10 2 _ rfl; have hf10_0 : w11.frozen? ⟨go10, (x4_1 : Int).toNat * 3, none⟩ = false := hfr10 0; have hf10_1 : w11.frozen? ⟨go10, (x4_1 : Int).toNat * 3 + 1, none⟩ = false := hfr10 1; have hf10_2 : w11.frozen? ⟨go10, (x4_1 : Int).toNat * 3 + 2, none⟩ = false := hfr10 2; clear hcl10 hcc10 hfr10 hM10; replace p10 := eq_true p10; replace q10 := eq_true q10; have HX12 := am (show Kd.R k54 54 w11 w.heap.size (fun _ => True) (.slice (some ⟨go10, 0, none⟩) x3_1.length co10) x3_1 from (kR HO_3.out)); obtain ⟨ce12, hcl12, hM12, hcc12, hfr12⟩ := Kd.R_elem HX12.out z54 (x4_1 : Int) (od) (by have h_ : (x4_1 : Int) < ((x3_1.length : Int) : Int) := od; first | exact h_ | (have e_ := (Kd.R_reads' HO_3.out).1; omega) | simpa using h_); obtain rfl := k54_openM hM12; have HP12 := Kd.R_seg HX12.out (x4_1 : Int) (od) (by have h_ : (x4_1 : Int) < ((x3_1.length : Int) : Int) := od; first | exact h_ | (have e_ := (Kd.R_reads' HO_3.out).1; omega) | simpa using h_) (seg := [.int .i64 t296, .int .i64 t297, .bool t298]) (j := 0) hcl12 hcc12 (show 3 ≤ 3 from by decide) (x' := (⟨t296, t297, t298⟩ : S54)) (k54_mkM _ _ _ (⟨t296, t297, t298⟩ : S54) ) (fun _ hk => hk); have hx12_0 := hcc12 0 _ rfl; (try simp only [show (k54).sz = 3 from rfl, Nat.mul_one, Nat.add_zero] at hx12_0); have hf12_0 := hfr12 0; (try simp only [show (k54).sz = 3 from rfl, Nat.mul_one, Nat.add_zero] at hf12_0); have hx12_1 := hcc12 1 _ rfl; (try simp only [show (k54).sz = 3 from rfl, Nat.mul_one, Nat.add_zero] at hx12_1); have hf12_1 := hfr12 1; (try simp only [show (k54).sz = 3 from rfl, Nat.mul_one, Nat.add_zero] at hf12_1); have hx12_2 := hcc12 2 _ rfl; (try simp only [show (k54).sz = 3 from rfl, Nat.mul_one, Nat.add_zero] at hx12_2); have hf12_2 := hfr12 2; (try simp only [show (k54).sz = 3 from rfl, Nat.mul_one, Nat.add_zero] at hf12_2); clear hcl12 hcc12 hfr12 hM12) | ((with_reducible refine gate_store (t := 54) (p := 21) rfl ?_); refine store_event (t := 54) (p := 21) (v := ?vo_w13) (w1 := (((w11.setCell ⟨go10, (x4_1 : Int).toNat * 3, none⟩ (.int .i64 t296)).setCell ⟨go10, (x4_1 : Int).toNat * 3 + 1, none⟩ (.int .i64 t297)).setCell ⟨go10, (x4_1 : Int).toNat * 3 + 2, none⟩ (.bool t298))) ?hg ?ho ?hn ?hr ?_; (case ho => rfl); (case hg => rfl); (case hn => rfl); (case hr => first | (go_simp; done) | (go_simp; rfl)); intro w13 hw; have hg : w11.grownBy w13 (some go10) := (by rw [hw]; exact HP12.2); have hp_ : Kd.R k54 54 w13 w.heap.size (fun _ => True) (.slice (some ⟨go10, 0, none⟩) x3_1.length co10) y299 := (by rw [hw, Ny299.out]; exact HP12.1); clear HP12; replace HO_3 := am (hp_); replace HB := am ((by rw [hw]; exact below_set (below_set (below_set (HB.out) GB10.out) GB10.out) GB10.out : Below w.heap.size w w13)); clear hg hw hp_))
   go_roundg k1
   case measure => have := HK1.out; omega
   case rel => exact ⟨(y299), (wrap64 (x4_1 + 1)), sr, H', ⟨kl⟩, ⟨kR HO_3.out⟩, ⟨bB⟩⟩
/-! ### impl_long: function 49 -/
def impl_long.f (a0 : ByteArray) : Option (Bool) := some (decide ((a0.size : Int) > 65536))
set_option maxHeartbeats 8000000 in
set_option maxRecDepth 100000 in
theorem impl_long.calls (a0 : ByteArray) (r : Bool) (w : World) (h : impl_long.f a0 = some r) :
  Calls Tryd.prog 49 #[.string a0] w fun e w' => e = .returned (.bool r) ∧ Drawn0 w w' := by
 have H : (some (decide ((a0.size : Int) > 65536))) = some r := h
 clear h
 obtain rfl := Option.some.inj H
 go_enter Tryd.func49, Tryd.ntmps49
 go_wp2
 go_ret
 exact rdd
-- NOT PRINTED: function 117 (utf8_decodeRuneInStringSlow)
/-! ### utf8_DecodeRuneInString: function 84 (by hand) -/
def utf8_DecodeRuneInString.f (a0 : ByteArray) : Option (Int × Int) := some (((Go.Lib.decodeGo a0).1 : Int), ((Go.Lib.decodeGo a0).2 : Int))
theorem utf8_DecodeRuneInString.calls (a0 : ByteArray) (r1 : Int) (r2 : Int) (w : World) (hG : GL w) (h : utf8_DecodeRuneInString.f a0 = some (r1, r2)) :
  Calls Tryd.prog 84 #[.string a0] w fun e w' => e = .returned (.tuple #[.int .i32 r1, .int .i64 r2]) ∧ Below w.heap.size w w' := by
 obtain ⟨rfl, rfl⟩ := Prod.mk.inj (Option.some.inj h)
 exact Go.Proofs.Any.utf8_DecodeRuneInString Tryd.lays197 a0 w hG
/-! ### impl_read: function 56 -/
def impl_read.l0 : Nat → ByteArray → List (S74) → Int → Option ((List (S74)))
 | 0, _, _, _ => none
 | k + 1, x0, x3, x4 => if x4 < (x0.size : Int) then (if 0 ≤ x4 then (if x4 ≤ (x0.size : Int) then ((utf8_DecodeRuneInString.f (x0.extract (x4 : Int).toNat x0.size)).bind fun bt300 => (if bt300.1 = 65533 then (if x3.length < 4398046511104 then (impl_read.l0 k x0 (x3 ++ [(⟨wrap64 (bt300.1), x4, wrap64 (x4 + bt300.2), (bt300.2 == 1)⟩ : S74)]) (wrap64 (x4 + bt300.2))) else (none)) else (if x3.length < 4398046511104 then (impl_read.l0 k x0 (x3 ++ [(⟨wrap64 (bt300.1), x4, wrap64 (x4 + bt300.2), false⟩ : S74)]) (wrap64 (x4 + bt300.2))) else (none)))) else (none)) else (none)) else (some x3)
def impl_read.f (k : Nat) (a0 : ByteArray) : Option ((List (S74))) := impl_read.l0 k a0 ([] : List (S74)) 0
theorem impl_read.mono_l : ∀ k, (∀ y0 y1 y2, LeO (impl_read.l0 k y0 y1 y2) (impl_read.l0 (k + 1) y0 y1 y2))
 | 0 => fun _ _ _ r h => by simp [impl_read.l0] at h
 | k + 1 => by
  have ih0 := impl_read.mono_l k
  ·intro y0 y1 y2
   unfold impl_read.l0
   repeat' (first | (with_reducible first | exact ih0 .. | exact LeO.refl _ | exact LeO.none _ | refine LeO.ite ?_ ?_ | refine LeO.bind ?_ (fun _ => ?_)) | exact ih0 .. | exact LeO.none _ | refine LeO.ite ?_ ?_ | refine LeO.bind ?_ (fun _ => ?_))
theorem impl_read.mono : ∀ a0 k, LeO (impl_read.f k a0) (impl_read.f (k + 1) a0) := by
 intro a0 k
 have ih0 := impl_read.mono_l k
 unfold impl_read.f
 repeat' (first | (with_reducible first | exact ih0 .. | exact LeO.refl _ | exact LeO.none _ | refine LeO.ite ?_ ?_ | refine LeO.bind ?_ (fun _ => ?_)) | exact ih0 .. | exact LeO.none _ | refine LeO.ite ?_ ?_ | refine LeO.bind ?_ (fun _ => ?_))
set_option maxHeartbeats 8000000 in
set_option maxRecDepth 100000 in
theorem impl_read.calls (k : Nat) (a0 : ByteArray) (r : List (S74)) (w : World) (hG : GL w) (h : impl_read.f k a0 = some r) :
  Calls Tryd.prog 56 #[.string a0] w fun e w' => ∃ v0_ : Value, e = .returned (v0_) ∧ Kd.R k74 74 w' w.heap.size (fun _ => True) v0_ r ∧ Below w.heap.size w w' := by
 have hu74 := Tryd.underlying74
 have HGL := am hG
 clear hG
 have HB := am (Below.refl w.heap.size w)
 have H : (impl_read.l0 k a0 ([] : List (S74)) 0) = some r := h
 clear h
 have H' := am H
 clear H
 go_enter Tryd.func56, Tryd.ntmps56
 go_wp2
 go_loopg [3, 4] k (fun kq v3 v4 w' => ∃ (x3_1 : List (S74)) (x4_1 : Int), v4 = .int .i64 x4_1 ∧ Aside0 (impl_read.l0 kq a0 x3_1 x4_1 = some r) ∧ Aside0 (kq ≤ k) ∧ Aside0 (Kd.R k74 74 w' w.heap.size (fun _ => True) v3 x3_1) ∧ Aside0 (Below w.heap.size w w'))
 case atStart => exact ⟨(([] : List (S74))), (0), sr, H', ⟨Nat.le_refl _⟩, ⟨by first | exact Kd.R_nil _ _ _ _ _ | exact Kd.N_nil _ _ _ _ _ | exact Kd.V_nil _ _ _ _ _ | exact Kd.Q_nil _ _ _ _ _ | exact Kd.S_nil _ _ _ _ _⟩, ⟨bB⟩⟩
 case round =>
  clear H'
  obtain ⟨x3_1, x4_1, rfl, HA, HK1, HO_3, HB⟩ := hrel
  cases gk with
  | zero => exact absurd HA.out (by simp [impl_read.l0])
  | succ k1 =>
   have H := HA.out
   clear HA
   simp only [impl_read.l0] at H
   by_cases c2 : x4_1 < (a0.size : Int)
   rotate_left
   ·rw [if_neg c2] at H
    have c2b0 : decide (x4_1 < (a0.size : Int)) = false := decide_eq_false c2
    clear c2
    obtain rfl := Option.some.inj H
    go_wp2
    go_ret
    exact ⟨_, rv, kR HO_3.out, bB⟩
   rw [if_pos c2] at H
   have c2b0 : decide (x4_1 < (a0.size : Int)) = true := decide_eq_true c2
   clear c2
   replace H := iteN H
   obtain ⟨c3, H⟩ := H
   have c3b0 := eq_true c3
   have c3b1 : decide (0 ≤ x4_1) = true := decide_eq_true c3
   clear c3
   replace H := iteN H
   obtain ⟨c4, H⟩ := H
   have c4b0 := eq_true c4
   have c4b1 : decide (x4_1 ≤ (a0.size : Int)) = true := decide_eq_true c4
   clear c4
   replace H := Option.bind_eq_some_iff.mp H
   obtain ⟨⟨t300, t301⟩, A50, H⟩ := H
   replace H : (if t300 = 65533 then (if x3_1.length < 4398046511104 then (impl_read.l0 k1 a0 (x3_1 ++ [(⟨wrap64 (t300), x4_1, wrap64 (x4_1 + t301), (t301 == 1)⟩ : S74)]) (wrap64 (x4_1 + t301))) else (none)) else (if x3_1.length < 4398046511104 then (impl_read.l0 k1 a0 (x3_1 ++ [(⟨wrap64 (t300), x4_1, wrap64 (x4_1 + t301), false⟩ : S74)]) (wrap64 (x4_1 + t301))) else (none))) = some r := H
   have A5 := am A50
   clear A50
   by_cases c6 : t300 = 65533
   rotate_left
   ·rw [if_neg c6] at H
    have c6b0 : (t300 == 65533) = false := beq_eq_false_iff_ne.mpr c6
    have c6b1 : (t300 != 65533) = true := bne_iff_ne.mpr c6
    replace H := iteN H
    obtain ⟨c10, H⟩ := H
    have LMc10 := am c10
    clear c10
    obtain ⟨y305, hy305⟩ : ∃ y_ : List (S74), y_ = (x3_1 ++ [(⟨wrap64 (t300), x4_1, wrap64 (x4_1 + t301), false⟩ : S74)]) := ⟨_, rfl⟩
    replace H : (impl_read.l0 k1 a0 y305 (wrap64 (x4_1 + t301))) = some r := by first | (rw [hy305]; with_reducible exact H) | (have H2_ := (Option.bind_some _ _).symm.trans H; rw [hy305]; with_reducible exact H2_) | (have H2_ := (Option.bind_some _ _).symm.trans H; with_reducible exact H2_) | with_reducible exact H | (rw [hy305]; exact H) | exact H
    have Ny305 := am hy305
    clear hy305
    have H' := am H
    clear H
    go_wp2_with (first | ((with_reducible refine gate_callee (f := 84) rfl ?_); refine gl 16 Tryd.func84 #[.string (a0.extract (x4_1 : Int).toNat a0.size)] ?_; (with_reducible refine (utf8_DecodeRuneInString.calls (a0.extract (x4_1 : Int).toNat a0.size) t300 t301 _ ?side1 A5.out).mono ?_); (case side1 => first | exact HGL.out | exact GL_below HGL.out bB); rintro e w11 ⟨rfl, hb⟩; refine ⟨_, rfl, ?_⟩; replace HO_3 := am (Kd.R_below (kR HO_3.out) hb); replace HB := am (below_step bB hb); (try clear hb)) | ((with_reducible refine gate_builtin (b := .append) (xs := #[.tmp 25, .tmp 34]) rfl ?_); at_builtin; refine Kd.R_append k74 (w0 := w) w.heap.size rfl (.tmp 25) (.tmp 34) 57 74 (.agg #[(.int .i64 0), (.int .i64 0), (.int .i64 0), (.bool false)]) 32 rfl Tryd.underlying57 info74 rfl (by decide) (by omega) u3 x3_1 (⟨wrap64 (t300), x4_1, wrap64 (x4_1 + t301), false⟩ : S74) [.int .i64 (wrap64 (t300)), .int .i64 x4_1, .int .i64 (wrap64 (x4_1 + t301)), .bool false] (fun _ => True) (fun _ => False) rfl rfl ?aP (fun _ hk => hk.elim) ?aF ?aO ?aB ?aS ?aL ?_; (case aP => exact k74_mkM _ _ _ (⟨wrap64 (t300), x4_1, wrap64 (x4_1 + t301), false⟩ : S74)); (case aB => exact bB); (case aF => exact (fun _ _ => trivial)); (case aO => exact (kR HO_3.out)); (case aS => exact (below_size bB)); (case aL => have := LMc10.out; omega); intro v306 w12 ho hb hg hat; rw [← Ny305.out] at ho; replace HB := am (hb); have HO307 := am (ho); clear HO_3; clear ho hb hg hat))
    go_roundg k1
    case measure => have := HK1.out; omega
    case rel => exact ⟨(y305), (wrap64 (x4_1 + t301)), sr, H', ⟨kl⟩, ⟨kR HO307.out⟩, ⟨bB⟩⟩
   rw [if_pos c6] at H
   have c6b0 : (t300 == 65533) = true := beq_iff_eq.mpr c6
   have c6b1 : (t300 != 65533) = false := bne_eq_false_iff_eq.mpr c6
   clear c6
   replace H := iteN H
   obtain ⟨c7, H⟩ := H
   have LMc7 := am c7
   clear c7
   obtain ⟨y302, hy302⟩ : ∃ y_ : List (S74), y_ = (x3_1 ++ [(⟨wrap64 (t300), x4_1, wrap64 (x4_1 + t301), (t301 == 1)⟩ : S74)]) := ⟨_, rfl⟩
   replace H : (impl_read.l0 k1 a0 y302 (wrap64 (x4_1 + t301))) = some r := by first | (rw [hy302]; with_reducible exact H) | (have H2_ := (Option.bind_some _ _).symm.trans H; rw [hy302]; with_reducible exact H2_) | (have H2_ := (Option.bind_some _ _).symm.trans H; with_reducible exact H2_) | with_reducible exact H | (rw [hy302]; exact H) | exact H
   have Ny302 := am hy302
   clear hy302
   have H' := am H
   clear H
   go_wp2_with (first | ((with_reducible refine gate_callee (f := 84) rfl ?_); refine gl 16 Tryd.func84 #[.string (a0.extract (x4_1 : Int).toNat a0.size)] ?_; (with_reducible refine (utf8_DecodeRuneInString.calls (a0.extract (x4_1 : Int).toNat a0.size) t300 t301 _ ?side1 A5.out).mono ?_); (case side1 => first | exact HGL.out | exact GL_below HGL.out bB); rintro e w8 ⟨rfl, hb⟩; refine ⟨_, rfl, ?_⟩; replace HO_3 := am (Kd.R_below (kR HO_3.out) hb); replace HB := am (below_step bB hb); (try clear hb)) | ((with_reducible refine gate_builtin (b := .append) (xs := #[.tmp 25, .tmp 34]) rfl ?_); at_builtin; refine Kd.R_append k74 (w0 := w) w.heap.size rfl (.tmp 25) (.tmp 34) 57 74 (.agg #[(.int .i64 0), (.int .i64 0), (.int .i64 0), (.bool false)]) 32 rfl Tryd.underlying57 info74 rfl (by decide) (by omega) u3 x3_1 (⟨wrap64 (t300), x4_1, wrap64 (x4_1 + t301), (t301 == 1)⟩ : S74) [.int .i64 (wrap64 (t300)), .int .i64 x4_1, .int .i64 (wrap64 (x4_1 + t301)), .bool (t301 == 1)] (fun _ => True) (fun _ => False) rfl rfl ?aP (fun _ hk => hk.elim) ?aF ?aO ?aB ?aS ?aL ?_; (case aP => exact k74_mkM _ _ _ (⟨wrap64 (t300), x4_1, wrap64 (x4_1 + t301), (t301 == 1)⟩ : S74)); (case aB => exact bB); (case aF => exact (fun _ _ => trivial)); (case aO => exact (kR HO_3.out)); (case aS => exact (below_size bB)); (case aL => have := LMc7.out; omega); intro v303 w9 ho hb hg hat; rw [← Ny302.out] at ho; replace HB := am (hb); have HO304 := am (ho); clear HO_3; clear ho hb hg hat))
   go_roundg k1
   case measure => have := HK1.out; omega
   case rel => exact ⟨(y302), (wrap64 (x4_1 + t301)), sr, H', ⟨kl⟩, ⟨kR HO304.out⟩, ⟨bB⟩⟩
/-! ### impl_placesOf: function 57 -/
def impl_placesOf.l0 : Nat → Int → List Bool → List Int → List (S74) → Int → Int → Option (List Int)
 | 0, _, _, _, _, _, _ => none
 | k + 1, x1, x2, x7, x13, x14, x15 => if x15 < x14 then (if 0 ≤ x15 then (if x15 < (x13.length : Int) then (if x15 > 0 then (if x15 < (x2.length : Int) then (if rdOf false x2 x15 = true then (if x7.length < 17592186044416 then (impl_placesOf.l0 k x1 x2 (x7 ++ [(rd_T74 x13 x15).f1]) x13 x14 (wrap64 (x15 + 1))) else (none)) else (impl_placesOf.l0 k x1 x2 x7 x13 x14 (wrap64 (x15 + 1)))) else (none)) else (impl_placesOf.l0 k x1 x2 x7 x13 x14 (wrap64 (x15 + 1)))) else (none)) else (none)) else (if x7.length < 17592186044416 then (some (x7 ++ [x1])) else (none))
def impl_placesOf.f (k : Nat) (l0 : List (S74)) (a1 : Int) (l2 : List Bool) : Option (List Int) := if a1 = 0 then (some ([] : List Int)) else (impl_placesOf.l0 k a1 l2 (([0] : List Int)) l0 (l0.length : Int) 0)
theorem impl_placesOf.mono_l : ∀ k, (∀ y0 y1 y2 y3 y4 y5, LeO (impl_placesOf.l0 k y0 y1 y2 y3 y4 y5) (impl_placesOf.l0 (k + 1) y0 y1 y2 y3 y4 y5))
 | 0 => fun _ _ _ _ _ _ r h => by simp [impl_placesOf.l0] at h
 | k + 1 => by
  have ih0 := impl_placesOf.mono_l k
  ·intro y0 y1 y2 y3 y4 y5
   unfold impl_placesOf.l0
   repeat' (first | (with_reducible first | exact ih0 .. | exact LeO.refl _ | exact LeO.none _ | refine LeO.ite ?_ ?_ | refine LeO.bind ?_ (fun _ => ?_)) | exact ih0 .. | exact LeO.none _ | refine LeO.ite ?_ ?_ | refine LeO.bind ?_ (fun _ => ?_))
theorem impl_placesOf.mono : ∀ a0 a1 a2 k, LeO (impl_placesOf.f k a0 a1 a2) (impl_placesOf.f (k + 1) a0 a1 a2) := by
 intro a0 a1 a2 k
 have ih0 := impl_placesOf.mono_l k
 unfold impl_placesOf.f
 repeat' (first | (with_reducible first | exact ih0 .. | exact LeO.refl _ | exact LeO.none _ | refine LeO.ite ?_ ?_ | refine LeO.bind ?_ (fun _ => ?_)) | exact ih0 .. | exact LeO.none _ | refine LeO.ite ?_ ?_ | refine LeO.bind ?_ (fun _ => ?_))
set_option maxHeartbeats 8000000 in
set_option maxRecDepth 100000 in
theorem impl_placesOf.calls (k : Nat) (A0 : Option Addr) (c0 : Nat) (l0 : List (S74)) (a1 : Int) (A2 : Option Addr) (c2 : Nat) (l2 : List Bool) (r : List Int) (w : World) (hr0 : Kd.C k74 w A0 l0.length l0) (hc0 : l0.length ≤ c0) (hr2 : Kd.C Kd.bool w A2 l2.length l2) (hc2 : l2.length ≤ c2) (h : impl_placesOf.f k l0 a1 l2 = some r) :
  Calls Tryd.prog 57 #[.slice A0 l0.length c0, .int .i64 a1, .slice A2 l2.length c2] w fun e w' => ∃ v0_ : Value, e = .returned (v0_) ∧ Kd.R (Kd.int .i64) 2 w' w.heap.size (fun _ => True) v0_ r ∧ Below w.heap.size w w' := by
 have hu74 := Tryd.underlying74
 have HR0 := am hr0
 have HC0 := am hc0
 clear hr0 hc0
 have HR2 := am hr2
 have HC2 := am hc2
 clear hr2 hc2
 have HB := am (Below.refl w.heap.size w)
 have H : (if a1 = 0 then (some ([] : List Int)) else (impl_placesOf.l0 k a1 l2 (([0] : List Int)) l0 (l0.length : Int) 0)) = some r := h
 clear h
 by_cases c4 : a1 = 0
 ·rw [if_pos c4] at H
  have c4b0 : (a1 == 0) = true := beq_iff_eq.mpr c4
  have c4b1 : (a1 != 0) = false := bne_eq_false_iff_eq.mpr c4
  clear c4
  obtain rfl := Option.some.inj H
  go_enter Tryd.func57, Tryd.ntmps57
  go_wp2
  go_ret
  exact ⟨_, rv, by first | exact Kd.R_nil _ _ _ _ _ | exact Kd.N_nil _ _ _ _ _ | exact Kd.V_nil _ _ _ _ _ | exact Kd.Q_nil _ _ _ _ _ | exact Kd.S_nil _ _ _ _ _, bB⟩
 rw [if_neg c4] at H
 have c4b0 : (a1 == 0) = false := beq_eq_false_iff_ne.mpr c4
 have c4b1 : (a1 != 0) = true := bne_iff_ne.mpr c4
 obtain ⟨y308, hy308⟩ : ∃ y_ : List Int, y_ = (([0] : List Int)) := ⟨_, rfl⟩
 replace H : (impl_placesOf.l0 k a1 l2 y308 l0 (l0.length : Int) 0) = some r := by first | (rw [hy308]; with_reducible exact H) | (have H2_ := (Option.bind_some _ _).symm.trans H; rw [hy308]; with_reducible exact H2_) | (have H2_ := (Option.bind_some _ _).symm.trans H; with_reducible exact H2_) | with_reducible exact H | (rw [hy308]; exact H) | exact H
 have Ny308 := am hy308
 clear hy308
 have H' := am H
 clear H
 go_enter Tryd.func57, Tryd.ntmps57
 go_wp2_with (first | ((with_reducible refine gate_dst (N := 12) rfl ?_); refine Kd.R_lit (Kd.int .i64) _ 2 ?hg (N := 12) ?hd (xs := ([0] : List Int)) (inner := [.int .i64 0]) (ok := fun _ => True) (okp := fun _ => True) ?hr ?hp (fun _ hk => hk) trivial (Below.refl _ _) (Nat.le_refl _) (by simp) ?_; (case hd => rfl); (case hg => rfl); (case hr => first | (go_simp; done) | (go_simp; rfl)); (case hp => exact (Reps.one (show Kd.M (Kd.int .i64) _ _ _ 0 [.int .i64 0] from rfl) (Reps.none _ _))); intro v309 w5 ho6 hb hg_ hnew_; clear hg_ hnew_; (first | rw [← Ny308.out] at ho6 | (simp only [Int.reduceToNat] at ho6; rw [← Ny308.out] at ho6)); have HO310 := am (Kd.R_lower ho6 (below_size bB)); replace HB := am (below_step bB hb); clear hb ho6))
 go_loopg [7, 15] k (fun kq v7 v15 w' => ∃ (x7_1 : List Int) (x15_1 : Int), v15 = .int .i64 x15_1 ∧ Aside0 (impl_placesOf.l0 kq a1 l2 x7_1 l0 (l0.length : Int) x15_1 = some r) ∧ Aside0 (kq ≤ k) ∧ Aside0 (Kd.R (Kd.int .i64) 2 w' w.heap.size (fun _ => True) v7 x7_1) ∧ Aside0 (Below w.heap.size w w'))
 case atStart => exact ⟨(y308), (0), sr, H', ⟨Nat.le_refl _⟩, ⟨kR HO310.out⟩, ⟨bB⟩⟩
 case round =>
  clear H'
  try clear c2
  try clear c4
  try clear c4b0
  try clear c4b1
  obtain ⟨x7_1, x15_1, rfl, HA, HK1, HO_7, HB⟩ := hrel
  cases gk with
  | zero => exact absurd HA.out (by simp [impl_placesOf.l0])
  | succ k1 =>
   have H := HA.out
   clear HA
   simp only [impl_placesOf.l0] at H
   by_cases c7 : x15_1 < (l0.length : Int)
   rotate_left
   ·rw [if_neg c7] at H
    have c7b0 : decide (x15_1 < (l0.length : Int)) = false := decide_eq_false c7
    clear c7
    replace H := iteN H
    obtain ⟨c22, H⟩ := H
    have LMc22 := am c22
    clear c22
    obtain ⟨y317, hy317⟩ : ∃ y_ : List Int, y_ = (x7_1 ++ [a1]) := ⟨_, rfl⟩
    replace H : (some y317) = some r := by first | (rw [hy317]; with_reducible exact H) | (have H2_ := (Option.bind_some _ _).symm.trans H; rw [hy317]; with_reducible exact H2_) | (have H2_ := (Option.bind_some _ _).symm.trans H; with_reducible exact H2_) | with_reducible exact H | (rw [hy317]; exact H) | exact H
    have Ny317 := am hy317
    clear hy317
    obtain rfl := Option.some.inj H
    go_wp2_with (first | ((with_reducible refine gate_builtin (b := .append) (xs := #[.tmp 34, .tmp 36]) rfl ?_); at_builtin; refine Kd.R_append (Kd.int .i64) (w0 := w) w.heap.size rfl (.tmp 34) (.tmp 36) 22 2 (.int .i64 0) 8 rfl Tryd.underlying22 info2 rfl (by decide) (by omega) u7 x7_1 a1 [.int .i64 a1] (fun _ => True) (fun _ => False) rfl rfl ?aP (fun _ hk => hk.elim) ?aF ?aO ?aB ?aS ?aL ?_; (case aP => exact rfl); (case aB => exact bB); (case aF => exact (fun _ _ => trivial)); (case aO => exact (kR HO_7.out)); (case aS => exact (below_size bB)); (case aL => have := LMc22.out; omega); intro v318 w23 ho hb hg hat; rw [← Ny317.out] at ho; replace HB := am (hb); have HO319 := am (ho); clear HO_7; clear ho hb hg hat))
    go_ret
    exact ⟨_, rv, kR HO319.out, bB⟩
   rw [if_pos c7] at H
   have c7b0 : decide (x15_1 < (l0.length : Int)) = true := decide_eq_true c7
   clear c7
   replace H := iteN H
   obtain ⟨c8, H⟩ := H
   have c8b0 : decide (0 ≤ x15_1) = true := decide_eq_true c8
   clear c8
   replace H := iteN H
   obtain ⟨c9, H⟩ := H
   have c9b0 : decide (x15_1 < (l0.length : Int)) = true := decide_eq_true c9
   clear c9
   by_cases c10 : x15_1 > 0
   rotate_left
   ·rw [if_neg c10] at H
    have c10b0 : decide (0 < x15_1) = false := decide_eq_false c10
    clear c10
    have H' := am H
    clear H
    have p311 : 0 ≤ (x15_1 : Int) := od
    have q311 : x15_1 < (l0.length : Int) := od
    obtain ⟨ad311, e311, hx311_0, hx311_1, hx311_2, hx311_3⟩ := at_T74 HR0.out x15_1 p311 q311
    cases e311
    replace hx311_0 := cl HB hx311_0
    replace hx311_1 := cl HB hx311_1
    replace hx311_2 := cl HB hx311_2
    replace hx311_3 := cl HB hx311_3
    replace p311 := eq_true p311
    replace q311 := eq_true q311
    go_wp2_with (first | ((with_reducible refine gate_dst (N := 9) rfl ?_); refine bx 9 #[.int .i64 0, .int .i64 0, .int .i64 0, .bool false] 74 ?_; intro gb312 hg w20 hbox hb; replace HO_7 := am (Kd.R_below (kR HO_7.out) hb); have BK312 := am (hbox); have GW312 := am ((by rw [hg]; exact (below_size bB) : w.heap.size ≤ gb312)); have GE312 := am ((by rw [hg]; exact (below_size bB) : w.heap.size ≤ gb312)); replace HB := am (below_step bB hb); clear hb hbox hg; have hcz21_0 := bc BK312.out 0 (.int .i64 0); have hcz21_1 := bc BK312.out 1 (.int .i64 0); have hcz21_2 := bc BK312.out 2 (.int .i64 0); have hcz21_3 := bc BK312.out 3 (.bool false); have hfz21_0 := blk_frozen BK312.out 0; have hfz21_1 := blk_frozen BK312.out 1; have hfz21_2 := blk_frozen BK312.out 2; have hfz21_3 := blk_frozen BK312.out 3))
    go_roundg k1
    case measure => have := HK1.out; omega
    case rel => exact ⟨(x7_1), (wrap64 (x15_1 + 1)), sr, H', ⟨kl⟩, ⟨kR (Kd.R_mono (Kd.R_far (p := ⟨gb312, 3, none⟩) (Kd.R_far (p := ⟨gb312, 2, none⟩) (Kd.R_far (p := ⟨gb312, 1, none⟩) (Kd.R_far (p := ⟨gb312, 0, none⟩) (Kd.R_types HO_7.out BK312.out (by decide)) (fun _ hk => hk.2) (.int .i64 ((rd_T74 l0 x15_1).f0))) (fun _ hk => hk.2) (.int .i64 ((rd_T74 l0 x15_1).f1))) (fun _ hk => hk.2) (.int .i64 ((rd_T74 l0 x15_1).f2))) (fun _ hk => hk.2) (.bool ((rd_T74 l0 x15_1).f3))) (fun _ hk => trivial))⟩, ⟨bS⟩⟩
   rw [if_pos c10] at H
   have c10b0 : decide (0 < x15_1) = true := decide_eq_true c10
   clear c10
   replace H := iteN H
   obtain ⟨c11, H⟩ := H
   have c11b0 : decide (x15_1 < (l2.length : Int)) = true := decide_eq_true c11
   clear c11
   obtain ⟨bq12, hbq12⟩ : ∃ b_ : Bool, b_ = (rdOf false l2 x15_1) := ⟨_, rfl⟩
   replace H : (if bq12 = true then (if x7_1.length < 17592186044416 then (impl_placesOf.l0 k1 a1 l2 (x7_1 ++ [(rd_T74 l0 x15_1).f1]) l0 (l0.length : Int) (wrap64 (x15_1 + 1))) else (none)) else (impl_placesOf.l0 k1 a1 l2 x7_1 l0 (l0.length : Int) (wrap64 (x15_1 + 1)))) = some r := by rw [← hbq12] at H; exact H
   have Nbq12 := am hbq12
   clear hbq12
   by_cases c13 : bq12 = true
   rotate_left
   ·replace c13 := Bool.eq_false_iff.mpr c13
    subst c13
    replace H := iF H
    have H' := am H
    clear H
    have p311 : 0 ≤ (x15_1 : Int) := od
    have q311 : x15_1 < (l0.length : Int) := od
    obtain ⟨ad311, e311, hx311_0, hx311_1, hx311_2, hx311_3⟩ := at_T74 HR0.out x15_1 p311 q311
    (try rw [← Nbq12.out] at hx311_3)
    cases e311
    replace hx311_0 := cl HB hx311_0
    replace hx311_1 := cl HB hx311_1
    replace hx311_2 := cl HB hx311_2
    replace hx311_3 := cl HB hx311_3
    replace p311 := eq_true p311
    replace q311 := eq_true q311
    go_wp2_with (first | ((with_reducible refine gate_dst (N := 9) rfl ?_); refine bx 9 #[.int .i64 0, .int .i64 0, .int .i64 0, .bool false] 74 ?_; intro gb312 hg w18 hbox hb; replace HO_7 := am (Kd.R_below (kR HO_7.out) hb); have BK312 := am (hbox); have GW312 := am ((by rw [hg]; exact (below_size bB) : w.heap.size ≤ gb312)); have GE312 := am ((by rw [hg]; exact (below_size bB) : w.heap.size ≤ gb312)); replace HB := am (below_step bB hb); clear hb hbox hg; have hcz19_0 := bc BK312.out 0 (.int .i64 0); have hcz19_1 := bc BK312.out 1 (.int .i64 0); have hcz19_2 := bc BK312.out 2 (.int .i64 0); have hcz19_3 := bc BK312.out 3 (.bool false); have hfz19_0 := blk_frozen BK312.out 0; have hfz19_1 := blk_frozen BK312.out 1; have hfz19_2 := blk_frozen BK312.out 2; have hfz19_3 := blk_frozen BK312.out 3; have p313 : 0 ≤ (x15_1 : Int) := od; have q313 : x15_1 < (l2.length : Int) := od; obtain ⟨ad313, e313, hx313_0⟩ := Kd.at_bool HR2.out x15_1 p313 q313; (try rw [← Nbq12.out] at hx313_0); cases e313; have hn313_0 : ad313.block ≠ gb312 := Nat.ne_of_lt (Nat.lt_of_lt_of_le (by have := World.block_lt_of_cell? _ _ hx313_0; first | rwa [add_block] at this | exact this) GW312.out); have hn313_1 : ad313.block ≠ gb312 := Nat.ne_of_lt (Nat.lt_of_lt_of_le (by have := World.block_lt_of_cell? _ _ hx313_0; first | rwa [add_block] at this | exact this) GW312.out); have hn313_2 : ad313.block ≠ gb312 := Nat.ne_of_lt (Nat.lt_of_lt_of_le (by have := World.block_lt_of_cell? _ _ hx313_0; first | rwa [add_block] at this | exact this) GW312.out); have hn313_3 : ad313.block ≠ gb312 := Nat.ne_of_lt (Nat.lt_of_lt_of_le (by have := World.block_lt_of_cell? _ _ hx313_0; first | rwa [add_block] at this | exact this) GW312.out); replace hx313_0 := cl HB hx313_0; replace hx313_0 := (cell_far (p := ⟨gb312, 0, none⟩) (by first | (rw [add_block]; exact hn313_0) | (show (Addr.add _ _).block ≠ _; rw [add_block]; exact hn313_0) | exact hn313_0) (.int .i64 ((rd_T74 l0 x15_1).f0))).trans hx313_0; replace hx313_0 := (cell_far (p := ⟨gb312, 1, none⟩) (by first | (rw [add_block]; exact hn313_1) | (show (Addr.add _ _).block ≠ _; rw [add_block]; exact hn313_1) | exact hn313_1) (.int .i64 ((rd_T74 l0 x15_1).f1))).trans hx313_0; replace hx313_0 := (cell_far (p := ⟨gb312, 2, none⟩) (by first | (rw [add_block]; exact hn313_2) | (show (Addr.add _ _).block ≠ _; rw [add_block]; exact hn313_2) | exact hn313_2) (.int .i64 ((rd_T74 l0 x15_1).f2))).trans hx313_0; replace hx313_0 := (cell_far (p := ⟨gb312, 3, none⟩) (by first | (rw [add_block]; exact hn313_3) | (show (Addr.add _ _).block ≠ _; rw [add_block]; exact hn313_3) | exact hn313_3) (.bool ((rd_T74 l0 x15_1).f3))).trans hx313_0; clear hn313_0; clear hn313_1; clear hn313_2; clear hn313_3; replace p313 := eq_true p313; replace q313 := eq_true q313))
    go_roundg k1
    case measure => have := HK1.out; omega
    case rel => exact ⟨(x7_1), (wrap64 (x15_1 + 1)), sr, H', ⟨kl⟩, ⟨kR (Kd.R_mono (Kd.R_far (p := ⟨gb312, 3, none⟩) (Kd.R_far (p := ⟨gb312, 2, none⟩) (Kd.R_far (p := ⟨gb312, 1, none⟩) (Kd.R_far (p := ⟨gb312, 0, none⟩) (Kd.R_types HO_7.out BK312.out (by decide)) (fun _ hk => hk.2) (.int .i64 ((rd_T74 l0 x15_1).f0))) (fun _ hk => hk.2) (.int .i64 ((rd_T74 l0 x15_1).f1))) (fun _ hk => hk.2) (.int .i64 ((rd_T74 l0 x15_1).f2))) (fun _ hk => hk.2) (.bool ((rd_T74 l0 x15_1).f3))) (fun _ hk => trivial))⟩, ⟨bS⟩⟩
   subst c13
   replace H := iT H
   replace H := iteN H
   obtain ⟨c14, H⟩ := H
   have LMc14 := am c14
   clear c14
   obtain ⟨y314, hy314⟩ : ∃ y_ : List Int, y_ = (x7_1 ++ [(rd_T74 l0 x15_1).f1]) := ⟨_, rfl⟩
   replace H : (impl_placesOf.l0 k1 a1 l2 y314 l0 (l0.length : Int) (wrap64 (x15_1 + 1))) = some r := by first | (rw [hy314]; with_reducible exact H) | (have H2_ := (Option.bind_some _ _).symm.trans H; rw [hy314]; with_reducible exact H2_) | (have H2_ := (Option.bind_some _ _).symm.trans H; with_reducible exact H2_) | with_reducible exact H | (rw [hy314]; exact H) | exact H
   have Ny314 := am hy314
   clear hy314
   have H' := am H
   clear H
   have p311 : 0 ≤ (x15_1 : Int) := od
   have q311 : x15_1 < (l0.length : Int) := od
   obtain ⟨ad311, e311, hx311_0, hx311_1, hx311_2, hx311_3⟩ := at_T74 HR0.out x15_1 p311 q311
   (try rw [← Nbq12.out] at hx311_3)
   cases e311
   replace hx311_0 := cl HB hx311_0
   replace hx311_1 := cl HB hx311_1
   replace hx311_2 := cl HB hx311_2
   replace hx311_3 := cl HB hx311_3
   replace p311 := eq_true p311
   replace q311 := eq_true q311
   go_wp2_with (first | ((with_reducible refine gate_dst (N := 9) rfl ?_); refine bx 9 #[.int .i64 0, .int .i64 0, .int .i64 0, .bool false] 74 ?_; intro gb312 hg w15 hbox hb; replace HO_7 := am (Kd.R_below (kR HO_7.out) hb); have BK312 := am (hbox); have GW312 := am ((by rw [hg]; exact (below_size bB) : w.heap.size ≤ gb312)); have GE312 := am ((by rw [hg]; exact (below_size bB) : w.heap.size ≤ gb312)); replace HB := am (below_step bB hb); clear hb hbox hg; have hcz16_0 := bc BK312.out 0 (.int .i64 0); have hcz16_1 := bc BK312.out 1 (.int .i64 0); have hcz16_2 := bc BK312.out 2 (.int .i64 0); have hcz16_3 := bc BK312.out 3 (.bool false); have hfz16_0 := blk_frozen BK312.out 0; have hfz16_1 := blk_frozen BK312.out 1; have hfz16_2 := blk_frozen BK312.out 2; have hfz16_3 := blk_frozen BK312.out 3; have p313 : 0 ≤ (x15_1 : Int) := od; have q313 : x15_1 < (l2.length : Int) := od; obtain ⟨ad313, e313, hx313_0⟩ := Kd.at_bool HR2.out x15_1 p313 q313; (try rw [← Nbq12.out] at hx313_0); cases e313; have hn313_0 : ad313.block ≠ gb312 := Nat.ne_of_lt (Nat.lt_of_lt_of_le (by have := World.block_lt_of_cell? _ _ hx313_0; first | rwa [add_block] at this | exact this) GW312.out); have hn313_1 : ad313.block ≠ gb312 := Nat.ne_of_lt (Nat.lt_of_lt_of_le (by have := World.block_lt_of_cell? _ _ hx313_0; first | rwa [add_block] at this | exact this) GW312.out); have hn313_2 : ad313.block ≠ gb312 := Nat.ne_of_lt (Nat.lt_of_lt_of_le (by have := World.block_lt_of_cell? _ _ hx313_0; first | rwa [add_block] at this | exact this) GW312.out); have hn313_3 : ad313.block ≠ gb312 := Nat.ne_of_lt (Nat.lt_of_lt_of_le (by have := World.block_lt_of_cell? _ _ hx313_0; first | rwa [add_block] at this | exact this) GW312.out); replace hx313_0 := cl HB hx313_0; replace hx313_0 := (cell_far (p := ⟨gb312, 0, none⟩) (by first | (rw [add_block]; exact hn313_0) | (show (Addr.add _ _).block ≠ _; rw [add_block]; exact hn313_0) | exact hn313_0) (.int .i64 ((rd_T74 l0 x15_1).f0))).trans hx313_0; replace hx313_0 := (cell_far (p := ⟨gb312, 1, none⟩) (by first | (rw [add_block]; exact hn313_1) | (show (Addr.add _ _).block ≠ _; rw [add_block]; exact hn313_1) | exact hn313_1) (.int .i64 ((rd_T74 l0 x15_1).f1))).trans hx313_0; replace hx313_0 := (cell_far (p := ⟨gb312, 2, none⟩) (by first | (rw [add_block]; exact hn313_2) | (show (Addr.add _ _).block ≠ _; rw [add_block]; exact hn313_2) | exact hn313_2) (.int .i64 ((rd_T74 l0 x15_1).f2))).trans hx313_0; replace hx313_0 := (cell_far (p := ⟨gb312, 3, none⟩) (by first | (rw [add_block]; exact hn313_3) | (show (Addr.add _ _).block ≠ _; rw [add_block]; exact hn313_3) | exact hn313_3) (.bool ((rd_T74 l0 x15_1).f3))).trans hx313_0; clear hn313_0; clear hn313_1; clear hn313_2; clear hn313_3; replace p313 := eq_true p313; replace q313 := eq_true q313) | ((with_reducible refine gate_builtin (b := .append) (xs := #[.tmp 28, .tmp 31]) rfl ?_); at_builtin; refine Kd.R_append (Kd.int .i64) (w0 := w) w.heap.size rfl (.tmp 28) (.tmp 31) 22 2 (.int .i64 0) 8 rfl Tryd.underlying22 info2 rfl (by decide) (by omega) u7 x7_1 ((rd_T74 l0 x15_1).f1) [.int .i64 ((rd_T74 l0 x15_1).f1)] (fun _ => True) (fun _ => False) rfl (by first | (go_simp; done) | (go_simp; rfl)) ?aP (fun _ hk => hk.elim) ?aF ?aO ?aB ?aS ?aL ?_; (case aP => exact rfl); (case aB => exact bS); (case aF => exact (fun _ _ => trivial)); (case aO => exact (kR (Kd.R_mono (Kd.R_far (p := ⟨gb312, 3, none⟩) (Kd.R_far (p := ⟨gb312, 2, none⟩) (Kd.R_far (p := ⟨gb312, 1, none⟩) (Kd.R_far (p := ⟨gb312, 0, none⟩) (Kd.R_types HO_7.out BK312.out (by decide)) (fun _ hk => hk.2) (.int .i64 ((rd_T74 l0 x15_1).f0))) (fun _ hk => hk.2) (.int .i64 ((rd_T74 l0 x15_1).f1))) (fun _ hk => hk.2) (.int .i64 ((rd_T74 l0 x15_1).f2))) (fun _ hk => hk.2) (.bool ((rd_T74 l0 x15_1).f3))) (fun _ hk => trivial)))); (case aS => exact (below_size bS)); (case aL => have := LMc14.out; omega); intro v315 w17 ho hb hg hat; rw [← Ny314.out] at ho; replace BK312 := am (blk_grown (g := gb312) (o := .cells #[.int .i64 ((rd_T74 l0 x15_1).f0), .int .i64 ((rd_T74 l0 x15_1).f1), .int .i64 ((rd_T74 l0 x15_1).f2), .bool ((rd_T74 l0 x15_1).f3)] 74 (0, 0)) (by (with_reducible repeat (first | refine blk_drewN ?_ _ | refine blk_drew ?_ | refine blk_alloc ?_ _)); refine blk_put (cs := #[.int .i64 ((rd_T74 l0 x15_1).f0), .int .i64 ((rd_T74 l0 x15_1).f1), .int .i64 ((rd_T74 l0 x15_1).f2), .bool false]) ?_ 3 _ rfl; (with_reducible repeat (first | refine blk_drewN ?_ _ | refine blk_drew ?_ | refine blk_alloc ?_ _)); refine blk_put (cs := #[.int .i64 ((rd_T74 l0 x15_1).f0), .int .i64 ((rd_T74 l0 x15_1).f1), .int .i64 0, .bool false]) ?_ 2 _ rfl; (with_reducible repeat (first | refine blk_drewN ?_ _ | refine blk_drew ?_ | refine blk_alloc ?_ _)); refine blk_put (cs := #[.int .i64 ((rd_T74 l0 x15_1).f0), .int .i64 0, .int .i64 0, .bool false]) ?_ 1 _ rfl; (with_reducible repeat (first | refine blk_drewN ?_ _ | refine blk_drew ?_ | refine blk_alloc ?_ _)); refine blk_put (cs := #[.int .i64 0, .int .i64 0, .int .i64 0, .bool false]) ?_ 0 _ rfl; (with_reducible repeat (first | refine blk_drewN ?_ _ | refine blk_drew ?_ | refine blk_alloc ?_ _)); exact BK312.out) hg (Kd.R_ne HO_7.out BK312.out (by decide))); replace HB := am (hb); have HO316 := am (ho); clear HO_7; clear ho hb hg hat))
   go_roundg k1
   case measure => have := HK1.out; omega
   case rel => exact ⟨(y314), (wrap64 (x15_1 + 1)), sr, H', ⟨kl⟩, ⟨kR HO316.out⟩, ⟨bS⟩⟩
/-! ### impl_in: function 99 -/
def impl_in.f (a0 : Int) (a1 : Int) (a2 : Int) : Option (Bool) := if a0 ≥ a1 then (some (decide (a0 ≤ a2))) else (some false)
set_option maxHeartbeats 8000000 in
set_option maxRecDepth 100000 in
theorem impl_in.calls (a0 : Int) (a1 : Int) (a2 : Int) (r : Bool) (w : World) (h : impl_in.f a0 a1 a2 = some r) :
  Calls Tryd.prog 99 #[.int .i64 a0, .int .i64 a1, .int .i64 a2] w fun e w' => e = .returned (.bool r) ∧ Drawn0 w w' := by
 have H : (if a0 ≥ a1 then (some (decide (a0 ≤ a2))) else (some false)) = some r := h
 clear h
 by_cases c4 : a0 ≥ a1
 ·rw [if_pos c4] at H
  have c4b0 : decide (a1 ≤ a0) = true := decide_eq_true c4
  clear c4
  obtain rfl := Option.some.inj H
  go_enter Tryd.func99, Tryd.ntmps99
  go_wp2
  go_ret
  exact rdd
 rw [if_neg c4] at H
 have c4b0 : decide (a1 ≤ a0) = false := decide_eq_false c4
 clear c4
 obtain rfl := Option.some.inj H
 go_enter Tryd.func99, Tryd.ntmps99
 go_wp2
 go_ret
 exact rdd
/-! ### impl_block: function 125 -/
def impl_block.f (a0 : Int) : Option (Int × Int) := if a0 ≥ 512 then (if a0 < 1280 then (some (Go.bits .andNot .i64 a0 255, Go.bits .and .i64 a0 255)) else (some (0, 0))) else (some (0, 0))
set_option maxHeartbeats 8000000 in
set_option maxRecDepth 100000 in
theorem impl_block.calls (a0 : Int) (r1 : Int) (r2 : Int) (w : World) (h : impl_block.f a0 = some (r1, r2)) :
  Calls Tryd.prog 125 #[.int .i64 a0] w fun e w' => e = .returned (.tuple #[.int .i64 r1, .int .i64 r2]) ∧ Drawn0 w w' := by
 have H : (if a0 ≥ 512 then (if a0 < 1280 then (some (Go.bits .andNot .i64 a0 255, Go.bits .and .i64 a0 255)) else (some (0, 0))) else (some (0, 0))) = some (r1, r2) := h
 clear h
 by_cases c2 : a0 ≥ 512
 rotate_left
 ·rw [if_neg c2] at H
  have c2b0 : decide (512 ≤ a0) = false := decide_eq_false c2
  clear c2
  simp only [Option.some.injEq, Prod.mk.injEq] at H
  obtain ⟨rfl, rfl⟩ := H
  go_enter Tryd.func125, Tryd.ntmps125
  go_wp2
  go_ret2
  exact rdd
 rw [if_pos c2] at H
 have c2b0 : decide (512 ≤ a0) = true := decide_eq_true c2
 clear c2
 by_cases c3 : a0 < 1280
 ·rw [if_pos c3] at H
  have c3b0 : decide (a0 < 1280) = true := decide_eq_true c3
  clear c3
  simp only [Option.some.injEq, Prod.mk.injEq] at H
  obtain ⟨rfl, rfl⟩ := H
  go_enter Tryd.func125, Tryd.ntmps125
  go_wp2
  go_ret2
  exact rdd
 rw [if_neg c3] at H
 have c3b0 : decide (a0 < 1280) = false := decide_eq_false c3
 clear c3
 simp only [Option.some.injEq, Prod.mk.injEq] at H
 obtain ⟨rfl, rfl⟩ := H
 go_enter Tryd.func125, Tryd.ntmps125
 go_wp2
 go_ret2
 exact rdd
end Go.Proofs.YtmlhnpggjkoinaaDoor.PFnExactWordCuts

-- Written by a program of this session (wip/tools/myprint.py) that runs the kit's print with hooks of its own. Lean checks it.
import Derived.Test.YtmlhnpggjkoinaaDoorPFnExactGlyphsOfx0
import Derived.Test.YtmlhnpggjkoinaaDoorSlimMore
import Derived.Test.YtmlhnpggjkoinaaDoorPFnExactGlyphsOfx9
import Derived.Test.YtmlhnpggjkoinaaDoorPFnExactGlyphsOfx10
namespace Go.Proofs.YtmlhnpggjkoinaaDoor.PFnExactGlyphsOf
open Go.RowKit Go.Proofs.YtmlhnpggjkoinaaDoorW.PrintWords Go.Proofs.YtmlhnpggjkoinaaDoorW.PrintLast Go.Proofs.YtmlhnpggjkoinaaDoorW.PrintMore
attribute [local go_sem] max2_int min2_int max_two min_two max_three min_three max_four min_four   -- for this text's walks alone
set_option linter.unusedVariables false
set_option linter.unusedSimpArgs false

/-! ### impl_Category: function 85 -/
def impl_Category.f (k : Nat) (a0 : Int) : Option (Int) := (impl_kind.f k a0).bind fun bt332 => (some bt332.1)
theorem impl_Category.mono : ∀ a0 k, LeO (impl_Category.f k a0) (impl_Category.f (k + 1) a0) := by
 intro a0 k
 unfold impl_Category.f
 repeat' (first | (with_reducible first | exact impl_kind.mono .. | exact LeO.refl _ | exact LeO.none _ | refine LeO.ite ?_ ?_ | refine LeO.bind ?_ (fun _ => ?_)) | exact impl_kind.mono .. | exact LeO.none _ | refine LeO.ite ?_ ?_ | refine LeO.bind ?_ (fun _ => ?_))
set_option maxHeartbeats 8000000 in
set_option maxRecDepth 100000 in
theorem impl_Category.calls (k : Nat) (a0 : Int) (r : Int) (w : World) (h : impl_Category.f k a0 = some r) :
  Calls Tryd.prog 85 #[.int .i64 a0] w fun e w' => e = .returned (.int .i64 r) ∧ Drawn0 w w' := by
 have H : ((impl_kind.f k a0).bind fun bt332 => (some bt332.1)) = some r := h
 clear h
 replace H := Option.bind_eq_some_iff.mp H
 obtain ⟨⟨t332, t333⟩, A20, H⟩ := H
 replace H : (some t332) = some r := H
 have A2 := am A20
 clear A20
 obtain rfl := Option.some.inj H
 go_enter Tryd.func85, Tryd.ntmps85
 go_wp2_with (first | ((with_reducible refine gate_callee (f := 97) rfl ?_); refine gq 7 Tryd.func97 (impl_kind.calls k a0 t332 t333 _ A2.out) fun nd => ?_))
 go_ret
 exact rdd
/-! ### impl_isMark: function 118 -/
def impl_isMark.f (k : Nat) (a0 : Int) : Option (Bool) := (impl_Category.f k a0).bind fun t334 => (some (t334 == 3))
theorem impl_isMark.mono : ∀ a0 k, LeO (impl_isMark.f k a0) (impl_isMark.f (k + 1) a0) := by
 intro a0 k
 unfold impl_isMark.f
 repeat' (first | (with_reducible first | exact impl_Category.mono .. | exact LeO.refl _ | exact LeO.none _ | refine LeO.ite ?_ ?_ | refine LeO.bind ?_ (fun _ => ?_)) | exact impl_Category.mono .. | exact LeO.none _ | refine LeO.ite ?_ ?_ | refine LeO.bind ?_ (fun _ => ?_))
set_option maxHeartbeats 8000000 in
set_option maxRecDepth 100000 in
theorem impl_isMark.calls (k : Nat) (a0 : Int) (r : Bool) (w : World) (h : impl_isMark.f k a0 = some r) :
  Calls Tryd.prog 118 #[.int .i64 a0] w fun e w' => e = .returned (.bool r) ∧ Drawn0 w w' := by
 have H : ((impl_Category.f k a0).bind fun t334 => (some (t334 == 3))) = some r := h
 clear h
 obtain ⟨t334, A2, H⟩ := bb H
 obtain rfl := Option.some.inj H
 go_enter Tryd.func118, Tryd.ntmps118
 go_wp2_with (first | ((with_reducible refine gate_callee (f := 85) rfl ?_); refine gq 4 Tryd.func85 (impl_Category.calls k a0 t334 _ A2.out) fun nd => ?_))
 go_ret
 exact rdd
/-! ### impl_JoinsTo: function 104 -/
def impl_JoinsTo.f (k : Nat) (a0 : Int) : Option (Int) := (impl_in.f a0 1280 1311).bind fun t335 => (if t335 = true then ((some (([3, 2, 3, 0] : List Int) : List Int)).bind fun y336 => (if 0 ≤ (Int.tmod a0 4) then (if (Int.tmod a0 4) < (y336.length : Int) then (some (rd y336 (Int.tmod a0 4))) else (none)) else (none))) else (if a0 = 7936 then (some 3) else ((impl_isMark.f k a0).bind fun t340 => (if t340 = true then (some (-1)) else (some 0)))))
theorem impl_JoinsTo.mono : ∀ a0 k, LeO (impl_JoinsTo.f k a0) (impl_JoinsTo.f (k + 1) a0) := by
 intro a0 k
 unfold impl_JoinsTo.f
 repeat' (first | (with_reducible first | exact impl_isMark.mono .. | exact LeO.refl _ | exact LeO.none _ | refine LeO.ite ?_ ?_ | refine LeO.bind ?_ (fun _ => ?_)) | exact impl_isMark.mono .. | exact LeO.none _ | refine LeO.ite ?_ ?_ | refine LeO.bind ?_ (fun _ => ?_))
set_option maxHeartbeats 8000000 in
set_option maxRecDepth 100000 in
theorem impl_JoinsTo.calls (k : Nat) (a0 : Int) (r : Int) (w : World) (h : impl_JoinsTo.f k a0 = some r) :
  Calls Tryd.prog 104 #[.int .i64 a0] w fun e w' => e = .returned (.int .i64 r) ∧ Below w.heap.size w w' := by
 have HB := am (Below.refl w.heap.size w)
 have H : ((impl_in.f a0 1280 1311).bind fun t335 => (if t335 = true then ((some (([3, 2, 3, 0] : List Int) : List Int)).bind fun y336 => (if 0 ≤ (Int.tmod a0 4) then (if (Int.tmod a0 4) < (y336.length : Int) then (some (rd y336 (Int.tmod a0 4))) else (none)) else (none))) else (if a0 = 7936 then (some 3) else ((impl_isMark.f k a0).bind fun t340 => (if t340 = true then (some (-1)) else (some 0)))))) = some r := h
 clear h
 obtain ⟨t335, A2, H⟩ := bb H
 by_cases c3 : t335 = true
 ·subst c3
  replace H := iT H
  obtain ⟨y336, hy336⟩ : ∃ y_ : List Int, y_ = (([3, 2, 3, 0] : List Int)) := ⟨_, rfl⟩
  replace H : (if 0 ≤ (Int.tmod a0 4) then (if (Int.tmod a0 4) < (y336.length : Int) then (some (rd y336 (Int.tmod a0 4))) else (none)) else (none)) = some r := by first | (rw [hy336]; with_reducible exact H) | (have H2_ := (Option.bind_some _ _).symm.trans H; rw [hy336]; with_reducible exact H2_) | (have H2_ := (Option.bind_some _ _).symm.trans H; with_reducible exact H2_) | with_reducible exact H | (rw [hy336]; exact H) | exact H
  have Ny336 := am hy336
  clear hy336
  obtain ⟨ji4, hji4⟩ : ∃ j_ : Int, (Int.tmod a0 4) = j_ := ⟨_, rfl⟩
  replace H : (if 0 ≤ (ji4) then (if (ji4) < (y336.length : Int) then (some (rd y336 (ji4))) else (none)) else (none)) = some r := by first | (rw [hji4] at H; exact H) | (simp only [hji4] at H ⊢; exact H)
  (try rw [hji4] at A2)
  replace H := iteN H
  obtain ⟨c5, H⟩ := H
  have c5b0 : decide (0 ≤ (ji4)) = true := decide_eq_true c5
  clear c5
  replace H := iteN H
  obtain ⟨c6, H⟩ := H
  have c6b0 : decide ((ji4) < (y336.length : Int)) = true := decide_eq_true c6
  clear c6
  obtain rfl := Option.some.inj H
  go_enter Tryd.func104, Tryd.ntmps104
  go_wp2_with (first | ((with_reducible refine gate_callee (f := 99) rfl ?_); refine gq 5 Tryd.func99 (impl_in.calls a0 1280 1311 true _ A2.out) fun nd => ?_) | ((with_reducible refine gate_dst (N := 6) rfl ?_); refine Kd.R_lit (Kd.int .i64) _ 2 ?hg (N := 6) ?hd (xs := ([3, 2, 3, 0] : List Int)) (inner := [.int .i64 3, .int .i64 2, .int .i64 3, .int .i64 0]) (ok := fun _ => True) (okp := fun _ => True) ?hr ?hp (fun _ hk => hk) trivial (Below.refl _ _) (Nat.le_refl _) (by simp) ?_; (case hd => rfl); (case hg => rfl); (case hr => first | (go_simp; done) | (go_simp; rfl)); (case hp => exact (Reps.one (show Kd.M (Kd.int .i64) _ _ _ 3 [.int .i64 3] from rfl) (Reps.one (show Kd.M (Kd.int .i64) _ _ _ 2 [.int .i64 2] from rfl) (Reps.one (show Kd.M (Kd.int .i64) _ _ _ 3 [.int .i64 3] from rfl) (Reps.one (show Kd.M (Kd.int .i64) _ _ _ 0 [.int .i64 0] from rfl) (Reps.none _ _)))))); intro v337 w7 ho8 hb hg_ hnew_; clear hg_ hnew_; (first | rw [← Ny336.out] at ho8 | (simp only [Int.reduceToNat] at ho8; rw [← Ny336.out] at ho8)); have HO338 := am (Kd.R_lower ho8 (below_size bB)); replace HB := am (below_step bB hb); clear hb ho8; obtain ⟨Ao9, co9, eo9⟩ := Kd.R_slice HO338.out; subst eo9; have p339 : 0 ≤ ((ji4) : Int) := od; have q339 : (ji4) < (y336.length : Int) := od; obtain ⟨ad339, e339, hx339_0⟩ := Kd.at_int (Kd.R_reads' HO338.out).2.2 (ji4) p339 q339; cases e339; replace p339 := eq_true p339; replace q339 := eq_true q339))
  go_ret
  exact ⟨by first | rfl | (simp [errW_none, errW_some] <;> rfl) | (simp only [← hji4]; first | rfl | (simp [errW_none, errW_some] <;> rfl)) | (simp [*, errW_none, errW_some] <;> rfl), bB⟩
 replace c3 := Bool.eq_false_iff.mpr c3
 subst c3
 replace H := iF H
 by_cases c10 : a0 = 7936
 ·rw [if_pos c10] at H
  have c10b0 : (a0 == 7936) = true := beq_iff_eq.mpr c10
  have c10b1 : (a0 != 7936) = false := bne_eq_false_iff_eq.mpr c10
  clear c10
  obtain rfl := Option.some.inj H
  go_enter Tryd.func104, Tryd.ntmps104
  go_wp2_with (first | ((with_reducible refine gate_callee (f := 99) rfl ?_); refine gq 5 Tryd.func99 (impl_in.calls a0 1280 1311 false _ A2.out) fun nd => ?_))
  go_ret
  exact ⟨rv, bB⟩
 rw [if_neg c10] at H
 have c10b0 : (a0 == 7936) = false := beq_eq_false_iff_ne.mpr c10
 have c10b1 : (a0 != 7936) = true := bne_iff_ne.mpr c10
 obtain ⟨t340, A11, H⟩ := bb H
 by_cases c12 : t340 = true
 ·subst c12
  replace H := iT H
  obtain rfl := Option.some.inj H
  go_enter Tryd.func104, Tryd.ntmps104
  go_wp2_with (first | ((with_reducible refine gate_callee (f := 99) rfl ?_); refine gq 5 Tryd.func99 (impl_in.calls a0 1280 1311 false _ A2.out) fun nd => ?_) | ((with_reducible refine gate_callee (f := 118) rfl ?_); refine gq 16 Tryd.func118 (impl_isMark.calls k a0 true _ A11.out) fun nd => ?_))
  go_ret
  exact ⟨rv, bB⟩
 replace c12 := Bool.eq_false_iff.mpr c12
 subst c12
 replace H := iF H
 obtain rfl := Option.some.inj H
 go_enter Tryd.func104, Tryd.ntmps104
 go_wp2_with (first | ((with_reducible refine gate_callee (f := 99) rfl ?_); refine gq 5 Tryd.func99 (impl_in.calls a0 1280 1311 false _ A2.out) fun nd => ?_) | ((with_reducible refine gate_callee (f := 118) rfl ?_); refine gq 16 Tryd.func118 (impl_isMark.calls k a0 false _ A11.out) fun nd => ?_))
 go_ret
 exact ⟨rv, bB⟩
/-! ### impl_formsOf: function 74 -/
def impl_formsOf.l0 : Nat → Int → List Int → Int → Int → List Int → List Int → Option (List Int)
 | 0, _, _, _, _, _, _ => none
 | k + 1, x4, x13, x14, x15, x342000, x346000 => if x15 < x14 then (if 0 ≤ x15 then (if x15 < (x13.length : Int) then ((impl_JoinsTo.f k (rd x13 x15)).bind fun t347 => (if t347 < 0 then (impl_formsOf.l0 k x4 x13 x14 (wrap64 (x15 + 1)) x342000 x346000) else (if x4 ≥ 0 then (if 0 ≤ x4 then (if x4 < (x342000.length : Int) then ((impl_JoinsTo.f k (rd x342000 x4)).bind fun t349 => (if t349 = 3 then (if t347 ≥ 2 then ((impl_formsOf_1.f x4 x15 x342000 x346000).bind fun t350 => (impl_formsOf.l0 k x15 x13 x14 (wrap64 (x15 + 1)) x342000 t350)) else (impl_formsOf.l0 k x15 x13 x14 (wrap64 (x15 + 1)) x342000 x346000)) else (impl_formsOf.l0 k x15 x13 x14 (wrap64 (x15 + 1)) x342000 x346000))) else (none)) else (none)) else (impl_formsOf.l0 k x15 x13 x14 (wrap64 (x15 + 1)) x342000 x346000)))) else (none)) else (none)) else (some x346000)
def impl_formsOf.f (k : Nat) (l0 : List Int) : Option (List Int) := if 0 ≤ (l0.length : Int) then (if ((l0.length : Int) : Int).toNat ≤ 35184372088832 then (impl_formsOf.l0 k (-1) l0 (l0.length : Int) 0 l0 (List.replicate ((l0.length : Int) : Int).toNat 0)) else (none)) else (none)
theorem impl_formsOf.mono_l : ∀ k, (∀ y0 y1 y2 y3 y4 y5, LeO (impl_formsOf.l0 k y0 y1 y2 y3 y4 y5) (impl_formsOf.l0 (k + 1) y0 y1 y2 y3 y4 y5))
 | 0 => fun _ _ _ _ _ _ r h => by simp [impl_formsOf.l0] at h
 | k + 1 => by
  have ih0 := impl_formsOf.mono_l k
  ·intro y0 y1 y2 y3 y4 y5
   unfold impl_formsOf.l0
   repeat' (first | (with_reducible first | exact ih0 .. | exact impl_JoinsTo.mono .. | exact LeO.refl _ | exact LeO.none _ | refine LeO.ite ?_ ?_ | refine LeO.bind ?_ (fun _ => ?_)) | exact ih0 .. | exact impl_JoinsTo.mono .. | exact LeO.none _ | refine LeO.ite ?_ ?_ | refine LeO.bind ?_ (fun _ => ?_))
theorem impl_formsOf.mono : ∀ a0 k, LeO (impl_formsOf.f k a0) (impl_formsOf.f (k + 1) a0) := by
 intro a0 k
 have ih0 := impl_formsOf.mono_l k
 unfold impl_formsOf.f
 repeat' (first | (with_reducible first | exact ih0 .. | exact impl_JoinsTo.mono .. | exact LeO.refl _ | exact LeO.none _ | refine LeO.ite ?_ ?_ | refine LeO.bind ?_ (fun _ => ?_)) | exact ih0 .. | exact impl_JoinsTo.mono .. | exact LeO.none _ | refine LeO.ite ?_ ?_ | refine LeO.bind ?_ (fun _ => ?_))
set_option maxHeartbeats 8000000 in
set_option maxRecDepth 100000 in
theorem impl_formsOf.calls (k : Nat) (A0 : Option Addr) (c0 : Nat) (l0 : List Int) (r : List Int) (w : World) (hr0 : Kd.C (Kd.int .i64) w A0 l0.length l0) (hc0 : l0.length ≤ c0) (h : impl_formsOf.f k l0 = some r) :
  Calls Tryd.prog 74 #[.slice A0 l0.length c0] w fun e w' => ∃ v0_ : Value, e = .returned (v0_) ∧ Kd.R (Kd.int .i64) 2 w' w.heap.size (fun _ => True) v0_ r ∧ Below w.heap.size w w' := by
 have HR0 := am hr0
 have HC0 := am hc0
 clear hr0 hc0
 have HB := am (Below.refl w.heap.size w)
 have H : (if 0 ≤ (l0.length : Int) then (if ((l0.length : Int) : Int).toNat ≤ 35184372088832 then (impl_formsOf.l0 k (-1) l0 (l0.length : Int) 0 l0 (List.replicate ((l0.length : Int) : Int).toNat 0)) else (none)) else (none)) = some r := h
 clear h
 replace H := iteN H
 obtain ⟨c2, H⟩ := H
 have c2b0 := eq_true c2
 have c2b1 : decide (0 ≤ (l0.length : Int)) = true := decide_eq_true c2
 clear c2
 replace H := iteN H
 obtain ⟨c3, H⟩ := H
 have c3b0 := eq_true c3
 have c3b1 : decide (((l0.length : Int) : Int).toNat ≤ 35184372088832) = true := decide_eq_true c3
 clear c3
 obtain ⟨y342, hy342⟩ : ∃ y_ : List Int, y_ = (List.replicate ((l0.length : Int) : Int).toNat 0) := ⟨_, rfl⟩
 replace H : (impl_formsOf.l0 k (-1) l0 (l0.length : Int) 0 l0 y342) = some r := by first | (rw [hy342]; with_reducible exact H) | (have H2_ := (Option.bind_some _ _).symm.trans H; rw [hy342]; with_reducible exact H2_) | (have H2_ := (Option.bind_some _ _).symm.trans H; with_reducible exact H2_) | with_reducible exact H | (rw [hy342]; exact H) | exact H
 have Ny342 := am hy342
 clear hy342
 have H' := am H
 clear H
 have hmf_ : ∀ (fn : Fn) (first cap : Array Value) (w : World), (Instr.makeFunc fn first cap).run Tryd.prog w = .ok (.func fn first cap) w := fun _ _ _ _ => rfl
 go_enter Tryd.func74, Tryd.ntmps74
 go_wp2_with (first | ((with_reducible refine gate_dst (N := 1) rfl ?_); refine bx 1 #[.slice A0 l0.length c0] 22 ?_; intro gb341 hg w4 hbox hb; have BK341 := am (hbox); have GW341 := am ((by rw [hg]; exact (below_size bB) : w.heap.size ≤ gb341)); have GE341 := am ((by rw [hg]; exact (below_size bB) : w.heap.size ≤ gb341)); replace HB := am (below_step bB hb); clear hb hbox hg; have hcz5_0 := bc BK341.out 0 (.slice A0 l0.length c0); have hfz5_0 := blk_frozen BK341.out 0) | ((with_reducible refine gate_dst (N := 11) rfl ?_); refine Kd.R_make (Kd.int .i64) _ 2 rfl (N := 11) rfl 22 _ _ rfl (l0.length : Int) rfl rfl Tryd.underlying22 (.int .i64 0) 8 info2 rfl (by decide) (by omega) 0 (ok := fun _ => True) (okp := fun _ => True) rfl (fun _ hk => hk) trivial (od) (Nat.le_trans (Nat.mul_le_mul_right _ (od : (l0.length : Int).toNat ≤ 35184372088832)) (by omega)) (Below.refl _ _) (Nat.le_refl _) ?_; intro v343 w6 ho7 hb hg_ hnew_; clear hg_ hnew_; (first | rw [← Ny342.out] at ho7 | (simp only [Int.reduceToNat] at ho7; rw [← Ny342.out] at ho7)); have HO344 := am (Kd.R_lower ho7 (below_size bS)); replace BK341 := am (blk_below (g := gb341) (o := .cells #[.slice A0 l0.length c0] 22 (0, 0)) (bk BK341.out) hb); replace HB := am (below_step bS hb); clear hb ho7) | ((with_reducible refine gate_dst (N := 3) rfl ?_); refine bx 3 #[.slice none 0 0] 22 ?_; intro gb345 hg w8 hbox hb; replace HO344 := am (Kd.R_below (kR HO344.out) hb); have BK345 := am (hbox); have GW345 := am ((by rw [hg]; exact (below_size bS) : w.heap.size ≤ gb345)); have GE345 := am ((by rw [hg]; exact (below_size bS) : w.heap.size ≤ gb345)); replace HB := am (below_step bS hb); have NB341_345 := am (nl hg BK341.out); have NB345_341 := am NB341_345.out.symm; replace BK341 := am (blk_below (g := gb341) (o := .cells #[.slice A0 l0.length c0] 22 (0, 0)) (bk BK341.out) hb); clear hb hbox hg; obtain ⟨Ao9, co9, eo9⟩ := Kd.R_slice HO344.out; subst eo9; have hnb10 := NB345_341.out; have hnc10 := NB341_345.out; have hcz11_0 := bc BK345.out 0 (.slice none 0 0); have hfz11_0 := blk_frozen BK345.out 0; have hcz12_0 := bc BK341.out 0 (.slice A0 l0.length c0); have hfz12_0 := blk_frozen BK341.out 0))
 go_loopg [4, 15] k (fun kq v4 v15 w' => ∃ (x4_1 : Int) (x15_1 : Int) (x346000_1 : List Int) (u346000 : Value), v4 = .int .i64 x4_1 ∧ v15 = .int .i64 x15_1 ∧ Aside0 (impl_formsOf.l0 kq x4_1 l0 (l0.length : Int) x15_1 l0 x346000_1 = some r) ∧ Aside0 (kq ≤ k) ∧ Aside0 (Kd.R (Kd.int .i64) 2 w' w.heap.size (fun _ => True) u346000 x346000_1) ∧ Aside0 (w'.heap[gb341]? = some (.cells #[(.slice A0 l0.length c0)] 22 (0, 0))) ∧ Aside0 (w'.heap[gb345]? = some (.cells #[u346000] 22 (0, 0))) ∧ Aside0 (Below w.heap.size w w'))
 case atStart => exact ⟨((-1)), (0), (y342), (.slice Ao9 y342.length co9), sr, sr, H', ⟨Nat.le_refl _⟩, ⟨kR (Kd.R_mono (Kd.R_far (p := ⟨gb345, 0, none⟩) (Kd.R_types HO344.out BK345.out (by decide)) (fun _ hk => hk.2) (.slice Ao9 y342.length co9)) (fun _ hk => trivial))⟩, ⟨by (with_reducible repeat (first | refine blk_drewN ?_ _ | refine blk_drew ?_ | refine blk_alloc ?_ _)); refine blk_far ?_ NB341_345.out _; (with_reducible repeat (first | refine blk_drewN ?_ _ | refine blk_drew ?_ | refine blk_alloc ?_ _)); exact BK341.out⟩, ⟨by (with_reducible repeat (first | refine blk_drewN ?_ _ | refine blk_drew ?_ | refine blk_alloc ?_ _)); refine blk_put (cs := #[.slice none 0 0]) ?_ 0 _ rfl; (with_reducible repeat (first | refine blk_drewN ?_ _ | refine blk_drew ?_ | refine blk_alloc ?_ _)); exact BK345.out⟩, ⟨bS⟩⟩
 case round =>
  clear H'
  try clear c2b0
  try clear c2b1
  try clear c3b0
  try clear c3b1
  try clear hcz11_0
  try clear hcz12_0
  try clear hcz5_0
  try clear hfz11_0
  try clear hfz12_0
  try clear hfz5_0
  obtain ⟨x4_1, x15_1, x346000_1, u346000, rfl, rfl, HA, HK1, HO_346000, BK341, BK345, HB⟩ := hrel
  cases gk with
  | zero => exact absurd HA.out (by simp [impl_formsOf.l0])
  | succ k1 =>
   have H := HA.out
   clear HA
   simp only [impl_formsOf.l0] at H
   by_cases c13 : x15_1 < (l0.length : Int)
   rotate_left
   ·rw [if_neg c13] at H
    have c13b0 : decide (x15_1 < (l0.length : Int)) = false := decide_eq_false c13
    clear c13
    obtain rfl := Option.some.inj H
    have hnb43 := NB345_341.out
    have hnc43 := NB341_345.out
    have hcz44_0 := bc BK345.out 0 (u346000)
    have hfz44_0 := blk_frozen BK345.out 0
    go_wp2
    go_ret
    exact ⟨_, rv, kR HO_346000.out, bS⟩
   rw [if_pos c13] at H
   have c13b0 : decide (x15_1 < (l0.length : Int)) = true := decide_eq_true c13
   clear c13
   replace H := iteN H
   obtain ⟨c14, H⟩ := H
   have c14b0 : decide (0 ≤ x15_1) = true := decide_eq_true c14
   clear c14
   replace H := iteN H
   obtain ⟨c15, H⟩ := H
   have c15b0 : decide (x15_1 < (l0.length : Int)) = true := decide_eq_true c15
   clear c15
   obtain ⟨t347, A16, H⟩ := bb H
   by_cases c17 : t347 < 0
   ·rw [if_pos c17] at H
    have c17b0 : decide (t347 < 0) = true := decide_eq_true c17
    clear c17
    have H' := am H
    clear H
    have p346 : 0 ≤ (x15_1 : Int) := od
    have q346 : x15_1 < (l0.length : Int) := od
    obtain ⟨ad346, e346, hx346_0⟩ := Kd.at_int HR0.out x15_1 p346 q346
    cases e346
    replace hx346_0 := cl HB hx346_0
    replace p346 := eq_true p346
    replace q346 := eq_true q346
    go_wp2_with (first | ((with_reducible refine gate_callee (f := 104) rfl ?_); refine gl 21 Tryd.func104 #[.int .i64 (rd l0 x15_1)] ?_; (with_reducible refine (impl_JoinsTo.calls k1 (rd l0 x15_1) t347 _ A16.out).mono ?_); rintro e w18 ⟨rfl, hb⟩; refine ⟨_, rfl, ?_⟩; replace HO_346000 := am (Kd.R_below (kR HO_346000.out) hb); replace BK341 := am (blk_below (g := gb341) (o := .cells #[.slice (some ad346) l0.length c0] 22 (0, 0)) (bk BK341.out) hb); replace BK345 := am (blk_below (g := gb345) (o := .cells #[u346000] 22 (0, 0)) (bk BK345.out) hb); replace HB := am (below_step bS hb); (try clear hb)))
    go_roundg k1
    case measure => have := HK1.out; omega
    case rel => exact ⟨(x4_1), (wrap64 (x15_1 + 1)), (x346000_1), (u346000), sr, sr, H', ⟨kl⟩, ⟨kR HO_346000.out⟩, ⟨bk BK341.out⟩, ⟨bk BK345.out⟩, ⟨bS⟩⟩
   rw [if_neg c17] at H
   have c17b0 : decide (t347 < 0) = false := decide_eq_false c17
   clear c17
   by_cases c19 : x4_1 ≥ 0
   rotate_left
   ·rw [if_neg c19] at H
    have c19b0 : decide (0 ≤ x4_1) = false := decide_eq_false c19
    clear c19
    have H' := am H
    clear H
    have p346 : 0 ≤ (x15_1 : Int) := od
    have q346 : x15_1 < (l0.length : Int) := od
    obtain ⟨ad346, e346, hx346_0⟩ := Kd.at_int HR0.out x15_1 p346 q346
    cases e346
    replace hx346_0 := cl HB hx346_0
    replace p346 := eq_true p346
    replace q346 := eq_true q346
    go_wp2_with (first | ((with_reducible refine gate_callee (f := 104) rfl ?_); refine gl 21 Tryd.func104 #[.int .i64 (rd l0 x15_1)] ?_; (with_reducible refine (impl_JoinsTo.calls k1 (rd l0 x15_1) t347 _ A16.out).mono ?_); rintro e w42 ⟨rfl, hb⟩; refine ⟨_, rfl, ?_⟩; replace HO_346000 := am (Kd.R_below (kR HO_346000.out) hb); replace BK341 := am (blk_below (g := gb341) (o := .cells #[.slice (some ad346) l0.length c0] 22 (0, 0)) (bk BK341.out) hb); replace BK345 := am (blk_below (g := gb345) (o := .cells #[u346000] 22 (0, 0)) (bk BK345.out) hb); replace HB := am (below_step bS hb); (try clear hb)))
    go_roundg k1
    case measure => have := HK1.out; omega
    case rel => exact ⟨(x15_1), (wrap64 (x15_1 + 1)), (x346000_1), (u346000), sr, sr, H', ⟨kl⟩, ⟨kR HO_346000.out⟩, ⟨bk BK341.out⟩, ⟨bk BK345.out⟩, ⟨bS⟩⟩
   rw [if_pos c19] at H
   have c19b0 : decide (0 ≤ x4_1) = true := decide_eq_true c19
   clear c19
   replace H := iteN H
   obtain ⟨c20, H⟩ := H
   have c20b0 : decide (0 ≤ x4_1) = true := decide_eq_true c20
   clear c20
   replace H := iteN H
   obtain ⟨c21, H⟩ := H
   have c21b0 : decide (x4_1 < (l0.length : Int)) = true := decide_eq_true c21
   clear c21
   obtain ⟨t349, A22, H⟩ := bb H
   by_cases c23 : t349 = 3
   rotate_left
   ·rw [if_neg c23] at H
    have c23b0 : (t349 == 3) = false := beq_eq_false_iff_ne.mpr c23
    have c23b1 : (t349 != 3) = true := bne_iff_ne.mpr c23
    have H' := am H
    clear H
    have p346 : 0 ≤ (x15_1 : Int) := od
    have q346 : x15_1 < (l0.length : Int) := od
    obtain ⟨ad346, e346, hx346_0⟩ := Kd.at_int HR0.out x15_1 p346 q346
    cases e346
    replace hx346_0 := cl HB hx346_0
    replace p346 := eq_true p346
    replace q346 := eq_true q346
    go_wp2_with (first | ((with_reducible refine gate_callee (f := 104) rfl ?_); refine gl 21 Tryd.func104 #[.int .i64 (rd l0 x15_1)] ?_; (with_reducible refine (impl_JoinsTo.calls k1 (rd l0 x15_1) t347 _ A16.out).mono ?_); rintro e w38 ⟨rfl, hb⟩; refine ⟨_, rfl, ?_⟩; replace HO_346000 := am (Kd.R_below (kR HO_346000.out) hb); replace BK341 := am (blk_below (g := gb341) (o := .cells #[.slice (some ad346) l0.length c0] 22 (0, 0)) (bk BK341.out) hb); replace BK345 := am (blk_below (g := gb345) (o := .cells #[u346000] 22 (0, 0)) (bk BK345.out) hb); replace HB := am (below_step bS hb); (try clear hb); have hnb39 := NB341_345.out; have hnc39 := NB345_341.out; have hcz40_0 := bc BK341.out 0 (.slice (some ad346) l0.length c0); have hfz40_0 := blk_frozen BK341.out 0; have p348 : 0 ≤ (x4_1 : Int) := od; have q348 : x4_1 < (l0.length : Int) := od; obtain ⟨ad348, e348, hx348_0⟩ := Kd.at_int HR0.out x4_1 p348 q348; obtain rfl : ad346 = ad348 := (by injection e348); replace hx348_0 := cl HB hx348_0; replace p348 := eq_true p348; replace q348 := eq_true q348) | (go_at_call 104; (with_reducible refine (impl_JoinsTo.calls k1 (rd l0 x4_1) t349 _ A22.out).mono ?_); rintro e w41 ⟨rfl, hb⟩; replace HO_346000 := am (Kd.R_below (kR HO_346000.out) hb); replace BK341 := am (blk_below (g := gb341) (o := .cells #[.slice (some ad346) l0.length c0] 22 (0, 0)) (bk BK341.out) hb); replace BK345 := am (blk_below (g := gb345) (o := .cells #[u346000] 22 (0, 0)) (bk BK345.out) hb); replace HB := am (below_step bS hb); (try clear hb)))
    go_roundg k1
    case measure => have := HK1.out; omega
    case rel => exact ⟨(x15_1), (wrap64 (x15_1 + 1)), (x346000_1), (u346000), sr, sr, H', ⟨kl⟩, ⟨kR HO_346000.out⟩, ⟨bk BK341.out⟩, ⟨bk BK345.out⟩, ⟨bS⟩⟩
   rw [if_pos c23] at H
   have c23b0 : (t349 == 3) = true := beq_iff_eq.mpr c23
   have c23b1 : (t349 != 3) = false := bne_eq_false_iff_eq.mpr c23
   clear c23
   by_cases c24 : t347 ≥ 2
   rotate_left
   ·rw [if_neg c24] at H
    have c24b0 : decide (2 ≤ t347) = false := decide_eq_false c24
    clear c24
    have H' := am H
    clear H
    have p346 : 0 ≤ (x15_1 : Int) := od
    have q346 : x15_1 < (l0.length : Int) := od
    obtain ⟨ad346, e346, hx346_0⟩ := Kd.at_int HR0.out x15_1 p346 q346
    cases e346
    replace hx346_0 := cl HB hx346_0
    replace p346 := eq_true p346
    replace q346 := eq_true q346
    go_wp2_with (first | ((with_reducible refine gate_callee (f := 104) rfl ?_); refine gl 21 Tryd.func104 #[.int .i64 (rd l0 x15_1)] ?_; (with_reducible refine (impl_JoinsTo.calls k1 (rd l0 x15_1) t347 _ A16.out).mono ?_); rintro e w34 ⟨rfl, hb⟩; refine ⟨_, rfl, ?_⟩; replace HO_346000 := am (Kd.R_below (kR HO_346000.out) hb); replace BK341 := am (blk_below (g := gb341) (o := .cells #[.slice (some ad346) l0.length c0] 22 (0, 0)) (bk BK341.out) hb); replace BK345 := am (blk_below (g := gb345) (o := .cells #[u346000] 22 (0, 0)) (bk BK345.out) hb); replace HB := am (below_step bS hb); (try clear hb); have hnb35 := NB341_345.out; have hnc35 := NB345_341.out; have hcz36_0 := bc BK341.out 0 (.slice (some ad346) l0.length c0); have hfz36_0 := blk_frozen BK341.out 0; have p348 : 0 ≤ (x4_1 : Int) := od; have q348 : x4_1 < (l0.length : Int) := od; obtain ⟨ad348, e348, hx348_0⟩ := Kd.at_int HR0.out x4_1 p348 q348; obtain rfl : ad346 = ad348 := (by injection e348); replace hx348_0 := cl HB hx348_0; replace p348 := eq_true p348; replace q348 := eq_true q348) | (go_at_call 104; (with_reducible refine (impl_JoinsTo.calls k1 (rd l0 x4_1) t349 _ A22.out).mono ?_); rintro e w37 ⟨rfl, hb⟩; replace HO_346000 := am (Kd.R_below (kR HO_346000.out) hb); replace BK341 := am (blk_below (g := gb341) (o := .cells #[.slice (some ad346) l0.length c0] 22 (0, 0)) (bk BK341.out) hb); replace BK345 := am (blk_below (g := gb345) (o := .cells #[u346000] 22 (0, 0)) (bk BK345.out) hb); replace HB := am (below_step bS hb); (try clear hb)))
    go_roundg k1
    case measure => have := HK1.out; omega
    case rel => exact ⟨(x15_1), (wrap64 (x15_1 + 1)), (x346000_1), (u346000), sr, sr, H', ⟨kl⟩, ⟨kR HO_346000.out⟩, ⟨bk BK341.out⟩, ⟨bk BK345.out⟩, ⟨bS⟩⟩
   rw [if_pos c24] at H
   have c24b0 : decide (2 ≤ t347) = true := decide_eq_true c24
   clear c24
   obtain ⟨t350, A25, H⟩ := bb H
   have H' := am H
   clear H
   have p346 : 0 ≤ (x15_1 : Int) := od
   have q346 : x15_1 < (l0.length : Int) := od
   obtain ⟨ad346, e346, hx346_0⟩ := Kd.at_int HR0.out x15_1 p346 q346
   cases e346
   replace hx346_0 := cl HB hx346_0
   replace p346 := eq_true p346
   replace q346 := eq_true q346
   go_wp2_with (first | ((with_reducible refine gate_callee (f := 104) rfl ?_); refine gl 21 Tryd.func104 #[.int .i64 (rd l0 x15_1)] ?_; (with_reducible refine (impl_JoinsTo.calls k1 (rd l0 x15_1) t347 _ A16.out).mono ?_); rintro e w26 ⟨rfl, hb⟩; refine ⟨_, rfl, ?_⟩; replace HO_346000 := am (Kd.R_below (kR HO_346000.out) hb); replace BK341 := am (blk_below (g := gb341) (o := .cells #[.slice (some ad346) l0.length c0] 22 (0, 0)) (bk BK341.out) hb); replace BK345 := am (blk_below (g := gb345) (o := .cells #[u346000] 22 (0, 0)) (bk BK345.out) hb); replace HB := am (below_step bS hb); (try clear hb); have hnb27 := NB341_345.out; have hnc27 := NB345_341.out; have hcz28_0 := bc BK341.out 0 (.slice (some ad346) l0.length c0); have hfz28_0 := blk_frozen BK341.out 0; have p348 : 0 ≤ (x4_1 : Int) := od; have q348 : x4_1 < (l0.length : Int) := od; obtain ⟨ad348, e348, hx348_0⟩ := Kd.at_int HR0.out x4_1 p348 q348; obtain rfl : ad346 = ad348 := (by injection e348); replace hx348_0 := cl HB hx348_0; replace p348 := eq_true p348; replace q348 := eq_true q348) | (go_at_call 104; (with_reducible refine (impl_JoinsTo.calls k1 (rd l0 x4_1) t349 _ A22.out).mono ?_); rintro e w29 ⟨rfl, hb⟩; replace HO_346000 := am (Kd.R_below (kR HO_346000.out) hb); replace BK341 := am (blk_below (g := gb341) (o := .cells #[.slice (some ad346) l0.length c0] 22 (0, 0)) (bk BK341.out) hb); replace BK345 := am (blk_below (g := gb345) (o := .cells #[u346000] 22 (0, 0)) (bk BK345.out) hb); replace HB := am (below_step bS hb); (try clear hb); have hcz30_0 := bc BK341.out 0 (.slice (some ad346) l0.length c0); have hfz30_0 := blk_frozen BK341.out 0; have hcz31_0 := bc BK345.out 0 (u346000); have hfz31_0 := blk_frozen BK345.out 0; obtain ⟨Ao32, co32, eo32⟩ := Kd.R_slice HO_346000.out; subst eo32) | (go_at_call 103; (with_reducible refine (impl_formsOf_1.calls x4_1 x15_1 (some ad346) c0 l0 (fun k_ => some k_ = (.slice Ao32 x346000_1.length co32 : Value).ownBlock) (.slice Ao32 x346000_1.length co32) x346000_1 t350 gb341 gb345 w _ ?side1 ?side2 ?side3 ?side4 ?sg_gb341 ?sg_gb345 A25.out).mono ?_); (case sg_gb341 => exact fun W_ hk_ => (blk_cell (blk_kept (bk BK341.out) hk_ (fun hs_ => (fun e_ => (Kd.R_ne HO_346000.out BK341.out (by decide)) e_) hs_)) 0).trans rfl); (case sg_gb345 => exact fun W_ hk_ => (blk_cell (blk_kept (bk BK345.out) hk_ (fun hs_ => (fun e_ => (Kd.R_ne HO_346000.out BK345.out (by decide)) e_) hs_)) 0).trans rfl); (case side1 => repeat (first | (with_reducible first | exact HB.out | apply below_alloc | apply pw_below_drewN | apply below_drew1 | refine below_set ?_ GE341.out | refine below_set ?_ GE345.out) | exact HB.out)); (case side2 => exact Kd.C_kept_came (Kd.heap_int .i64) HR0.out bS (fun k_ hs_ => (fun e_ => Kd.R_base HO_346000.out k_ e_.symm) hs_)); (case side3 => exact HC0.out); (case side4 => exact Kd.R_tight rfl HO_346000.out); rintro e w33 ⟨rfl, hy0, hb, hkp⟩; replace BK341 := am (blk_kept (bk BK341.out) hkp (fun hs_ => (fun e_ => (Kd.R_ne HO_346000.out BK341.out (by decide)) e_) hs_)); replace BK345 := am (blk_kept (bk BK345.out) hkp (fun hs_ => (fun e_ => (Kd.R_ne HO_346000.out BK345.out (by decide)) e_) hs_)); replace HO_346000 := am (Kd.R_reok rfl hy0 (fun k_ e_ => HO_346000.out.1 k_ e_)); replace HB := am (hb); (try clear hb); (try clear hkp); (try clear hy0)))
   go_roundg k1
   case measure => have := HK1.out; omega
   case rel => exact ⟨(x15_1), (wrap64 (x15_1 + 1)), (t350), (.slice Ao32 x346000_1.length co32), sr, sr, H', ⟨kl⟩, ⟨kR HO_346000.out⟩, ⟨bk BK341.out⟩, ⟨bk BK345.out⟩, ⟨bS⟩⟩
/-! ### impl_isSyllable: function 120 -/
def impl_isSyllable.f (a0 : Int) : Option (Bool) := (impl_in.f a0 12288 23459).bind fun t351 => (some t351)
set_option maxHeartbeats 8000000 in
set_option maxRecDepth 100000 in
theorem impl_isSyllable.calls (a0 : Int) (r : Bool) (w : World) (h : impl_isSyllable.f a0 = some r) :
  Calls Tryd.prog 120 #[.int .i64 a0] w fun e w' => e = .returned (.bool r) ∧ Drawn0 w w' := by
 have H : ((impl_in.f a0 12288 23459).bind fun t351 => (some t351)) = some r := h
 clear h
 obtain ⟨t351, A2, H⟩ := bb H
 obtain rfl := Option.some.inj H
 go_enter Tryd.func120, Tryd.ntmps120
 go_wp2_with (first | ((with_reducible refine gate_callee (f := 99) rfl ?_); refine gq 4 Tryd.func99 (impl_in.calls a0 12288 23459 t351 _ A2.out) fun nd => ?_))
 go_ret
 exact rdd
/-! ### impl_isOpen: function 119 -/
def impl_isOpen.f (a0 : Int) : Option (Bool) := (impl_isSyllable.f a0).bind fun t352 => (if t352 = true then (some ((Int.tmod (wrap64 (a0 - 12288)) 28) == 0)) else (some false))
set_option maxHeartbeats 8000000 in
set_option maxRecDepth 100000 in
theorem impl_isOpen.calls (a0 : Int) (r : Bool) (w : World) (h : impl_isOpen.f a0 = some r) :
  Calls Tryd.prog 119 #[.int .i64 a0] w fun e w' => e = .returned (.bool r) ∧ Drawn0 w w' := by
 have H : ((impl_isSyllable.f a0).bind fun t352 => (if t352 = true then (some ((Int.tmod (wrap64 (a0 - 12288)) 28) == 0)) else (some false))) = some r := h
 clear h
 obtain ⟨t352, A2, H⟩ := bb H
 by_cases c3 : t352 = true
 ·subst c3
  replace H := iT H
  obtain rfl := Option.some.inj H
  go_enter Tryd.func119, Tryd.ntmps119
  go_wp2_with (first | ((with_reducible refine gate_callee (f := 120) rfl ?_); refine gq 4 Tryd.func120 (impl_isSyllable.calls a0 true _ A2.out) fun nd => ?_))
  go_ret
  exact rdd
 replace c3 := Bool.eq_false_iff.mpr c3
 subst c3
 replace H := iF H
 obtain rfl := Option.some.inj H
 go_enter Tryd.func119, Tryd.ntmps119
 go_wp2_with (first | ((with_reducible refine gate_callee (f := 120) rfl ?_); refine gq 4 Tryd.func120 (impl_isSyllable.calls a0 false _ A2.out) fun nd => ?_))
 go_ret
 exact rdd
/-! ### impl_isPicture: function 121 -/
def impl_isPicture.f (a0 : Int) : Option (Bool) := (impl_in.f a0 7680 7743).bind fun t353 => (some t353)
set_option maxHeartbeats 8000000 in
set_option maxRecDepth 100000 in
theorem impl_isPicture.calls (a0 : Int) (r : Bool) (w : World) (h : impl_isPicture.f a0 = some r) :
  Calls Tryd.prog 121 #[.int .i64 a0] w fun e w' => e = .returned (.bool r) ∧ Drawn0 w w' := by
 have H : ((impl_in.f a0 7680 7743).bind fun t353 => (some t353)) = some r := h
 clear h
 obtain ⟨t353, A2, H⟩ := bb H
 obtain rfl := Option.some.inj H
 go_enter Tryd.func121, Tryd.ntmps121
 go_wp2_with (first | ((with_reducible refine gate_callee (f := 99) rfl ?_); refine gq 4 Tryd.func99 (impl_in.calls a0 7680 7743 t353 _ A2.out) fun nd => ?_))
 go_ret
 exact rdd
/-! ### impl_charClass: function 86 -/
mutual
def impl_charClass.j0 : Nat → Int → Bool → Option (Int)
 | 0, _, _ => none
 | k + 1, x0, x3 => if x3 = true then (some 1) else ((impl_isMark.f k x0).bind fun t355 => (if t355 = true then (impl_charClass.j1 k x0 true) else (if x0 = 7936 then (impl_charClass.j1 k x0 true) else ((impl_in.f x0 7744 7748).bind fun t356 => (impl_charClass.j1 k x0 t356)))))
def impl_charClass.j1 : Nat → Int → Bool → Option (Int)
 | 0, _, _ => none
 | k + 1, x0, x11 => if x11 = true then (some 2) else ((impl_in.f x0 1792 1810).bind fun t357 => (if t357 = true then (some 3) else ((impl_in.f x0 1824 1844).bind fun t358 => (if t358 = true then (some 4) else ((impl_in.f x0 1857 1883).bind fun t359 => (if t359 = true then (some 5) else ((impl_isOpen.f x0).bind fun t360 => (if t360 = true then (some 6) else ((impl_isSyllable.f x0).bind fun t361 => (if t361 = true then (some 7) else ((impl_isPicture.f x0).bind fun t362 => (if t362 = true then (some 8) else ((impl_in.f x0 7760 7785).bind fun t363 => (if t363 = true then (some 9) else (some 0)))))))))))))))
end
def impl_charClass.f (k : Nat) (a0 : Int) : Option (Int) := (impl_Category.f k a0).bind fun t354 => (if t354 = 1 then (impl_charClass.j0 k a0 true) else (impl_charClass.j0 k a0 (a0 == 7954)))
theorem impl_charClass.mono_l : ∀ k, (∀ y0 y1, LeO (impl_charClass.j0 k y0 y1) (impl_charClass.j0 (k + 1) y0 y1)) ∧ (∀ y0 y1, LeO (impl_charClass.j1 k y0 y1) (impl_charClass.j1 (k + 1) y0 y1))
 | 0 => ⟨fun _ _ r h => by simp [impl_charClass.j0] at h, fun _ _ r h => by simp [impl_charClass.j1] at h⟩
 | k + 1 => by
  obtain ⟨ih0, ih1⟩ := impl_charClass.mono_l k
  refine ⟨fun y0 y1 => ?_, fun y0 y1 => ?_⟩
  all_goals (first | unfold impl_charClass.j0 | unfold impl_charClass.j1)
  all_goals (repeat' (first | (with_reducible first | exact ih0 .. | exact ih1 .. | exact impl_Category.mono .. | exact impl_isMark.mono .. | exact LeO.refl _ | exact LeO.none _ | refine LeO.ite ?_ ?_ | refine LeO.bind ?_ (fun _ => ?_)) | exact ih0 .. | exact ih1 .. | exact impl_Category.mono .. | exact impl_isMark.mono .. | exact LeO.none _ | refine LeO.ite ?_ ?_ | refine LeO.bind ?_ (fun _ => ?_)))
theorem impl_charClass.mono : ∀ a0 k, LeO (impl_charClass.f k a0) (impl_charClass.f (k + 1) a0) := by
 intro a0 k
 obtain ⟨ih0, ih1⟩ := impl_charClass.mono_l k
 unfold impl_charClass.f
 repeat' (first | (with_reducible first | exact ih0 .. | exact ih1 .. | exact impl_Category.mono .. | exact impl_isMark.mono .. | exact LeO.refl _ | exact LeO.none _ | refine LeO.ite ?_ ?_ | refine LeO.bind ?_ (fun _ => ?_)) | exact ih0 .. | exact ih1 .. | exact impl_Category.mono .. | exact impl_isMark.mono .. | exact LeO.none _ | refine LeO.ite ?_ ?_ | refine LeO.bind ?_ (fun _ => ?_))
set_option maxHeartbeats 8000000 in
set_option maxRecDepth 100000 in
theorem impl_charClass.calls (k : Nat) (a0 : Int) (r : Int) (w : World) (h : impl_charClass.f k a0 = some r) :
  Calls Tryd.prog 86 #[.int .i64 a0] w fun e w' => e = .returned (.int .i64 r) ∧ Drawn0 w w' := by
 have H : ((impl_Category.f k a0).bind fun t354 => (if t354 = 1 then (impl_charClass.j0 k a0 true) else (impl_charClass.j0 k a0 (a0 == 7954)))) = some r := h
 clear h
 have HC2 := am H
 clear H
 go_enter Tryd.func86, Tryd.ntmps86
 go_upto_region 1 with (fail)
 go_cut [3] (fun v3 wc => ∃ (kq : Nat) (x3_1 : Bool), v3 = .bool x3_1 ∧ Aside0 (impl_charClass.j0 kq a0 x3_1 = some r) ∧ Aside0 (kq ≤ k) ∧ Drawn0 w wc)
 case first =>
  have H := HC2.out
  clear HC2
  obtain ⟨t354, A3, H⟩ := bb H
  by_cases c4 : t354 = 1
  rotate_left
  ·rw [if_neg c4] at H
   have c4b0 : (t354 == 1) = false := beq_eq_false_iff_ne.mpr c4
   have c4b1 : (t354 != 1) = true := bne_iff_ne.mpr c4
   (first | rw [c4b0] | (simp only [i64_w, i32_w]; rw [c4b0]) | skip)
   have H' := am H
   clear H
   go_wp2_with (first | ((with_reducible refine gate_callee (f := 85) rfl ?_); refine gq 5 Tryd.func85 (impl_Category.calls k a0 t354 _ A3.out) fun nd => ?_))
   go_meet
   case rel => exact ⟨_, ((a0 == 7954)), sr, H', ⟨kl⟩, dz⟩
  rw [if_pos c4] at H
  have c4b0 : (t354 == 1) = true := beq_iff_eq.mpr c4
  have c4b1 : (t354 != 1) = false := bne_eq_false_iff_eq.mpr c4
  clear c4
  (first | rw [c4b0] | (simp only [i64_w, i32_w]; rw [c4b0]) | skip)
  have H' := am H
  clear H
  go_wp2_with (first | ((with_reducible refine gate_callee (f := 85) rfl ?_); refine gq 5 Tryd.func85 (impl_Category.calls k a0 t354 _ A3.out) fun nd => ?_))
  go_meet
  case rel => exact ⟨_, (true), sr, H', ⟨kl⟩, dz⟩
 case rest =>
  clear HC2
  obtain ⟨kq, x3_1, rfl, HA, HJ1, ⟨mc1, rfl⟩⟩ := hcut
  cases kq with
  | zero => exact absurd HA.out (by simp [impl_charClass.j0])
  | succ kj1 =>
   have H := HA.out
   clear HA
   simp only [impl_charClass.j0] at H
   by_cases c5 : x3_1 = true
   ·subst c5
    replace H := iT H
    obtain rfl := Option.some.inj H
    go_wp2
    go_ret
    exact rdd
   replace c5 := Bool.eq_false_iff.mpr c5
   subst c5
   replace H := iF H
   have HC6 := am H
   clear H
   go_upto_region 3 with (fail)
   go_cut [11] (fun v11 wc => ∃ (kq : Nat) (x11_5 : Bool), v11 = .bool x11_5 ∧ Aside0 (impl_charClass.j1 kq a0 x11_5 = some r) ∧ Aside0 (kq ≤ kj1) ∧ Drawn0 w wc)
   case first =>
    have H := HC6.out
    clear HC6
    obtain ⟨t355, A7, H⟩ := bb H
    by_cases c8 : t355 = true
    ·subst c8
     replace H := iT H
     have H' := am H
     clear H
     go_wp2_with (first | ((with_reducible refine gate_callee (f := 118) rfl ?_); refine gq 13 Tryd.func118 (impl_isMark.calls kj1 a0 true _ A7.out) fun nd => ?_))
     go_meet
     case rel => exact ⟨_, (true), sr, H', ⟨kl⟩, dz⟩
    replace c8 := Bool.eq_false_iff.mpr c8
    subst c8
    replace H := iF H
    by_cases c9 : a0 = 7936
    ·rw [if_pos c9] at H
     have c9b0 : (a0 == 7936) = true := beq_iff_eq.mpr c9
     have c9b1 : (a0 != 7936) = false := bne_eq_false_iff_eq.mpr c9
     clear c9
     (first | rw [c9b0] | (simp only [i64_w, i32_w]; rw [c9b0]) | skip)
     have H' := am H
     clear H
     go_wp2_with (first | ((with_reducible refine gate_callee (f := 118) rfl ?_); refine gq 13 Tryd.func118 (impl_isMark.calls kj1 a0 false _ A7.out) fun nd => ?_))
     go_meet
     case rel => exact ⟨_, (true), sr, H', ⟨kl⟩, dz⟩
    rw [if_neg c9] at H
    have c9b0 : (a0 == 7936) = false := beq_eq_false_iff_ne.mpr c9
    have c9b1 : (a0 != 7936) = true := bne_iff_ne.mpr c9
    (first | rw [c9b0] | (simp only [i64_w, i32_w]; rw [c9b0]) | skip)
    obtain ⟨t356, A10, H⟩ := bb H
    have H' := am H
    clear H
    go_wp2_with (first | ((with_reducible refine gate_callee (f := 118) rfl ?_); refine gq 13 Tryd.func118 (impl_isMark.calls kj1 a0 false _ A7.out) fun nd => ?_) | (go_at_call 99; (with_reducible refine (impl_in.calls a0 7744 7748 t356 _ A10.out).mono ?_); rintro e w' ⟨rfl, ⟨nd, rfl⟩⟩))
    go_meet
    case rel => exact ⟨_, (t356), sr, H', ⟨kl⟩, dz⟩
   case rest =>
    clear HC6
    try clear c5
    obtain ⟨kq, x11_5, rfl, HA, HJ5, ⟨mc5, rfl⟩⟩ := hcut
    cases kq with
    | zero => exact absurd HA.out (by simp [impl_charClass.j1])
    | succ kj5 =>
     have H := HA.out
     clear HA
     simp only [impl_charClass.j1] at H
     by_cases c11 : x11_5 = true
     ·subst c11
      replace H := iT H
      obtain rfl := Option.some.inj H
      go_wp2
      go_ret
      exact rdd
     replace c11 := Bool.eq_false_iff.mpr c11
     subst c11
     replace H := iF H
     obtain ⟨t357, A12, H⟩ := bb H
     by_cases c13 : t357 = true
     ·subst c13
      replace H := iT H
      obtain rfl := Option.some.inj H
      go_wp2_with (first | ((with_reducible refine gate_callee (f := 99) rfl ?_); refine gq 24 Tryd.func99 (impl_in.calls a0 1792 1810 true _ A12.out) fun nd => ?_))
      go_ret
      exact rdd
     replace c13 := Bool.eq_false_iff.mpr c13
     subst c13
     replace H := iF H
     obtain ⟨t358, A14, H⟩ := bb H
     by_cases c15 : t358 = true
     ·subst c15
      replace H := iT H
      obtain rfl := Option.some.inj H
      go_wp2_with (first | ((with_reducible refine gate_callee (f := 99) rfl ?_); refine gq 24 Tryd.func99 (impl_in.calls a0 1792 1810 false _ A12.out) fun nd => ?_) | ((with_reducible refine gate_callee (f := 99) rfl ?_); refine gq 27 Tryd.func99 (impl_in.calls a0 1824 1844 true _ A14.out) fun nd => ?_))
      go_ret
      exact rdd
     replace c15 := Bool.eq_false_iff.mpr c15
     subst c15
     replace H := iF H
     obtain ⟨t359, A16, H⟩ := bb H
     by_cases c17 : t359 = true
     ·subst c17
      replace H := iT H
      obtain rfl := Option.some.inj H
      go_wp2_with (first | ((with_reducible refine gate_callee (f := 99) rfl ?_); refine gq 24 Tryd.func99 (impl_in.calls a0 1792 1810 false _ A12.out) fun nd => ?_) | ((with_reducible refine gate_callee (f := 99) rfl ?_); refine gq 27 Tryd.func99 (impl_in.calls a0 1824 1844 false _ A14.out) fun nd => ?_) | ((with_reducible refine gate_callee (f := 99) rfl ?_); refine gq 30 Tryd.func99 (impl_in.calls a0 1857 1883 true _ A16.out) fun nd => ?_))
      go_ret
      exact rdd
     replace c17 := Bool.eq_false_iff.mpr c17
     subst c17
     replace H := iF H
     obtain ⟨t360, A18, H⟩ := bb H
     by_cases c19 : t360 = true
     ·subst c19
      replace H := iT H
      obtain rfl := Option.some.inj H
      go_wp2_with (first | ((with_reducible refine gate_callee (f := 99) rfl ?_); refine gq 24 Tryd.func99 (impl_in.calls a0 1792 1810 false _ A12.out) fun nd => ?_) | ((with_reducible refine gate_callee (f := 99) rfl ?_); refine gq 27 Tryd.func99 (impl_in.calls a0 1824 1844 false _ A14.out) fun nd => ?_) | ((with_reducible refine gate_callee (f := 99) rfl ?_); refine gq 30 Tryd.func99 (impl_in.calls a0 1857 1883 false _ A16.out) fun nd => ?_) | ((with_reducible refine gate_callee (f := 119) rfl ?_); refine gq 33 Tryd.func119 (impl_isOpen.calls a0 true _ A18.out) fun nd => ?_))
      go_ret
      exact rdd
     replace c19 := Bool.eq_false_iff.mpr c19
     subst c19
     replace H := iF H
     obtain ⟨t361, A20, H⟩ := bb H
     by_cases c21 : t361 = true
     ·subst c21
      replace H := iT H
      obtain rfl := Option.some.inj H
      go_wp2_with (first | ((with_reducible refine gate_callee (f := 99) rfl ?_); refine gq 24 Tryd.func99 (impl_in.calls a0 1792 1810 false _ A12.out) fun nd => ?_) | ((with_reducible refine gate_callee (f := 99) rfl ?_); refine gq 27 Tryd.func99 (impl_in.calls a0 1824 1844 false _ A14.out) fun nd => ?_) | ((with_reducible refine gate_callee (f := 99) rfl ?_); refine gq 30 Tryd.func99 (impl_in.calls a0 1857 1883 false _ A16.out) fun nd => ?_) | ((with_reducible refine gate_callee (f := 119) rfl ?_); refine gq 33 Tryd.func119 (impl_isOpen.calls a0 false _ A18.out) fun nd => ?_) | ((with_reducible refine gate_callee (f := 120) rfl ?_); refine gq 36 Tryd.func120 (impl_isSyllable.calls a0 true _ A20.out) fun nd => ?_))
      go_ret
      exact rdd
     replace c21 := Bool.eq_false_iff.mpr c21
     subst c21
     replace H := iF H
     obtain ⟨t362, A22, H⟩ := bb H
     by_cases c23 : t362 = true
     ·subst c23
      replace H := iT H
      obtain rfl := Option.some.inj H
      go_wp2_with (first | ((with_reducible refine gate_callee (f := 99) rfl ?_); refine gq 24 Tryd.func99 (impl_in.calls a0 1792 1810 false _ A12.out) fun nd => ?_) | ((with_reducible refine gate_callee (f := 99) rfl ?_); refine gq 27 Tryd.func99 (impl_in.calls a0 1824 1844 false _ A14.out) fun nd => ?_) | ((with_reducible refine gate_callee (f := 99) rfl ?_); refine gq 30 Tryd.func99 (impl_in.calls a0 1857 1883 false _ A16.out) fun nd => ?_) | ((with_reducible refine gate_callee (f := 119) rfl ?_); refine gq 33 Tryd.func119 (impl_isOpen.calls a0 false _ A18.out) fun nd => ?_) | ((with_reducible refine gate_callee (f := 120) rfl ?_); refine gq 36 Tryd.func120 (impl_isSyllable.calls a0 false _ A20.out) fun nd => ?_) | ((with_reducible refine gate_callee (f := 121) rfl ?_); refine gq 39 Tryd.func121 (impl_isPicture.calls a0 true _ A22.out) fun nd => ?_))
      go_ret
      exact rdd
     replace c23 := Bool.eq_false_iff.mpr c23
     subst c23
     replace H := iF H
     obtain ⟨t363, A24, H⟩ := bb H
     by_cases c25 : t363 = true
     ·subst c25
      replace H := iT H
      obtain rfl := Option.some.inj H
      go_wp2_with (first | ((with_reducible refine gate_callee (f := 99) rfl ?_); refine gq 24 Tryd.func99 (impl_in.calls a0 1792 1810 false _ A12.out) fun nd => ?_) | ((with_reducible refine gate_callee (f := 99) rfl ?_); refine gq 27 Tryd.func99 (impl_in.calls a0 1824 1844 false _ A14.out) fun nd => ?_) | ((with_reducible refine gate_callee (f := 99) rfl ?_); refine gq 30 Tryd.func99 (impl_in.calls a0 1857 1883 false _ A16.out) fun nd => ?_) | ((with_reducible refine gate_callee (f := 119) rfl ?_); refine gq 33 Tryd.func119 (impl_isOpen.calls a0 false _ A18.out) fun nd => ?_) | ((with_reducible refine gate_callee (f := 120) rfl ?_); refine gq 36 Tryd.func120 (impl_isSyllable.calls a0 false _ A20.out) fun nd => ?_) | ((with_reducible refine gate_callee (f := 121) rfl ?_); refine gq 39 Tryd.func121 (impl_isPicture.calls a0 false _ A22.out) fun nd => ?_) | ((with_reducible refine gate_callee (f := 99) rfl ?_); refine gq 42 Tryd.func99 (impl_in.calls a0 7760 7785 true _ A24.out) fun nd => ?_))
      go_ret
      exact rdd
     replace c25 := Bool.eq_false_iff.mpr c25
     subst c25
     replace H := iF H
     obtain rfl := Option.some.inj H
     go_wp2_with (first | ((with_reducible refine gate_callee (f := 99) rfl ?_); refine gq 24 Tryd.func99 (impl_in.calls a0 1792 1810 false _ A12.out) fun nd => ?_) | ((with_reducible refine gate_callee (f := 99) rfl ?_); refine gq 27 Tryd.func99 (impl_in.calls a0 1824 1844 false _ A14.out) fun nd => ?_) | ((with_reducible refine gate_callee (f := 99) rfl ?_); refine gq 30 Tryd.func99 (impl_in.calls a0 1857 1883 false _ A16.out) fun nd => ?_) | ((with_reducible refine gate_callee (f := 119) rfl ?_); refine gq 33 Tryd.func119 (impl_isOpen.calls a0 false _ A18.out) fun nd => ?_) | ((with_reducible refine gate_callee (f := 120) rfl ?_); refine gq 36 Tryd.func120 (impl_isSyllable.calls a0 false _ A20.out) fun nd => ?_) | ((with_reducible refine gate_callee (f := 121) rfl ?_); refine gq 39 Tryd.func121 (impl_isPicture.calls a0 false _ A22.out) fun nd => ?_) | ((with_reducible refine gate_callee (f := 99) rfl ?_); refine gq 42 Tryd.func99 (impl_in.calls a0 7760 7785 false _ A24.out) fun nd => ?_))
     go_ret
     exact rdd
end Go.Proofs.YtmlhnpggjkoinaaDoor.PFnExactGlyphsOf

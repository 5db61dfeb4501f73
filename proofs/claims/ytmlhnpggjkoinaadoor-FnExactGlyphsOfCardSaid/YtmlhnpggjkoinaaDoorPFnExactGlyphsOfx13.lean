-- Written by a program of this session (wip/tools/myprint.py) that runs the kit's print with hooks of its own. Lean checks it.
import Derived.Test.YtmlhnpggjkoinaaDoorPFnExactGlyphsOfx0
import Derived.Test.YtmlhnpggjkoinaaDoorSlimMore
import Derived.Test.YtmlhnpggjkoinaaDoorPFnExactGlyphsOfx9
import Derived.Test.YtmlhnpggjkoinaaDoorPFnExactGlyphsOfx11
import Derived.Test.YtmlhnpggjkoinaaDoorPFnExactGlyphsOfx12
namespace Go.Proofs.YtmlhnpggjkoinaaDoor.PFnExactGlyphsOf
open Go.RowKit Go.Proofs.YtmlhnpggjkoinaaDoorW.PrintWords Go.Proofs.YtmlhnpggjkoinaaDoorW.PrintLast Go.Proofs.YtmlhnpggjkoinaaDoorW.PrintMore
attribute [local go_sem] max2_int min2_int max_two min_two max_three min_three max_four min_four   -- for this text's walks alone
set_option linter.unusedVariables false
set_option linter.unusedSimpArgs false

/-! ### impl_charCuts: function 81 -/
mutual
def impl_charCuts.l0 : Nat → List Int → List Bool → List Int → Int → Int → Bool → Bool → Int → Option (List Bool)
 | 0, _, _, _, _, _, _, _, _ => none
 | k + 1, x0, x3, x15, x16, x17, x369000, x370000, x371000 => if x17 < x16 then (if 0 ≤ x17 then (if x17 < (x15.length : Int) then ((impl_charClass.f k (rd x15 x17)).bind fun t373 => (if x17 > 0 then (if 0 ≤ (wrap64 (x17 - 1)) then (if (wrap64 (x17 - 1)) < (x0.length : Int) then ((impl_charClass.f k (rd x0 (wrap64 (x17 - 1)))).bind fun t377 => ((impl_charCuts_1.f k (rd x0 (wrap64 (x17 - 1))) (rd x15 x17) t373 t377 x370000 x369000 x371000).bind fun t379 => (if x17 < (x3.length : Int) then (impl_charCuts.j1 k x0 (x3.set (x17 : Int).toNat t379) x15 x16 x17 x369000 x370000 x371000 (rd x15 x17) t373) else (none)))) else (none)) else (none)) else (impl_charCuts.j1 k x0 x3 x15 x16 x17 x369000 x370000 x371000 (rd x15 x17) t373))) else (none)) else (none)) else (some x3)
def impl_charCuts.j1 : Nat → List Int → List Bool → List Int → Int → Int → Bool → Bool → Int → Int → Int → Option (List Bool)
 | 0, _, _, _, _, _, _, _, _, _, _ => none
 | k + 1, x0, x3, x15, x16, x17, x369000, x370000, x371000, x373000, x375000 => if x375000 = 2 then (if x373000 = 1584 then (if x375000 = 9 then (impl_charCuts.l0 k x0 x3 x15 x16 (wrap64 (x17 + 1)) x369000 true (wrap64 (x371000 + 1))) else (impl_charCuts.l0 k x0 x3 x15 x16 (wrap64 (x17 + 1)) x369000 true 0)) else (if x373000 = 1585 then (if x375000 = 9 then (impl_charCuts.l0 k x0 x3 x15 x16 (wrap64 (x17 + 1)) x369000 x370000 (wrap64 (x371000 + 1))) else (impl_charCuts.l0 k x0 x3 x15 x16 (wrap64 (x17 + 1)) x369000 x370000 0)) else (if x375000 = 9 then (impl_charCuts.l0 k x0 x3 x15 x16 (wrap64 (x17 + 1)) x369000 false (wrap64 (x371000 + 1))) else (impl_charCuts.l0 k x0 x3 x15 x16 (wrap64 (x17 + 1)) x369000 false 0)))) else (if x373000 = 1584 then (if x375000 = 9 then (impl_charCuts.l0 k x0 x3 x15 x16 (wrap64 (x17 + 1)) (x375000 == 8) true (wrap64 (x371000 + 1))) else (impl_charCuts.l0 k x0 x3 x15 x16 (wrap64 (x17 + 1)) (x375000 == 8) true 0)) else (if x373000 = 1585 then (if x375000 = 9 then (impl_charCuts.l0 k x0 x3 x15 x16 (wrap64 (x17 + 1)) (x375000 == 8) x370000 (wrap64 (x371000 + 1))) else (impl_charCuts.l0 k x0 x3 x15 x16 (wrap64 (x17 + 1)) (x375000 == 8) x370000 0)) else (if x375000 = 9 then (impl_charCuts.l0 k x0 x3 x15 x16 (wrap64 (x17 + 1)) (x375000 == 8) false (wrap64 (x371000 + 1))) else (impl_charCuts.l0 k x0 x3 x15 x16 (wrap64 (x17 + 1)) (x375000 == 8) false 0))))
end
def impl_charCuts.f (k : Nat) (l0 : List Int) : Option (List Bool) := if 0 ≤ (l0.length : Int) then (if ((l0.length : Int) : Int).toNat ≤ 281474976710656 then (impl_charCuts.l0 k l0 (List.replicate ((l0.length : Int) : Int).toNat false) l0 (l0.length : Int) 0 false false 0) else (none)) else (none)
theorem impl_charCuts.mono_l : ∀ k, (∀ y0 y1 y2 y3 y4 y5 y6 y7, LeO (impl_charCuts.l0 k y0 y1 y2 y3 y4 y5 y6 y7) (impl_charCuts.l0 (k + 1) y0 y1 y2 y3 y4 y5 y6 y7)) ∧ (∀ y0 y1 y2 y3 y4 y5 y6 y7 y8 y9, LeO (impl_charCuts.j1 k y0 y1 y2 y3 y4 y5 y6 y7 y8 y9) (impl_charCuts.j1 (k + 1) y0 y1 y2 y3 y4 y5 y6 y7 y8 y9))
 | 0 => ⟨fun _ _ _ _ _ _ _ _ r h => by simp [impl_charCuts.l0] at h, fun _ _ _ _ _ _ _ _ _ _ r h => by simp [impl_charCuts.j1] at h⟩
 | k + 1 => by
  obtain ⟨ih0, ih1⟩ := impl_charCuts.mono_l k
  refine ⟨fun y0 y1 y2 y3 y4 y5 y6 y7 => ?_, fun y0 y1 y2 y3 y4 y5 y6 y7 y8 y9 => ?_⟩
  all_goals (first | unfold impl_charCuts.l0 | unfold impl_charCuts.j1)
  all_goals (repeat' (first | (with_reducible first | exact ih0 .. | exact ih1 .. | exact impl_charClass.mono .. | exact impl_charCuts_1.mono .. | exact LeO.refl _ | exact LeO.none _ | refine LeO.ite ?_ ?_ | refine LeO.bind ?_ (fun _ => ?_)) | exact ih0 .. | exact ih1 .. | exact impl_charClass.mono .. | exact impl_charCuts_1.mono .. | exact LeO.none _ | refine LeO.ite ?_ ?_ | refine LeO.bind ?_ (fun _ => ?_)))
theorem impl_charCuts.mono : ∀ a0 k, LeO (impl_charCuts.f k a0) (impl_charCuts.f (k + 1) a0) := by
 intro a0 k
 obtain ⟨ih0, ih1⟩ := impl_charCuts.mono_l k
 unfold impl_charCuts.f
 repeat' (first | (with_reducible first | exact ih0 .. | exact ih1 .. | exact impl_charClass.mono .. | exact impl_charCuts_1.mono .. | exact LeO.refl _ | exact LeO.none _ | refine LeO.ite ?_ ?_ | refine LeO.bind ?_ (fun _ => ?_)) | exact ih0 .. | exact ih1 .. | exact impl_charClass.mono .. | exact impl_charCuts_1.mono .. | exact LeO.none _ | refine LeO.ite ?_ ?_ | refine LeO.bind ?_ (fun _ => ?_))
set_option maxHeartbeats 8000000 in
set_option maxRecDepth 100000 in
theorem impl_charCuts.calls (k : Nat) (A0 : Option Addr) (c0 : Nat) (l0 : List Int) (r : List Bool) (w : World) (hr0 : Kd.C (Kd.int .i64) w A0 l0.length l0) (hc0 : l0.length ≤ c0) (h : impl_charCuts.f k l0 = some r) :
  Calls Tryd.prog 81 #[.slice A0 l0.length c0] w fun e w' => ∃ v0_ : Value, e = .returned (v0_) ∧ Kd.R Kd.bool 4 w' w.heap.size (fun _ => True) v0_ r ∧ Below w.heap.size w w' := by
 have HR0 := am hr0
 have HC0 := am hc0
 clear hr0 hc0
 have HB := am (Below.refl w.heap.size w)
 have H : (if 0 ≤ (l0.length : Int) then (if ((l0.length : Int) : Int).toNat ≤ 281474976710656 then (impl_charCuts.l0 k l0 (List.replicate ((l0.length : Int) : Int).toNat false) l0 (l0.length : Int) 0 false false 0) else (none)) else (none)) = some r := h
 clear h
 replace H := iteN H
 obtain ⟨c2, H⟩ := H
 have c2b0 := eq_true c2
 have c2b1 : decide (0 ≤ (l0.length : Int)) = true := decide_eq_true c2
 clear c2
 replace H := iteN H
 obtain ⟨c3, H⟩ := H
 have c3b0 := eq_true c3
 have c3b1 : decide (((l0.length : Int) : Int).toNat ≤ 281474976710656) = true := decide_eq_true c3
 clear c3
 obtain ⟨y365, hy365⟩ : ∃ y_ : List Bool, y_ = (List.replicate ((l0.length : Int) : Int).toNat false) := ⟨_, rfl⟩
 replace H : (impl_charCuts.l0 k l0 y365 l0 (l0.length : Int) 0 false false 0) = some r := by first | (rw [hy365]; with_reducible exact H) | (have H2_ := (Option.bind_some _ _).symm.trans H; rw [hy365]; with_reducible exact H2_) | (have H2_ := (Option.bind_some _ _).symm.trans H; with_reducible exact H2_) | with_reducible exact H | (rw [hy365]; exact H) | exact H
 have Ny365 := am hy365
 clear hy365
 have H' := am H
 clear H
 have hmf_ : ∀ (fn : Fn) (first cap : Array Value) (w : World), (Instr.makeFunc fn first cap).run Tryd.prog w = .ok (.func fn first cap) w := fun _ _ _ _ => rfl
 go_enter Tryd.func81, Tryd.ntmps81
 go_wp2_with (first | ((with_reducible refine gate_dst (N := 14) rfl ?_); refine Kd.R_make Kd.bool _ 4 rfl (N := 14) rfl 60 _ _ rfl (l0.length : Int) rfl rfl Tryd.underlying60 (.bool false) 1 info4 rfl (by decide) (by omega) false (ok := fun _ => True) (okp := fun _ => True) rfl (fun _ hk => hk) trivial (od) (Nat.le_trans (Nat.mul_le_mul_right _ (od : (l0.length : Int).toNat ≤ 281474976710656)) (by omega)) (Below.refl _ _) (Nat.le_refl _) ?_; intro v366 w4 ho5 hb hg_ hnew_; clear hg_ hnew_; (first | rw [← Ny365.out] at ho5 | (simp only [Int.reduceToNat] at ho5; rw [← Ny365.out] at ho5)); have HO367 := am (Kd.R_lower ho5 (below_size bB)); replace HB := am (below_step bB hb); clear hb ho5) | ((with_reducible refine gate_dst (N := 4) rfl ?_); refine bx 4 #[.bool false] 4 ?_; intro gb368 hg w6 hbox hb; replace HO367 := am (Kd.R_below (Kd.R_elderB (kR HO367.out) gb368 (Nat.le_of_eq hg.symm)) hb); have BK368 := am (hbox); have GW368 := am ((by rw [hg]; exact (below_size bB) : w.heap.size ≤ gb368)); have GE368 := am ((by rw [hg]; exact (below_size bB) : w.heap.size ≤ gb368)); replace HB := am (below_step bB hb); clear hb hbox hg) | ((with_reducible refine gate_dst (N := 5) rfl ?_); refine bx 5 #[.bool false] 4 ?_; intro gb369 hg w7 hbox hb; replace HO367 := am (Kd.R_below (Kd.R_elderB (kR HO367.out) gb369 (Nat.le_of_eq hg.symm)) hb); have BK369 := am (hbox); have GW369 := am ((by rw [hg]; exact (below_size bS) : w.heap.size ≤ gb369)); have GE369 := am ((by rw [hg]; exact (below_size bS) : w.heap.size ≤ gb369)); replace HB := am (below_step bS hb); have NB368_369 := am (nl hg BK368.out); have NB369_368 := am NB368_369.out.symm; replace BK368 := am (blk_below (g := gb368) (o := .cells #[.bool false] 4 (0, 0)) (bk BK368.out) hb); clear hb hbox hg) | ((with_reducible refine gate_dst (N := 6) rfl ?_); refine bx 6 #[.int .i64 0] 3 ?_; intro gb370 hg w8 hbox hb; replace HO367 := am (Kd.R_below (kR HO367.out) hb); have BK370 := am (hbox); have GW370 := am ((by rw [hg]; exact (below_size bS) : w.heap.size ≤ gb370)); have GE370 := am ((by rw [hg]; exact (below_size bS) : w.heap.size ≤ gb370)); replace HB := am (below_step bS hb); have NB368_370 := am (nl hg BK368.out); have NB370_368 := am NB368_370.out.symm; replace BK368 := am (blk_below (g := gb368) (o := .cells #[.bool false] 4 (0, 0)) (bk BK368.out) hb); have NB369_370 := am (nl hg BK369.out); have NB370_369 := am NB369_370.out.symm; replace BK369 := am (blk_below (g := gb369) (o := .cells #[.bool false] 4 (0, 0)) (bk BK369.out) hb); clear hb hbox hg; have hnb9 := NB368_369.out; have hnc9 := NB369_368.out; have hnb10 := NB368_370.out; have hnc10 := NB370_368.out; have hcz11_0 := bc BK368.out 0 (.bool false); have hfz11_0 := blk_frozen BK368.out 0; have hnb12 := NB369_370.out; have hnc12 := NB370_369.out; have hcz13_0 := bc BK369.out 0 (.bool false); have hfz13_0 := blk_frozen BK369.out 0; have hcz14_0 := bc BK370.out 0 (.int .i64 0); have hfz14_0 := blk_frozen BK370.out 0))
 go_loopg [17] k (fun kq v17 w' => ∃ (x3_1 : List Bool) (x17_1 : Int) (x369000_1 : Bool) (x370000_1 : Bool) (x371000_1 : Int), v17 = .int .i64 x17_1 ∧ Aside0 (impl_charCuts.l0 kq l0 x3_1 l0 (l0.length : Int) x17_1 x369000_1 x370000_1 x371000_1 = some r) ∧ Aside0 (kq ≤ k) ∧ Aside0 (Kd.R Kd.bool 4 w' w.heap.size (fun k_ => k_ ≠ gb368 ∧ k_ ≠ gb369) v366 x3_1) ∧ Aside0 (w'.heap[gb368]? = some (.cells #[.bool x369000_1] 4 (0, 0))) ∧ Aside0 (w'.heap[gb369]? = some (.cells #[.bool x370000_1] 4 (0, 0))) ∧ Aside0 (w'.heap[gb370]? = some (.cells #[.int .i64 x371000_1] 3 (0, 0))) ∧ Aside0 (Below w.heap.size w w'))
 case atStart => exact ⟨(y365), (0), (false), (false), (0), sr, H', ⟨Nat.le_refl _⟩, ⟨kR (Kd.R_mono (Kd.R_far (p := ⟨gb370, 0, none⟩) (Kd.R_far (p := ⟨gb369, 0, none⟩) (Kd.R_far (p := ⟨gb368, 0, none⟩) (Kd.R_types (Kd.R_mono (Kd.R_mono HO367.out (fun k_ hk => (⟨hk, hk.1.2⟩ : _ ∧ k_ ≠ gb368))) (fun k_ hk => (⟨hk, hk.1.2⟩ : _ ∧ k_ ≠ gb369))) BK370.out (by decide)) (fun _ hk => hk.1.1.2) (.bool false)) (fun _ hk => hk.1.2) (.bool false)) (fun _ hk => hk.2) (.int .i64 0)) (fun _ hk => ⟨hk.1.1.1.1.2, hk.1.1.1.2⟩))⟩, ⟨by (with_reducible repeat (first | refine blk_drewN ?_ _ | refine blk_drew ?_ | refine blk_alloc ?_ _)); refine blk_far ?_ NB368_370.out _; (with_reducible repeat (first | refine blk_drewN ?_ _ | refine blk_drew ?_ | refine blk_alloc ?_ _)); refine blk_far ?_ NB368_369.out _; (with_reducible repeat (first | refine blk_drewN ?_ _ | refine blk_drew ?_ | refine blk_alloc ?_ _)); refine blk_put (cs := #[.bool false]) ?_ 0 _ rfl; (with_reducible repeat (first | refine blk_drewN ?_ _ | refine blk_drew ?_ | refine blk_alloc ?_ _)); exact BK368.out⟩, ⟨by (with_reducible repeat (first | refine blk_drewN ?_ _ | refine blk_drew ?_ | refine blk_alloc ?_ _)); refine blk_far ?_ NB369_370.out _; (with_reducible repeat (first | refine blk_drewN ?_ _ | refine blk_drew ?_ | refine blk_alloc ?_ _)); refine blk_put (cs := #[.bool false]) ?_ 0 _ rfl; (with_reducible repeat (first | refine blk_drewN ?_ _ | refine blk_drew ?_ | refine blk_alloc ?_ _)); refine blk_far ?_ NB369_368.out _; (with_reducible repeat (first | refine blk_drewN ?_ _ | refine blk_drew ?_ | refine blk_alloc ?_ _)); exact BK369.out⟩, ⟨by (with_reducible repeat (first | refine blk_drewN ?_ _ | refine blk_drew ?_ | refine blk_alloc ?_ _)); refine blk_put (cs := #[.int .i64 0]) ?_ 0 _ rfl; (with_reducible repeat (first | refine blk_drewN ?_ _ | refine blk_drew ?_ | refine blk_alloc ?_ _)); refine blk_far ?_ NB370_369.out _; (with_reducible repeat (first | refine blk_drewN ?_ _ | refine blk_drew ?_ | refine blk_alloc ?_ _)); refine blk_far ?_ NB370_368.out _; (with_reducible repeat (first | refine blk_drewN ?_ _ | refine blk_drew ?_ | refine blk_alloc ?_ _)); exact BK370.out⟩, ⟨bS⟩⟩
 case round =>
  clear H'
  try clear c2b0
  try clear c2b1
  try clear c3b0
  try clear c3b1
  try clear hcz11_0
  try clear hcz13_0
  try clear hcz14_0
  try clear hfz11_0
  try clear hfz13_0
  try clear hfz14_0
  obtain ⟨x3_1, x17_1, x369000_1, x370000_1, x371000_1, rfl, HA, HK1, HO_3, BK368, BK369, BK370, HB⟩ := hrel
  cases gk with
  | zero => exact absurd HA.out (by simp [impl_charCuts.l0])
  | succ k1 =>
   have H := HA.out
   clear HA
   simp only [impl_charCuts.l0] at H
   by_cases c15 : x17_1 < (l0.length : Int)
   rotate_left
   ·rw [if_neg c15] at H
    have c15b0 : decide (x17_1 < (l0.length : Int)) = false := decide_eq_false c15
    clear c15
    obtain rfl := Option.some.inj H
    go_wp2
    go_ret
    exact ⟨_, rv, by (with_reducible repeat (first | apply Kd.R_alloc | apply Kd.R_drewN | apply Kd.R_drew)); exact Kd.R_mono HO_3.out (fun _ hk => trivial), bS⟩
   rw [if_pos c15] at H
   have c15b0 : decide (x17_1 < (l0.length : Int)) = true := decide_eq_true c15
   clear c15
   replace H := iteN H
   obtain ⟨c16, H⟩ := H
   have c16b0 : decide (0 ≤ x17_1) = true := decide_eq_true c16
   clear c16
   replace H := iteN H
   obtain ⟨c17, H⟩ := H
   have c17b0 : decide (x17_1 < (l0.length : Int)) = true := decide_eq_true c17
   clear c17
   obtain ⟨t373, A18, H⟩ := bb H
   have HC19 := am H
   clear H
   have p371 : 0 ≤ (x17_1 : Int) := od
   have q371 : x17_1 < (l0.length : Int) := od
   obtain ⟨ad371, e371, hx371_0⟩ := Kd.at_int HR0.out x17_1 p371 q371
   cases e371
   replace hx371_0 := cl HB hx371_0
   replace p371 := eq_true p371
   replace q371 := eq_true q371
   go_upto_if 25 with (first | ((with_reducible refine gate_dst (N := 8) rfl ?_); refine bx 8 #[.int .i64 0] 2 ?_; intro gb372 hg w20 hbox hb; replace HO_3 := am (Kd.R_below (kR HO_3.out) hb); have BK372 := am (hbox); have GW372 := am ((by rw [hg]; exact (below_size bS) : w.heap.size ≤ gb372)); have GE372 := am ((by rw [hg]; exact (below_size bS) : w.heap.size ≤ gb372)); replace HB := am (below_step bS hb); have NB368_372 := am (nl hg BK368.out); have NB372_368 := am NB368_372.out.symm; replace BK368 := am (blk_below (g := gb368) (o := .cells #[.bool x369000_1] 4 (0, 0)) (bk BK368.out) hb); have NB369_372 := am (nl hg BK369.out); have NB372_369 := am NB369_372.out.symm; replace BK369 := am (blk_below (g := gb369) (o := .cells #[.bool x370000_1] 4 (0, 0)) (bk BK369.out) hb); have NB370_372 := am (nl hg BK370.out); have NB372_370 := am NB370_372.out.symm; replace BK370 := am (blk_below (g := gb370) (o := .cells #[.int .i64 x371000_1] 3 (0, 0)) (bk BK370.out) hb); clear hb hbox hg; have hnb21 := NB372_368.out; have hnc21 := NB368_372.out; have hnb22 := NB372_369.out; have hnc22 := NB369_372.out; have hnb23 := NB372_370.out; have hnc23 := NB370_372.out; have hcz24_0 := bc BK372.out 0 (.int .i64 0); have hfz24_0 := blk_frozen BK372.out 0) | ((with_reducible refine gate_callee (f := 86) rfl ?_); refine gq 23 Tryd.func86 (impl_charClass.calls k1 (rd l0 x17_1) t373 _ A18.out) fun nd => ?_) | ((with_reducible refine gate_dst (N := 9) rfl ?_); refine bx 9 #[.int .i64 0] 3 ?_; intro gb374 hg w25 hbox hb; replace HO_3 := am (Kd.R_below (kR ((Kd.R_mono (Kd.R_far (p := ⟨gb372, 0, none⟩) (Kd.R_types HO_3.out BK372.out (by decide)) (fun _ hk => hk.2) (.int .i64 (rd l0 x17_1))) (fun _ h_ => h_.1)))) hb); have BK374 := am (hbox); have GW374 := am ((by rw [hg]; exact (below_size bS) : w.heap.size ≤ gb374)); have GE374 := am ((by rw [hg]; exact (below_size bS) : w.heap.size ≤ gb374)); replace HB := am (below_step bS hb); have NB368_374 := am (nm hg (bf BK368.out)); have NB374_368 := am NB368_374.out.symm; replace BK368 := am (blk_below (g := gb368) (o := .cells #[.bool x369000_1] 4 (0, 0)) (bf BK368.out) hb); have NB369_374 := am (nm hg (bf BK369.out)); have NB374_369 := am NB369_374.out.symm; replace BK369 := am (blk_below (g := gb369) (o := .cells #[.bool x370000_1] 4 (0, 0)) (bf BK369.out) hb); have NB370_374 := am (nm hg (bf BK370.out)); have NB374_370 := am NB370_374.out.symm; replace BK370 := am (blk_below (g := gb370) (o := .cells #[.int .i64 x371000_1] 3 (0, 0)) (bf BK370.out) hb); have NB372_374 := am (nm (g := gb372) (o := .cells #[.int .i64 (rd l0 x17_1)] 2 (0, 0)) hg (by (with_reducible repeat (first | refine blk_drewN ?_ _ | refine blk_drew ?_ | refine blk_alloc ?_ _)); refine blk_put (cs := #[.int .i64 0]) ?_ 0 _ rfl; (with_reducible repeat (first | refine blk_drewN ?_ _ | refine blk_drew ?_ | refine blk_alloc ?_ _)); exact BK372.out)); have NB374_372 := am NB372_374.out.symm; replace BK372 := am (blk_below (g := gb372) (o := .cells #[.int .i64 (rd l0 x17_1)] 2 (0, 0)) (by (with_reducible repeat (first | refine blk_drewN ?_ _ | refine blk_drew ?_ | refine blk_alloc ?_ _)); refine blk_put (cs := #[.int .i64 0]) ?_ 0 _ rfl; (with_reducible repeat (first | refine blk_drewN ?_ _ | refine blk_drew ?_ | refine blk_alloc ?_ _)); exact BK372.out) hb); clear hb hbox hg; have hnb26 := NB374_368.out; have hnc26 := NB368_374.out; have hnb27 := NB374_369.out; have hnc27 := NB369_374.out; have hnb28 := NB374_370.out; have hnc28 := NB370_374.out; have hnb29 := NB374_372.out; have hnc29 := NB372_374.out; have hcz30_0 := bc BK374.out 0 (.int .i64 0); have hfz30_0 := blk_frozen BK374.out 0))
   (try simp only [Act.put, List.setIfInBounds_toArray, List.set_cons_zero, List.set_cons_succ])
   go_cut [] (fun wc => ∃ (kq : Nat) (x3_18 : List Bool), Aside0 (impl_charCuts.j1 kq l0 x3_18 l0 (l0.length : Int) x17_1 x369000_1 x370000_1 x371000_1 (rd l0 x17_1) t373 = some r) ∧ Aside0 (kq ≤ k1) ∧ Aside0 (Kd.R Kd.bool 4 wc w.heap.size (fun k_ => k_ ≠ gb368 ∧ k_ ≠ gb369) v366 x3_18) ∧ Aside0 (wc.heap[gb368]? = some (.cells #[.bool x369000_1] 4 (0, 0))) ∧ Aside0 (wc.heap[gb369]? = some (.cells #[.bool x370000_1] 4 (0, 0))) ∧ Aside0 (wc.heap[gb370]? = some (.cells #[.int .i64 x371000_1] 3 (0, 0))) ∧ Aside0 (wc.heap[gb372]? = some (.cells #[.int .i64 (rd l0 x17_1)] 2 (0, 0))) ∧ Aside0 (wc.heap[gb374]? = some (.cells #[.int .i64 t373] 3 (0, 0))) ∧ Aside0 (Below w.heap.size w wc))
   case first =>
    have H := HC19.out
    clear HC19
    by_cases c31 : x17_1 > 0
    rotate_left
    ·rw [if_neg c31] at H
     have c31b0 : decide (0 < x17_1) = false := decide_eq_false c31
     clear c31
     (first | rw [c31b0] | (simp only [i64_w, i32_w]; rw [c31b0]) | skip)
     have H' := am H
     clear H
     go_wp2
     go_meet
     case rel => exact ⟨_, (x3_1), H', ⟨kl⟩, ⟨kR (Kd.R_mono (Kd.R_far (p := ⟨gb374, 0, none⟩) (Kd.R_types HO_3.out BK374.out (by decide)) (fun _ hk => hk.2) (.int .i64 t373)) (fun _ hk => ⟨hk.1.1, hk.1.2⟩))⟩, ⟨by (with_reducible repeat (first | refine blk_drewN ?_ _ | refine blk_drew ?_ | refine blk_alloc ?_ _)); refine blk_far ?_ NB368_374.out _; (with_reducible repeat (first | refine blk_drewN ?_ _ | refine blk_drew ?_ | refine blk_alloc ?_ _)); exact BK368.out⟩, ⟨by (with_reducible repeat (first | refine blk_drewN ?_ _ | refine blk_drew ?_ | refine blk_alloc ?_ _)); refine blk_far ?_ NB369_374.out _; (with_reducible repeat (first | refine blk_drewN ?_ _ | refine blk_drew ?_ | refine blk_alloc ?_ _)); exact BK369.out⟩, ⟨by (with_reducible repeat (first | refine blk_drewN ?_ _ | refine blk_drew ?_ | refine blk_alloc ?_ _)); refine blk_far ?_ NB370_374.out _; (with_reducible repeat (first | refine blk_drewN ?_ _ | refine blk_drew ?_ | refine blk_alloc ?_ _)); exact BK370.out⟩, ⟨by (with_reducible repeat (first | refine blk_drewN ?_ _ | refine blk_drew ?_ | refine blk_alloc ?_ _)); refine blk_far ?_ NB372_374.out _; (with_reducible repeat (first | refine blk_drewN ?_ _ | refine blk_drew ?_ | refine blk_alloc ?_ _)); exact BK372.out⟩, ⟨by (with_reducible repeat (first | refine blk_drewN ?_ _ | refine blk_drew ?_ | refine blk_alloc ?_ _)); refine blk_put (cs := #[.int .i64 0]) ?_ 0 _ rfl; (with_reducible repeat (first | refine blk_drewN ?_ _ | refine blk_drew ?_ | refine blk_alloc ?_ _)); exact BK374.out⟩, ⟨bS⟩⟩
    rw [if_pos c31] at H
    have c31b0 : decide (0 < x17_1) = true := decide_eq_true c31
    clear c31
    (first | rw [c31b0] | (simp only [i64_w, i32_w]; rw [c31b0]) | skip)
    obtain ⟨ji32, hji32⟩ : ∃ j_ : Int, (wrap64 (x17_1 - 1)) = j_ := ⟨_, rfl⟩
    replace H : (if 0 ≤ (ji32) then (if (ji32) < (l0.length : Int) then ((impl_charClass.f k1 (rd l0 (ji32))).bind fun t377 => ((impl_charCuts_1.f k1 (rd l0 (ji32)) (rd l0 x17_1) t373 t377 x370000_1 x369000_1 x371000_1).bind fun t379 => (if x17_1 < (x3_1.length : Int) then (impl_charCuts.j1 k1 l0 (x3_1.set (x17_1 : Int).toNat t379) l0 (l0.length : Int) x17_1 x369000_1 x370000_1 x371000_1 (rd l0 x17_1) t373) else (none)))) else (none)) else (none)) = some r := by first | (rw [hji32] at H; exact H) | (simp only [hji32] at H ⊢; exact H)
    have hji32w : (IntKind.i64.wrap (x17_1 - 1)) = ji32 := (i64_w _).trans hji32
    replace H := iteN H
    obtain ⟨c33, H⟩ := H
    have c33b0 : decide (0 ≤ (ji32)) = true := decide_eq_true c33
    clear c33
    replace H := iteN H
    obtain ⟨c34, H⟩ := H
    have c34b0 : decide ((ji32) < (l0.length : Int)) = true := decide_eq_true c34
    clear c34
    obtain ⟨t377, A35, H⟩ := bb H
    obtain ⟨t379, A36, H⟩ := bb H
    replace H := iteN H
    obtain ⟨c37, H⟩ := H
    have c37b0 : decide (x17_1 < (x3_1.length : Int)) = true := decide_eq_true c37
    clear c37
    obtain ⟨y380, hy380⟩ : ∃ y_ : List Bool, y_ = (x3_1.set (x17_1 : Int).toNat t379) := ⟨_, rfl⟩
    replace H : (impl_charCuts.j1 k1 l0 y380 l0 (l0.length : Int) x17_1 x369000_1 x370000_1 x371000_1 (rd l0 x17_1) t373) = some r := by first | (rw [hy380]; with_reducible exact H) | (have H2_ := (Option.bind_some _ _).symm.trans H; rw [hy380]; with_reducible exact H2_) | (have H2_ := (Option.bind_some _ _).symm.trans H; with_reducible exact H2_) | with_reducible exact H | (rw [hy380]; exact H) | exact H
    have Ny380 := am hy380
    clear hy380
    have H' := am H
    clear H
    have p375 : 0 ≤ ((ji32) : Int) := od
    have q375 : (ji32) < (l0.length : Int) := od
    obtain ⟨ad375, e375, hx375_0⟩ := Kd.at_int HR0.out (ji32) p375 q375
    obtain rfl : ad371 = ad375 := (by injection e375)
    have hn375_0 : ad371.block ≠ gb374 := Nat.ne_of_lt (Nat.lt_of_lt_of_le (by have := World.block_lt_of_cell? _ _ hx375_0; first | rwa [add_block] at this | exact this) GW374.out)
    replace hx375_0 := cl HB hx375_0
    replace hx375_0 := (cell_far (p := ⟨gb374, 0, none⟩) (by first | (rw [add_block]; exact hn375_0) | (show (Addr.add _ _).block ≠ _; rw [add_block]; exact hn375_0) | exact hn375_0) (.int .i64 t373)).trans hx375_0
    clear hn375_0
    replace p375 := eq_true p375
    replace q375 := eq_true q375
    go_wp2_with (first | ((with_reducible refine gate_dst (N := 10) rfl ?_); refine bx 10 #[.int .i64 0] 2 ?_; intro gb376 hg w39 hbox hb; replace HO_3 := am (Kd.R_below (kR ((Kd.R_mono (Kd.R_far (p := ⟨gb374, 0, none⟩) (Kd.R_types HO_3.out BK374.out (by decide)) (fun _ hk => hk.2) (.int .i64 t373)) (fun _ h_ => h_.1)))) hb); have BK376 := am (hbox); have GW376 := am ((by rw [hg]; exact (below_size bS) : w.heap.size ≤ gb376)); have GE376 := am ((by rw [hg]; exact (below_size bS) : w.heap.size ≤ gb376)); replace HB := am (below_step bS hb); have NB368_376 := am (nm hg (bf BK368.out)); have NB376_368 := am NB368_376.out.symm; replace BK368 := am (blk_below (g := gb368) (o := .cells #[.bool x369000_1] 4 (0, 0)) (bf BK368.out) hb); have NB369_376 := am (nm hg (bf BK369.out)); have NB376_369 := am NB369_376.out.symm; replace BK369 := am (blk_below (g := gb369) (o := .cells #[.bool x370000_1] 4 (0, 0)) (bf BK369.out) hb); have NB370_376 := am (nm hg (bf BK370.out)); have NB376_370 := am NB370_376.out.symm; replace BK370 := am (blk_below (g := gb370) (o := .cells #[.int .i64 x371000_1] 3 (0, 0)) (bf BK370.out) hb); have NB372_376 := am (nm hg (bf BK372.out)); have NB376_372 := am NB372_376.out.symm; replace BK372 := am (blk_below (g := gb372) (o := .cells #[.int .i64 (rd l0 x17_1)] 2 (0, 0)) (bf BK372.out) hb); have NB374_376 := am (nm (g := gb374) (o := .cells #[.int .i64 t373] 3 (0, 0)) hg (by (with_reducible repeat (first | refine blk_drewN ?_ _ | refine blk_drew ?_ | refine blk_alloc ?_ _)); refine blk_put (cs := #[.int .i64 0]) ?_ 0 _ rfl; (with_reducible repeat (first | refine blk_drewN ?_ _ | refine blk_drew ?_ | refine blk_alloc ?_ _)); exact BK374.out)); have NB376_374 := am NB374_376.out.symm; replace BK374 := am (blk_below (g := gb374) (o := .cells #[.int .i64 t373] 3 (0, 0)) (by (with_reducible repeat (first | refine blk_drewN ?_ _ | refine blk_drew ?_ | refine blk_alloc ?_ _)); refine blk_put (cs := #[.int .i64 0]) ?_ 0 _ rfl; (with_reducible repeat (first | refine blk_drewN ?_ _ | refine blk_drew ?_ | refine blk_alloc ?_ _)); exact BK374.out) hb); clear hb hbox hg; have hnb40 := NB376_368.out; have hnc40 := NB368_376.out; have hnb41 := NB376_369.out; have hnc41 := NB369_376.out; have hnb42 := NB376_370.out; have hnc42 := NB370_376.out; have hnb43 := NB376_372.out; have hnc43 := NB372_376.out; have hnb44 := NB376_374.out; have hnc44 := NB374_376.out; have hcz45_0 := bc BK376.out 0 (.int .i64 0); have hfz45_0 := blk_frozen BK376.out 0) | ((with_reducible refine gate_callee (f := 86) rfl ?_); refine goesL_ (some 32) rfl rfl Tryd.func86 (by kernel_rfl) rfl #[.int .i64 (rd l0 (ji32))] rfl (by (try simp only [List.map_toArray, List.map_cons, List.map_nil]); first | done | (simp only [hji32]; rfl) | rfl | (simp only [List.length_drop, List.length_take]; rfl)) ?_; (with_reducible refine (impl_charClass.calls k1 (rd l0 (ji32)) t377 _ A35.out).mono ?_); rintro e w' ⟨rfl, ⟨nd, rfl⟩⟩; refine ⟨_, rfl, ?_⟩) | ((with_reducible refine gate_dst (N := 11) rfl ?_); refine bx 11 #[.int .i64 0] 3 ?_; intro gb378 hg w46 hbox hb; replace HO_3 := am (Kd.R_below (kR ((Kd.R_mono (Kd.R_far (p := ⟨gb376, 0, none⟩) (Kd.R_types HO_3.out BK376.out (by decide)) (fun _ hk => hk.2) (.int .i64 (rd l0 (ji32)))) (fun _ h_ => h_.1)))) hb); have BK378 := am (hbox); have GW378 := am ((by rw [hg]; exact (below_size bS) : w.heap.size ≤ gb378)); have GE378 := am ((by rw [hg]; exact (below_size bS) : w.heap.size ≤ gb378)); replace HB := am (below_step bS hb); have NB368_378 := am (nm hg (bf BK368.out)); have NB378_368 := am NB368_378.out.symm; replace BK368 := am (blk_below (g := gb368) (o := .cells #[.bool x369000_1] 4 (0, 0)) (bf BK368.out) hb); have NB369_378 := am (nm hg (bf BK369.out)); have NB378_369 := am NB369_378.out.symm; replace BK369 := am (blk_below (g := gb369) (o := .cells #[.bool x370000_1] 4 (0, 0)) (bf BK369.out) hb); have NB370_378 := am (nm hg (bf BK370.out)); have NB378_370 := am NB370_378.out.symm; replace BK370 := am (blk_below (g := gb370) (o := .cells #[.int .i64 x371000_1] 3 (0, 0)) (bf BK370.out) hb); have NB372_378 := am (nm hg (bf BK372.out)); have NB378_372 := am NB372_378.out.symm; replace BK372 := am (blk_below (g := gb372) (o := .cells #[.int .i64 (rd l0 x17_1)] 2 (0, 0)) (bf BK372.out) hb); have NB374_378 := am (nm hg (bf BK374.out)); have NB378_374 := am NB374_378.out.symm; replace BK374 := am (blk_below (g := gb374) (o := .cells #[.int .i64 t373] 3 (0, 0)) (bf BK374.out) hb); have NB376_378 := am (nm (g := gb376) (o := .cells #[.int .i64 (rd l0 (ji32))] 2 (0, 0)) hg (by (with_reducible repeat (first | refine blk_drewN ?_ _ | refine blk_drew ?_ | refine blk_alloc ?_ _)); refine blk_put (cs := #[.int .i64 0]) ?_ 0 _ rfl; (with_reducible repeat (first | refine blk_drewN ?_ _ | refine blk_drew ?_ | refine blk_alloc ?_ _)); exact BK376.out)); have NB378_376 := am NB376_378.out.symm; replace BK376 := am (blk_below (g := gb376) (o := .cells #[.int .i64 (rd l0 (ji32))] 2 (0, 0)) (by (with_reducible repeat (first | refine blk_drewN ?_ _ | refine blk_drew ?_ | refine blk_alloc ?_ _)); refine blk_put (cs := #[.int .i64 0]) ?_ 0 _ rfl; (with_reducible repeat (first | refine blk_drewN ?_ _ | refine blk_drew ?_ | refine blk_alloc ?_ _)); exact BK376.out) hb); clear hb hbox hg; have hnb47 := NB378_368.out; have hnc47 := NB368_378.out; have hnb48 := NB378_369.out; have hnc48 := NB369_378.out; have hnb49 := NB378_370.out; have hnc49 := NB370_378.out; have hnb50 := NB378_372.out; have hnc50 := NB372_378.out; have hnb51 := NB378_374.out; have hnc51 := NB374_378.out; have hnb52 := NB378_376.out; have hnc52 := NB376_378.out; have hcz53_0 := bc BK378.out 0 (.int .i64 0); have hfz53_0 := blk_frozen BK378.out 0) | ((with_reducible refine gate_store (t := 3) (p := 11) rfl ?_); refine store_event (t := 3) (p := 11) (v := ?vo_w54) (w1 := (w46.setCell ⟨gb378, 0, none⟩ (.int .i64 t377))) ?hg ?ho ?hn ?hr ?_; (case ho => rfl); (case hg => rfl); (case hn => rfl); (case hr => first | (go_simp; done) | (go_simp; rfl)); intro w54 hw; have n0_ : Aside0 (Kd.R Kd.bool 4 w54 w.heap.size (fun k_ => k_ ≠ gb368 ∧ k_ ≠ gb369) v366 x3_1) := ⟨(by rw [hw]; exact (kR (Kd.R_mono (Kd.R_far (p := ⟨gb378, 0, none⟩) (Kd.R_types HO_3.out BK378.out (by decide)) (fun _ hk => hk.2) (.int .i64 t377)) (fun _ hk => ⟨hk.1.1, hk.1.2⟩))))⟩; have n1_ : Aside0 (w54.heap[gb368]? = some (.cells #[.bool x369000_1] 4 (0, 0))) := ⟨(by rw [hw]; exact (bf BK368.out))⟩; have n2_ : Aside0 (w54.heap[gb369]? = some (.cells #[.bool x370000_1] 4 (0, 0))) := ⟨(by rw [hw]; exact (bf BK369.out))⟩; have n3_ : Aside0 (w54.heap[gb370]? = some (.cells #[.int .i64 x371000_1] 3 (0, 0))) := ⟨(by rw [hw]; exact (bf BK370.out))⟩; have n4_ : Aside0 (w54.heap[gb372]? = some (.cells #[.int .i64 (rd l0 x17_1)] 2 (0, 0))) := ⟨(by rw [hw]; exact (bf BK372.out))⟩; have n5_ : Aside0 (w54.heap[gb374]? = some (.cells #[.int .i64 t373] 3 (0, 0))) := ⟨(by rw [hw]; exact (bf BK374.out))⟩; have n6_ : Aside0 (w54.heap[gb376]? = some (.cells #[.int .i64 (rd l0 (ji32))] 2 (0, 0))) := ⟨(by rw [hw]; exact (bf BK376.out))⟩; have n7_ : Aside0 (w54.heap[gb378]? = some (.cells #[.int .i64 t377] 3 (0, 0))) := ⟨(by rw [hw]; exact (by (with_reducible repeat (first | refine blk_drewN ?_ _ | refine blk_drew ?_ | refine blk_alloc ?_ _)); refine blk_put (cs := #[.int .i64 0]) ?_ 0 _ rfl; (with_reducible repeat (first | refine blk_drewN ?_ _ | refine blk_drew ?_ | refine blk_alloc ?_ _)); exact BK378.out))⟩; have n8_ : Aside0 (Below w.heap.size w w54) := ⟨(by rw [hw]; exact bS)⟩; clear hw; clear HO_3; clear BK368; clear BK369; clear BK370; clear BK372; clear BK374; clear BK376; clear BK378; clear HB; have HO_3 := n0_; have BK368 := n1_; have BK369 := n2_; have BK370 := n3_; have BK372 := n4_; have BK374 := n5_; have BK376 := n6_; have BK378 := n7_; have HB := n8_; clear n0_ n1_ n2_ n3_ n4_ n5_ n6_ n7_ n8_; have hcz55_0 := bc BK376.out 0 (.int .i64 (rd l0 (ji32))); have hfz55_0 := blk_frozen BK376.out 0; have hnb56 := NB372_368.out; have hnc56 := NB368_372.out; have hnb57 := NB372_369.out; have hnc57 := NB369_372.out; have hnb58 := NB372_370.out; have hnc58 := NB370_372.out; have hnb59 := NB372_374.out; have hnc59 := NB374_372.out; have hcz60_0 := bc BK372.out 0 (.int .i64 (rd l0 x17_1)); have hfz60_0 := blk_frozen BK372.out 0; have hnb61 := NB374_368.out; have hnc61 := NB368_374.out; have hnb62 := NB374_369.out; have hnc62 := NB369_374.out; have hnb63 := NB374_370.out; have hnc63 := NB370_374.out; have hcz64_0 := bc BK374.out 0 (.int .i64 t373); have hfz64_0 := blk_frozen BK374.out 0; have hcz65_0 := bc BK378.out 0 (.int .i64 t377); have hfz65_0 := blk_frozen BK378.out 0; have hnb66 := NB369_368.out; have hnc66 := NB368_369.out; have hnb67 := NB369_370.out; have hnc67 := NB370_369.out; have hcz68_0 := bc BK369.out 0 (.bool x370000_1); have hfz68_0 := blk_frozen BK369.out 0; have hnb69 := NB368_370.out; have hnc69 := NB370_368.out; have hcz70_0 := bc BK368.out 0 (.bool x369000_1); have hfz70_0 := blk_frozen BK368.out 0; have hcz71_0 := bc BK370.out 0 (.int .i64 x371000_1); have hfz71_0 := blk_frozen BK370.out 0) | (go_at_call 115; (with_reducible refine (impl_charCuts_1.calls k1 (rd l0 (ji32)) (rd l0 x17_1) t373 t377 x370000_1 x369000_1 x371000_1 t379 gb376 gb372 gb374 gb378 gb369 gb368 gb370 _ (by first | assumption | (simp; assumption) | (simp [*]; done)) (by first | assumption | (simp; assumption) | (simp [*]; done)) (by first | assumption | (simp; assumption) | (simp [*]; done)) (by first | assumption | (simp; assumption) | (simp [*]; done)) (by first | assumption | (simp; assumption) | (simp [*]; done)) (by first | assumption | (simp; assumption) | (simp [*]; done)) (by first | assumption | (simp; assumption) | (simp [*]; done)) A36.out).mono ?_); rintro e w' ⟨rfl, ⟨nd, rfl⟩⟩; (try (rw [drewN_self w54]; generalize hq_ : World.drewN w54 _ = w54; have n0_ : Aside0 (Kd.R Kd.bool 4 w54 w.heap.size (fun k_ => k_ ≠ gb368 ∧ k_ ≠ gb369) v366 x3_1) := ⟨by rw [← hq_]; exact (kR HO_3.out)⟩; have n1_ : Aside0 (w54.heap[gb368]? = some (.cells #[.bool x369000_1] 4 (0, 0))) := ⟨by rw [← hq_]; exact (bk BK368.out)⟩; have n2_ : Aside0 (w54.heap[gb369]? = some (.cells #[.bool x370000_1] 4 (0, 0))) := ⟨by rw [← hq_]; exact (bk BK369.out)⟩; have n3_ : Aside0 (w54.heap[gb370]? = some (.cells #[.int .i64 x371000_1] 3 (0, 0))) := ⟨by rw [← hq_]; exact (bk BK370.out)⟩; have n4_ : Aside0 (w54.heap[gb372]? = some (.cells #[.int .i64 (rd l0 x17_1)] 2 (0, 0))) := ⟨by rw [← hq_]; exact (bk BK372.out)⟩; have n5_ : Aside0 (w54.heap[gb374]? = some (.cells #[.int .i64 t373] 3 (0, 0))) := ⟨by rw [← hq_]; exact (bk BK374.out)⟩; have n6_ : Aside0 (w54.heap[gb376]? = some (.cells #[.int .i64 (rd l0 (ji32))] 2 (0, 0))) := ⟨by rw [← hq_]; exact (bk BK376.out)⟩; have n7_ : Aside0 (w54.heap[gb378]? = some (.cells #[.int .i64 t377] 3 (0, 0))) := ⟨by rw [← hq_]; exact (bk BK378.out)⟩; have n8_ : Aside0 (Below w.heap.size w w54) := ⟨by rw [← hq_]; exact bS⟩; clear HO_3 BK368 BK369 BK370 BK372 BK374 BK376 BK378 HB hq_; have HO_3 := n0_; have BK368 := n1_; have BK369 := n2_; have BK370 := n3_; have BK372 := n4_; have BK374 := n5_; have BK376 := n6_; have BK378 := n7_; have HB := n8_; clear n0_ n1_ n2_ n3_ n4_ n5_ n6_ n7_ n8_)); have p38 : 0 ≤ (x17_1 : Int) := od; have q38 : (x17_1 : Int) < ((x3_1.length : Int) : Int) := od; obtain ⟨go38, co38, eo38, gb38, gl38, cl38, HG38⟩ := Kd.R_form HO_3.out (by omega); (first | cases eo38 | (injection eo38 with ea_ en_ ec_; (first | subst ea_ | (injection ea_ with ea_; subst ea_)); subst ec_; clear en_)); have GB38 := am gb38; have GG38 := am HG38; clear gb38 gl38 HG38; obtain ⟨hx38_0, hf38_0⟩ := Kd.R_celln false HO_3.out (x17_1 : Int) p38 q38; replace p38 := eq_true p38; replace q38 := eq_true q38; obtain ⟨hy72_, hz72_⟩ := Kd.R_celln false HO_3.out (x17_1 : Int) (od) (od); have HP72 := Kd.R_putg HO_3.out (x17_1 : Int) t379) | ((with_reducible refine gate_store (t := 4) (p := 37) rfl ?_); refine store_event (t := 4) (p := 37) (v := ?vo_w73) (w1 := (w54.setCell ⟨go38, (x17_1 : Int).toNat, none⟩ (.bool t379))) ?hg ?ho ?hn ?hr ?_; (case ho => rfl); (case hg => rfl); (case hn => rfl); (case hr => first | (go_simp; done) | (go_simp; rfl)); intro w73 hw; have hg : w54.grownBy w73 (some go38) := (by rw [hw]; exact HP72.2); have hp_ : Kd.R Kd.bool 4 w73 w.heap.size (fun k_ => k_ ≠ gb368 ∧ k_ ≠ gb369) (.slice (some ⟨go38, 0, none⟩) x3_1.length co38) y380 := (by rw [hw, Ny380.out]; exact HP72.1); clear HP72; replace BK368 := am (blk_grown (g := gb368) (o := .cells #[.bool x369000_1] 4 (0, 0)) (bk BK368.out) hg (Kd.R_away HO_3.out (fun _ hk => hk.1))); replace BK369 := am (blk_grown (g := gb369) (o := .cells #[.bool x370000_1] 4 (0, 0)) (bk BK369.out) hg (Kd.R_away HO_3.out (fun _ hk => hk.2))); replace BK370 := am (blk_grown (g := gb370) (o := .cells #[.int .i64 x371000_1] 3 (0, 0)) (bk BK370.out) hg (Kd.R_ne HO_3.out BK370.out (by decide))); replace BK372 := am (blk_grown (g := gb372) (o := .cells #[.int .i64 (rd l0 x17_1)] 2 (0, 0)) (bk BK372.out) hg (Kd.R_ne HO_3.out BK372.out (by decide))); replace BK374 := am (blk_grown (g := gb374) (o := .cells #[.int .i64 t373] 3 (0, 0)) (bk BK374.out) hg (Kd.R_ne HO_3.out BK374.out (by decide))); replace BK376 := am (blk_grown (g := gb376) (o := .cells #[.int .i64 (rd l0 (ji32))] 2 (0, 0)) (bk BK376.out) hg (Kd.R_ne HO_3.out BK376.out (by decide))); replace BK378 := am (blk_grown (g := gb378) (o := .cells #[.int .i64 t377] 3 (0, 0)) (bk BK378.out) hg (Kd.R_ne HO_3.out BK378.out (by decide))); replace HO_3 := am (hp_); replace HB := am ((by rw [hw]; exact below_set (HB.out) GB38.out : Below w.heap.size w w73)); clear hg hw hp_))
    go_meet
    case rel => exact ⟨_, (y380), H', ⟨kl⟩, ⟨kR HO_3.out⟩, ⟨bk BK368.out⟩, ⟨bk BK369.out⟩, ⟨bk BK370.out⟩, ⟨bk BK372.out⟩, ⟨bk BK374.out⟩, ⟨bS⟩⟩
   case rest =>
    clear HC19
    try clear c15b0
    try clear c16b0
    try clear c17b0
    try clear hcz24_0
    try clear hcz30_0
    try clear hfz24_0
    try clear hfz30_0
    try clear hx371_0
    try clear p371
    try clear q371
    obtain ⟨kq, x3_18, HA, HJ18, HO_3, BK368, BK369, BK370, BK372, BK374, HB⟩ := hcut
    cases kq with
    | zero => exact absurd HA.out (by simp [impl_charCuts.j1])
    | succ kj18 =>
     have H := HA.out
     clear HA
     simp only [impl_charCuts.j1] at H
     by_cases c74 : t373 = 2
     ·rw [if_pos c74] at H
      have c74b0 : (t373 == 2) = true := beq_iff_eq.mpr c74
      have c74b1 : (t373 != 2) = false := bne_eq_false_iff_eq.mpr c74
      clear c74
      by_cases c75 : (rd l0 x17_1) = 1584
      ·rw [if_pos c75] at H
       have c75b0 : ((rd l0 x17_1) == 1584) = true := beq_iff_eq.mpr c75
       have c75b1 : ((rd l0 x17_1) != 1584) = false := bne_eq_false_iff_eq.mpr c75
       clear c75
       by_cases c76 : t373 = 9
       rotate_left
       ·rw [if_neg c76] at H
        have c76b0 : (t373 == 9) = false := beq_eq_false_iff_ne.mpr c76
        have c76b1 : (t373 != 9) = true := bne_iff_ne.mpr c76
        have H' := am H
        clear H
        have hnb91 := NB374_368.out
        have hnc91 := NB368_374.out
        have hnb92 := NB374_369.out
        have hnc92 := NB369_374.out
        have hnb93 := NB374_370.out
        have hnc93 := NB370_374.out
        have hnb94 := NB374_372.out
        have hnc94 := NB372_374.out
        have hcz95_0 := bc BK374.out 0 (.int .i64 t373)
        have hfz95_0 := blk_frozen BK374.out 0
        have hnb96 := NB372_368.out
        have hnc96 := NB368_372.out
        have hnb97 := NB372_369.out
        have hnc97 := NB369_372.out
        have hnb98 := NB372_370.out
        have hnc98 := NB370_372.out
        have hcz99_0 := bc BK372.out 0 (.int .i64 (rd l0 x17_1))
        have hfz99_0 := blk_frozen BK372.out 0
        have hnb100 := NB369_368.out
        have hnc100 := NB368_369.out
        have hnb101 := NB369_370.out
        have hnc101 := NB370_369.out
        have hcz102_0 := bc BK369.out 0 (.bool x370000_1)
        have hfz102_0 := blk_frozen BK369.out 0
        have hnb103 := NB370_368.out
        have hnc103 := NB368_370.out
        have hcz104_0 := bc BK370.out 0 (.int .i64 x371000_1)
        have hfz104_0 := blk_frozen BK370.out 0
        go_wp2
        go_roundg kj18
        case measure => have := HK1.out; have := HJ18.out; omega
        case rel => exact ⟨(x3_18), (wrap64 (x17_1 + 1)), (x369000_1), (true), (0), sr, H', ⟨kl⟩, ⟨kR (Kd.R_mono (Kd.R_far (p := ⟨gb370, 0, none⟩) (Kd.R_far (p := ⟨gb369, 0, none⟩) (Kd.R_types (Kd.R_mono HO_3.out (fun k_ hk => (⟨hk, hk.2⟩ : _ ∧ k_ ≠ gb369))) BK370.out (by decide)) (fun _ hk => hk.1.2) (.bool true)) (fun _ hk => hk.2) (.int .i64 0)) (fun _ hk => ⟨hk.1.1.1, hk.1.1.2⟩))⟩, ⟨by (with_reducible repeat (first | refine blk_drewN ?_ _ | refine blk_drew ?_ | refine blk_alloc ?_ _)); refine blk_far ?_ NB368_370.out _; (with_reducible repeat (first | refine blk_drewN ?_ _ | refine blk_drew ?_ | refine blk_alloc ?_ _)); refine blk_far ?_ NB368_369.out _; (with_reducible repeat (first | refine blk_drewN ?_ _ | refine blk_drew ?_ | refine blk_alloc ?_ _)); exact BK368.out⟩, ⟨by (with_reducible repeat (first | refine blk_drewN ?_ _ | refine blk_drew ?_ | refine blk_alloc ?_ _)); refine blk_far ?_ NB369_370.out _; (with_reducible repeat (first | refine blk_drewN ?_ _ | refine blk_drew ?_ | refine blk_alloc ?_ _)); refine blk_put (cs := #[.bool x370000_1]) ?_ 0 _ rfl; (with_reducible repeat (first | refine blk_drewN ?_ _ | refine blk_drew ?_ | refine blk_alloc ?_ _)); exact BK369.out⟩, ⟨by (with_reducible repeat (first | refine blk_drewN ?_ _ | refine blk_drew ?_ | refine blk_alloc ?_ _)); refine blk_put (cs := #[.int .i64 x371000_1]) ?_ 0 _ rfl; (with_reducible repeat (first | refine blk_drewN ?_ _ | refine blk_drew ?_ | refine blk_alloc ?_ _)); refine blk_far ?_ NB370_369.out _; (with_reducible repeat (first | refine blk_drewN ?_ _ | refine blk_drew ?_ | refine blk_alloc ?_ _)); exact BK370.out⟩, ⟨bS⟩⟩
       rw [if_pos c76] at H
       have c76b0 : (t373 == 9) = true := beq_iff_eq.mpr c76
       have c76b1 : (t373 != 9) = false := bne_eq_false_iff_eq.mpr c76
       clear c76
       have H' := am H
       clear H
       have hnb77 := NB374_368.out
       have hnc77 := NB368_374.out
       have hnb78 := NB374_369.out
       have hnc78 := NB369_374.out
       have hnb79 := NB374_370.out
       have hnc79 := NB370_374.out
       have hnb80 := NB374_372.out
       have hnc80 := NB372_374.out
       have hcz81_0 := bc BK374.out 0 (.int .i64 t373)
       have hfz81_0 := blk_frozen BK374.out 0
       have hnb82 := NB372_368.out
       have hnc82 := NB368_372.out
       have hnb83 := NB372_369.out
       have hnc83 := NB369_372.out
       have hnb84 := NB372_370.out
       have hnc84 := NB370_372.out
       have hcz85_0 := bc BK372.out 0 (.int .i64 (rd l0 x17_1))
       have hfz85_0 := blk_frozen BK372.out 0
       have hnb86 := NB369_368.out
       have hnc86 := NB368_369.out
       have hnb87 := NB369_370.out
       have hnc87 := NB370_369.out
       have hcz88_0 := bc BK369.out 0 (.bool x370000_1)
       have hfz88_0 := blk_frozen BK369.out 0
       have hnb89 := NB370_368.out
       have hnc89 := NB368_370.out
       have hcz90_0 := bc BK370.out 0 (.int .i64 x371000_1)
       have hfz90_0 := blk_frozen BK370.out 0
       go_wp2
       go_roundg kj18
       case measure => have := HK1.out; have := HJ18.out; omega
       case rel => exact ⟨(x3_18), (wrap64 (x17_1 + 1)), (x369000_1), (true), (wrap64 (x371000_1 + 1)), sr, H', ⟨kl⟩, ⟨kR (Kd.R_mono (Kd.R_far (p := ⟨gb370, 0, none⟩) (Kd.R_far (p := ⟨gb369, 0, none⟩) (Kd.R_types (Kd.R_mono HO_3.out (fun k_ hk => (⟨hk, hk.2⟩ : _ ∧ k_ ≠ gb369))) BK370.out (by decide)) (fun _ hk => hk.1.2) (.bool true)) (fun _ hk => hk.2) (.int .i64 (wrap64 (x371000_1 + 1)))) (fun _ hk => ⟨hk.1.1.1, hk.1.1.2⟩))⟩, ⟨by (with_reducible repeat (first | refine blk_drewN ?_ _ | refine blk_drew ?_ | refine blk_alloc ?_ _)); refine blk_far ?_ NB368_370.out _; (with_reducible repeat (first | refine blk_drewN ?_ _ | refine blk_drew ?_ | refine blk_alloc ?_ _)); refine blk_far ?_ NB368_369.out _; (with_reducible repeat (first | refine blk_drewN ?_ _ | refine blk_drew ?_ | refine blk_alloc ?_ _)); exact BK368.out⟩, ⟨by (with_reducible repeat (first | refine blk_drewN ?_ _ | refine blk_drew ?_ | refine blk_alloc ?_ _)); refine blk_far ?_ NB369_370.out _; (with_reducible repeat (first | refine blk_drewN ?_ _ | refine blk_drew ?_ | refine blk_alloc ?_ _)); refine blk_put (cs := #[.bool x370000_1]) ?_ 0 _ rfl; (with_reducible repeat (first | refine blk_drewN ?_ _ | refine blk_drew ?_ | refine blk_alloc ?_ _)); exact BK369.out⟩, ⟨by (with_reducible repeat (first | refine blk_drewN ?_ _ | refine blk_drew ?_ | refine blk_alloc ?_ _)); refine blk_put (cs := #[.int .i64 x371000_1]) ?_ 0 _ rfl; (with_reducible repeat (first | refine blk_drewN ?_ _ | refine blk_drew ?_ | refine blk_alloc ?_ _)); refine blk_far ?_ NB370_369.out _; (with_reducible repeat (first | refine blk_drewN ?_ _ | refine blk_drew ?_ | refine blk_alloc ?_ _)); exact BK370.out⟩, ⟨bS⟩⟩
      rw [if_neg c75] at H
      have c75b0 : ((rd l0 x17_1) == 1584) = false := beq_eq_false_iff_ne.mpr c75
      have c75b1 : ((rd l0 x17_1) != 1584) = true := bne_iff_ne.mpr c75
      by_cases c105 : (rd l0 x17_1) = 1585
      rotate_left
      ·rw [if_neg c105] at H
       have c105b0 : ((rd l0 x17_1) == 1585) = false := beq_eq_false_iff_ne.mpr c105
       have c105b1 : ((rd l0 x17_1) != 1585) = true := bne_iff_ne.mpr c105
       by_cases c135 : t373 = 9
       rotate_left
       ·rw [if_neg c135] at H
        have c135b0 : (t373 == 9) = false := beq_eq_false_iff_ne.mpr c135
        have c135b1 : (t373 != 9) = true := bne_iff_ne.mpr c135
        have H' := am H
        clear H
        have hnb150 := NB374_368.out
        have hnc150 := NB368_374.out
        have hnb151 := NB374_369.out
        have hnc151 := NB369_374.out
        have hnb152 := NB374_370.out
        have hnc152 := NB370_374.out
        have hnb153 := NB374_372.out
        have hnc153 := NB372_374.out
        have hcz154_0 := bc BK374.out 0 (.int .i64 t373)
        have hfz154_0 := blk_frozen BK374.out 0
        have hnb155 := NB372_368.out
        have hnc155 := NB368_372.out
        have hnb156 := NB372_369.out
        have hnc156 := NB369_372.out
        have hnb157 := NB372_370.out
        have hnc157 := NB370_372.out
        have hcz158_0 := bc BK372.out 0 (.int .i64 (rd l0 x17_1))
        have hfz158_0 := blk_frozen BK372.out 0
        have hnb159 := NB369_368.out
        have hnc159 := NB368_369.out
        have hnb160 := NB369_370.out
        have hnc160 := NB370_369.out
        have hcz161_0 := bc BK369.out 0 (.bool x370000_1)
        have hfz161_0 := blk_frozen BK369.out 0
        have hnb162 := NB370_368.out
        have hnc162 := NB368_370.out
        have hcz163_0 := bc BK370.out 0 (.int .i64 x371000_1)
        have hfz163_0 := blk_frozen BK370.out 0
        go_wp2
        go_roundg kj18
        case measure => have := HK1.out; have := HJ18.out; omega
        case rel => exact ⟨(x3_18), (wrap64 (x17_1 + 1)), (x369000_1), (false), (0), sr, H', ⟨kl⟩, ⟨kR (Kd.R_mono (Kd.R_far (p := ⟨gb370, 0, none⟩) (Kd.R_far (p := ⟨gb369, 0, none⟩) (Kd.R_types (Kd.R_mono HO_3.out (fun k_ hk => (⟨hk, hk.2⟩ : _ ∧ k_ ≠ gb369))) BK370.out (by decide)) (fun _ hk => hk.1.2) (.bool false)) (fun _ hk => hk.2) (.int .i64 0)) (fun _ hk => ⟨hk.1.1.1, hk.1.1.2⟩))⟩, ⟨by (with_reducible repeat (first | refine blk_drewN ?_ _ | refine blk_drew ?_ | refine blk_alloc ?_ _)); refine blk_far ?_ NB368_370.out _; (with_reducible repeat (first | refine blk_drewN ?_ _ | refine blk_drew ?_ | refine blk_alloc ?_ _)); refine blk_far ?_ NB368_369.out _; (with_reducible repeat (first | refine blk_drewN ?_ _ | refine blk_drew ?_ | refine blk_alloc ?_ _)); exact BK368.out⟩, ⟨by (with_reducible repeat (first | refine blk_drewN ?_ _ | refine blk_drew ?_ | refine blk_alloc ?_ _)); refine blk_far ?_ NB369_370.out _; (with_reducible repeat (first | refine blk_drewN ?_ _ | refine blk_drew ?_ | refine blk_alloc ?_ _)); refine blk_put (cs := #[.bool x370000_1]) ?_ 0 _ rfl; (with_reducible repeat (first | refine blk_drewN ?_ _ | refine blk_drew ?_ | refine blk_alloc ?_ _)); exact BK369.out⟩, ⟨by (with_reducible repeat (first | refine blk_drewN ?_ _ | refine blk_drew ?_ | refine blk_alloc ?_ _)); refine blk_put (cs := #[.int .i64 x371000_1]) ?_ 0 _ rfl; (with_reducible repeat (first | refine blk_drewN ?_ _ | refine blk_drew ?_ | refine blk_alloc ?_ _)); refine blk_far ?_ NB370_369.out _; (with_reducible repeat (first | refine blk_drewN ?_ _ | refine blk_drew ?_ | refine blk_alloc ?_ _)); exact BK370.out⟩, ⟨bS⟩⟩
       rw [if_pos c135] at H
       have c135b0 : (t373 == 9) = true := beq_iff_eq.mpr c135
       have c135b1 : (t373 != 9) = false := bne_eq_false_iff_eq.mpr c135
       clear c135
       have H' := am H
       clear H
       have hnb136 := NB374_368.out
       have hnc136 := NB368_374.out
       have hnb137 := NB374_369.out
       have hnc137 := NB369_374.out
       have hnb138 := NB374_370.out
       have hnc138 := NB370_374.out
       have hnb139 := NB374_372.out
       have hnc139 := NB372_374.out
       have hcz140_0 := bc BK374.out 0 (.int .i64 t373)
       have hfz140_0 := blk_frozen BK374.out 0
       have hnb141 := NB372_368.out
       have hnc141 := NB368_372.out
       have hnb142 := NB372_369.out
       have hnc142 := NB369_372.out
       have hnb143 := NB372_370.out
       have hnc143 := NB370_372.out
       have hcz144_0 := bc BK372.out 0 (.int .i64 (rd l0 x17_1))
       have hfz144_0 := blk_frozen BK372.out 0
       have hnb145 := NB369_368.out
       have hnc145 := NB368_369.out
       have hnb146 := NB369_370.out
       have hnc146 := NB370_369.out
       have hcz147_0 := bc BK369.out 0 (.bool x370000_1)
       have hfz147_0 := blk_frozen BK369.out 0
       have hnb148 := NB370_368.out
       have hnc148 := NB368_370.out
       have hcz149_0 := bc BK370.out 0 (.int .i64 x371000_1)
       have hfz149_0 := blk_frozen BK370.out 0
       go_wp2
       go_roundg kj18
       case measure => have := HK1.out; have := HJ18.out; omega
       case rel => exact ⟨(x3_18), (wrap64 (x17_1 + 1)), (x369000_1), (false), (wrap64 (x371000_1 + 1)), sr, H', ⟨kl⟩, ⟨kR (Kd.R_mono (Kd.R_far (p := ⟨gb370, 0, none⟩) (Kd.R_far (p := ⟨gb369, 0, none⟩) (Kd.R_types (Kd.R_mono HO_3.out (fun k_ hk => (⟨hk, hk.2⟩ : _ ∧ k_ ≠ gb369))) BK370.out (by decide)) (fun _ hk => hk.1.2) (.bool false)) (fun _ hk => hk.2) (.int .i64 (wrap64 (x371000_1 + 1)))) (fun _ hk => ⟨hk.1.1.1, hk.1.1.2⟩))⟩, ⟨by (with_reducible repeat (first | refine blk_drewN ?_ _ | refine blk_drew ?_ | refine blk_alloc ?_ _)); refine blk_far ?_ NB368_370.out _; (with_reducible repeat (first | refine blk_drewN ?_ _ | refine blk_drew ?_ | refine blk_alloc ?_ _)); refine blk_far ?_ NB368_369.out _; (with_reducible repeat (first | refine blk_drewN ?_ _ | refine blk_drew ?_ | refine blk_alloc ?_ _)); exact BK368.out⟩, ⟨by (with_reducible repeat (first | refine blk_drewN ?_ _ | refine blk_drew ?_ | refine blk_alloc ?_ _)); refine blk_far ?_ NB369_370.out _; (with_reducible repeat (first | refine blk_drewN ?_ _ | refine blk_drew ?_ | refine blk_alloc ?_ _)); refine blk_put (cs := #[.bool x370000_1]) ?_ 0 _ rfl; (with_reducible repeat (first | refine blk_drewN ?_ _ | refine blk_drew ?_ | refine blk_alloc ?_ _)); exact BK369.out⟩, ⟨by (with_reducible repeat (first | refine blk_drewN ?_ _ | refine blk_drew ?_ | refine blk_alloc ?_ _)); refine blk_put (cs := #[.int .i64 x371000_1]) ?_ 0 _ rfl; (with_reducible repeat (first | refine blk_drewN ?_ _ | refine blk_drew ?_ | refine blk_alloc ?_ _)); refine blk_far ?_ NB370_369.out _; (with_reducible repeat (first | refine blk_drewN ?_ _ | refine blk_drew ?_ | refine blk_alloc ?_ _)); exact BK370.out⟩, ⟨bS⟩⟩
      rw [if_pos c105] at H
      have c105b0 : ((rd l0 x17_1) == 1585) = true := beq_iff_eq.mpr c105
      have c105b1 : ((rd l0 x17_1) != 1585) = false := bne_eq_false_iff_eq.mpr c105
      clear c105
      by_cases c106 : t373 = 9
      rotate_left
      ·rw [if_neg c106] at H
       have c106b0 : (t373 == 9) = false := beq_eq_false_iff_ne.mpr c106
       have c106b1 : (t373 != 9) = true := bne_iff_ne.mpr c106
       have H' := am H
       clear H
       have hnb121 := NB374_368.out
       have hnc121 := NB368_374.out
       have hnb122 := NB374_369.out
       have hnc122 := NB369_374.out
       have hnb123 := NB374_370.out
       have hnc123 := NB370_374.out
       have hnb124 := NB374_372.out
       have hnc124 := NB372_374.out
       have hcz125_0 := bc BK374.out 0 (.int .i64 t373)
       have hfz125_0 := blk_frozen BK374.out 0
       have hnb126 := NB372_368.out
       have hnc126 := NB368_372.out
       have hnb127 := NB372_369.out
       have hnc127 := NB369_372.out
       have hnb128 := NB372_370.out
       have hnc128 := NB370_372.out
       have hcz129_0 := bc BK372.out 0 (.int .i64 (rd l0 x17_1))
       have hfz129_0 := blk_frozen BK372.out 0
       have hnb130 := NB369_368.out
       have hnc130 := NB368_369.out
       have hnb131 := NB369_370.out
       have hnc131 := NB370_369.out
       have hcz132_0 := bc BK369.out 0 (.bool x370000_1)
       have hfz132_0 := blk_frozen BK369.out 0
       have hnb133 := NB370_368.out
       have hnc133 := NB368_370.out
       have hcz134_0 := bc BK370.out 0 (.int .i64 x371000_1)
       have hfz134_0 := blk_frozen BK370.out 0
       go_wp2
       go_roundg kj18
       case measure => have := HK1.out; have := HJ18.out; omega
       case rel => exact ⟨(x3_18), (wrap64 (x17_1 + 1)), (x369000_1), (x370000_1), (0), sr, H', ⟨kl⟩, ⟨kR (Kd.R_mono (Kd.R_far (p := ⟨gb370, 0, none⟩) (Kd.R_far (p := ⟨gb369, 0, none⟩) (Kd.R_types (Kd.R_mono HO_3.out (fun k_ hk => (⟨hk, hk.2⟩ : _ ∧ k_ ≠ gb369))) BK370.out (by decide)) (fun _ hk => hk.1.2) (.bool x370000_1)) (fun _ hk => hk.2) (.int .i64 0)) (fun _ hk => ⟨hk.1.1.1, hk.1.1.2⟩))⟩, ⟨by (with_reducible repeat (first | refine blk_drewN ?_ _ | refine blk_drew ?_ | refine blk_alloc ?_ _)); refine blk_far ?_ NB368_370.out _; (with_reducible repeat (first | refine blk_drewN ?_ _ | refine blk_drew ?_ | refine blk_alloc ?_ _)); refine blk_far ?_ NB368_369.out _; (with_reducible repeat (first | refine blk_drewN ?_ _ | refine blk_drew ?_ | refine blk_alloc ?_ _)); exact BK368.out⟩, ⟨by (with_reducible repeat (first | refine blk_drewN ?_ _ | refine blk_drew ?_ | refine blk_alloc ?_ _)); refine blk_far ?_ NB369_370.out _; (with_reducible repeat (first | refine blk_drewN ?_ _ | refine blk_drew ?_ | refine blk_alloc ?_ _)); refine blk_put (cs := #[.bool x370000_1]) ?_ 0 _ rfl; (with_reducible repeat (first | refine blk_drewN ?_ _ | refine blk_drew ?_ | refine blk_alloc ?_ _)); exact BK369.out⟩, ⟨by (with_reducible repeat (first | refine blk_drewN ?_ _ | refine blk_drew ?_ | refine blk_alloc ?_ _)); refine blk_put (cs := #[.int .i64 x371000_1]) ?_ 0 _ rfl; (with_reducible repeat (first | refine blk_drewN ?_ _ | refine blk_drew ?_ | refine blk_alloc ?_ _)); refine blk_far ?_ NB370_369.out _; (with_reducible repeat (first | refine blk_drewN ?_ _ | refine blk_drew ?_ | refine blk_alloc ?_ _)); exact BK370.out⟩, ⟨bS⟩⟩
      rw [if_pos c106] at H
      have c106b0 : (t373 == 9) = true := beq_iff_eq.mpr c106
      have c106b1 : (t373 != 9) = false := bne_eq_false_iff_eq.mpr c106
      clear c106
      have H' := am H
      clear H
      have hnb107 := NB374_368.out
      have hnc107 := NB368_374.out
      have hnb108 := NB374_369.out
      have hnc108 := NB369_374.out
      have hnb109 := NB374_370.out
      have hnc109 := NB370_374.out
      have hnb110 := NB374_372.out
      have hnc110 := NB372_374.out
      have hcz111_0 := bc BK374.out 0 (.int .i64 t373)
      have hfz111_0 := blk_frozen BK374.out 0
      have hnb112 := NB372_368.out
      have hnc112 := NB368_372.out
      have hnb113 := NB372_369.out
      have hnc113 := NB369_372.out
      have hnb114 := NB372_370.out
      have hnc114 := NB370_372.out
      have hcz115_0 := bc BK372.out 0 (.int .i64 (rd l0 x17_1))
      have hfz115_0 := blk_frozen BK372.out 0
      have hnb116 := NB369_368.out
      have hnc116 := NB368_369.out
      have hnb117 := NB369_370.out
      have hnc117 := NB370_369.out
      have hcz118_0 := bc BK369.out 0 (.bool x370000_1)
      have hfz118_0 := blk_frozen BK369.out 0
      have hnb119 := NB370_368.out
      have hnc119 := NB368_370.out
      have hcz120_0 := bc BK370.out 0 (.int .i64 x371000_1)
      have hfz120_0 := blk_frozen BK370.out 0
      go_wp2
      go_roundg kj18
      case measure => have := HK1.out; have := HJ18.out; omega
      case rel => exact ⟨(x3_18), (wrap64 (x17_1 + 1)), (x369000_1), (x370000_1), (wrap64 (x371000_1 + 1)), sr, H', ⟨kl⟩, ⟨kR (Kd.R_mono (Kd.R_far (p := ⟨gb370, 0, none⟩) (Kd.R_far (p := ⟨gb369, 0, none⟩) (Kd.R_types (Kd.R_mono HO_3.out (fun k_ hk => (⟨hk, hk.2⟩ : _ ∧ k_ ≠ gb369))) BK370.out (by decide)) (fun _ hk => hk.1.2) (.bool x370000_1)) (fun _ hk => hk.2) (.int .i64 (wrap64 (x371000_1 + 1)))) (fun _ hk => ⟨hk.1.1.1, hk.1.1.2⟩))⟩, ⟨by (with_reducible repeat (first | refine blk_drewN ?_ _ | refine blk_drew ?_ | refine blk_alloc ?_ _)); refine blk_far ?_ NB368_370.out _; (with_reducible repeat (first | refine blk_drewN ?_ _ | refine blk_drew ?_ | refine blk_alloc ?_ _)); refine blk_far ?_ NB368_369.out _; (with_reducible repeat (first | refine blk_drewN ?_ _ | refine blk_drew ?_ | refine blk_alloc ?_ _)); exact BK368.out⟩, ⟨by (with_reducible repeat (first | refine blk_drewN ?_ _ | refine blk_drew ?_ | refine blk_alloc ?_ _)); refine blk_far ?_ NB369_370.out _; (with_reducible repeat (first | refine blk_drewN ?_ _ | refine blk_drew ?_ | refine blk_alloc ?_ _)); refine blk_put (cs := #[.bool x370000_1]) ?_ 0 _ rfl; (with_reducible repeat (first | refine blk_drewN ?_ _ | refine blk_drew ?_ | refine blk_alloc ?_ _)); exact BK369.out⟩, ⟨by (with_reducible repeat (first | refine blk_drewN ?_ _ | refine blk_drew ?_ | refine blk_alloc ?_ _)); refine blk_put (cs := #[.int .i64 x371000_1]) ?_ 0 _ rfl; (with_reducible repeat (first | refine blk_drewN ?_ _ | refine blk_drew ?_ | refine blk_alloc ?_ _)); refine blk_far ?_ NB370_369.out _; (with_reducible repeat (first | refine blk_drewN ?_ _ | refine blk_drew ?_ | refine blk_alloc ?_ _)); exact BK370.out⟩, ⟨bS⟩⟩
     rw [if_neg c74] at H
     have c74b0 : (t373 == 2) = false := beq_eq_false_iff_ne.mpr c74
     have c74b1 : (t373 != 2) = true := bne_iff_ne.mpr c74
     by_cases c164 : (rd l0 x17_1) = 1584
     ·rw [if_pos c164] at H
      have c164b0 : ((rd l0 x17_1) == 1584) = true := beq_iff_eq.mpr c164
      have c164b1 : ((rd l0 x17_1) != 1584) = false := bne_eq_false_iff_eq.mpr c164
      clear c164
      by_cases c165 : t373 = 9
      rotate_left
      ·rw [if_neg c165] at H
       have c165b0 : (t373 == 9) = false := beq_eq_false_iff_ne.mpr c165
       have c165b1 : (t373 != 9) = true := bne_iff_ne.mpr c165
       have H' := am H
       clear H
       have hnb181 := NB374_368.out
       have hnc181 := NB368_374.out
       have hnb182 := NB374_369.out
       have hnc182 := NB369_374.out
       have hnb183 := NB374_370.out
       have hnc183 := NB370_374.out
       have hnb184 := NB374_372.out
       have hnc184 := NB372_374.out
       have hcz185_0 := bc BK374.out 0 (.int .i64 t373)
       have hfz185_0 := blk_frozen BK374.out 0
       have hnb186 := NB368_369.out
       have hnc186 := NB369_368.out
       have hnb187 := NB368_370.out
       have hnc187 := NB370_368.out
       have hnb188 := NB368_372.out
       have hnc188 := NB372_368.out
       have hcz189_0 := bc BK368.out 0 (.bool x369000_1)
       have hfz189_0 := blk_frozen BK368.out 0
       have hnb190 := NB372_369.out
       have hnc190 := NB369_372.out
       have hnb191 := NB372_370.out
       have hnc191 := NB370_372.out
       have hcz192_0 := bc BK372.out 0 (.int .i64 (rd l0 x17_1))
       have hfz192_0 := blk_frozen BK372.out 0
       have hnb193 := NB369_370.out
       have hnc193 := NB370_369.out
       have hcz194_0 := bc BK369.out 0 (.bool x370000_1)
       have hfz194_0 := blk_frozen BK369.out 0
       have hcz195_0 := bc BK370.out 0 (.int .i64 x371000_1)
       have hfz195_0 := blk_frozen BK370.out 0
       go_wp2
       go_roundg kj18
       case measure => have := HK1.out; have := HJ18.out; omega
       case rel => exact ⟨(x3_18), (wrap64 (x17_1 + 1)), ((t373 == 8)), (true), (0), sr, H', ⟨kl⟩, ⟨kR (Kd.R_mono (Kd.R_far (p := ⟨gb370, 0, none⟩) (Kd.R_far (p := ⟨gb369, 0, none⟩) (Kd.R_far (p := ⟨gb368, 0, none⟩) (Kd.R_types (Kd.R_mono (Kd.R_mono HO_3.out (fun k_ hk => (⟨hk, hk.1⟩ : _ ∧ k_ ≠ gb368))) (fun k_ hk => (⟨hk, hk.1.2⟩ : _ ∧ k_ ≠ gb369))) BK370.out (by decide)) (fun _ hk => hk.1.1.2) (.bool (t373 == 8))) (fun _ hk => hk.1.2) (.bool true)) (fun _ hk => hk.2) (.int .i64 0)) (fun _ hk => ⟨hk.1.1.1.1, hk.1.1.1.2⟩))⟩, ⟨by (with_reducible repeat (first | refine blk_drewN ?_ _ | refine blk_drew ?_ | refine blk_alloc ?_ _)); refine blk_far ?_ NB368_370.out _; (with_reducible repeat (first | refine blk_drewN ?_ _ | refine blk_drew ?_ | refine blk_alloc ?_ _)); refine blk_far ?_ NB368_369.out _; (with_reducible repeat (first | refine blk_drewN ?_ _ | refine blk_drew ?_ | refine blk_alloc ?_ _)); refine blk_put (cs := #[.bool x369000_1]) ?_ 0 _ rfl; (with_reducible repeat (first | refine blk_drewN ?_ _ | refine blk_drew ?_ | refine blk_alloc ?_ _)); exact BK368.out⟩, ⟨by (with_reducible repeat (first | refine blk_drewN ?_ _ | refine blk_drew ?_ | refine blk_alloc ?_ _)); refine blk_far ?_ NB369_370.out _; (with_reducible repeat (first | refine blk_drewN ?_ _ | refine blk_drew ?_ | refine blk_alloc ?_ _)); refine blk_put (cs := #[.bool x370000_1]) ?_ 0 _ rfl; (with_reducible repeat (first | refine blk_drewN ?_ _ | refine blk_drew ?_ | refine blk_alloc ?_ _)); refine blk_far ?_ NB369_368.out _; (with_reducible repeat (first | refine blk_drewN ?_ _ | refine blk_drew ?_ | refine blk_alloc ?_ _)); exact BK369.out⟩, ⟨by (with_reducible repeat (first | refine blk_drewN ?_ _ | refine blk_drew ?_ | refine blk_alloc ?_ _)); refine blk_put (cs := #[.int .i64 x371000_1]) ?_ 0 _ rfl; (with_reducible repeat (first | refine blk_drewN ?_ _ | refine blk_drew ?_ | refine blk_alloc ?_ _)); refine blk_far ?_ NB370_369.out _; (with_reducible repeat (first | refine blk_drewN ?_ _ | refine blk_drew ?_ | refine blk_alloc ?_ _)); refine blk_far ?_ NB370_368.out _; (with_reducible repeat (first | refine blk_drewN ?_ _ | refine blk_drew ?_ | refine blk_alloc ?_ _)); exact BK370.out⟩, ⟨bS⟩⟩
      rw [if_pos c165] at H
      have c165b0 : (t373 == 9) = true := beq_iff_eq.mpr c165
      have c165b1 : (t373 != 9) = false := bne_eq_false_iff_eq.mpr c165
      clear c165
      have H' := am H
      clear H
      have hnb166 := NB374_368.out
      have hnc166 := NB368_374.out
      have hnb167 := NB374_369.out
      have hnc167 := NB369_374.out
      have hnb168 := NB374_370.out
      have hnc168 := NB370_374.out
      have hnb169 := NB374_372.out
      have hnc169 := NB372_374.out
      have hcz170_0 := bc BK374.out 0 (.int .i64 t373)
      have hfz170_0 := blk_frozen BK374.out 0
      have hnb171 := NB368_369.out
      have hnc171 := NB369_368.out
      have hnb172 := NB368_370.out
      have hnc172 := NB370_368.out
      have hnb173 := NB368_372.out
      have hnc173 := NB372_368.out
      have hcz174_0 := bc BK368.out 0 (.bool x369000_1)
      have hfz174_0 := blk_frozen BK368.out 0
      have hnb175 := NB372_369.out
      have hnc175 := NB369_372.out
      have hnb176 := NB372_370.out
      have hnc176 := NB370_372.out
      have hcz177_0 := bc BK372.out 0 (.int .i64 (rd l0 x17_1))
      have hfz177_0 := blk_frozen BK372.out 0
      have hnb178 := NB369_370.out
      have hnc178 := NB370_369.out
      have hcz179_0 := bc BK369.out 0 (.bool x370000_1)
      have hfz179_0 := blk_frozen BK369.out 0
      have hcz180_0 := bc BK370.out 0 (.int .i64 x371000_1)
      have hfz180_0 := blk_frozen BK370.out 0
      go_wp2
      go_roundg kj18
      case measure => have := HK1.out; have := HJ18.out; omega
      case rel => exact ⟨(x3_18), (wrap64 (x17_1 + 1)), ((t373 == 8)), (true), (wrap64 (x371000_1 + 1)), sr, H', ⟨kl⟩, ⟨kR (Kd.R_mono (Kd.R_far (p := ⟨gb370, 0, none⟩) (Kd.R_far (p := ⟨gb369, 0, none⟩) (Kd.R_far (p := ⟨gb368, 0, none⟩) (Kd.R_types (Kd.R_mono (Kd.R_mono HO_3.out (fun k_ hk => (⟨hk, hk.1⟩ : _ ∧ k_ ≠ gb368))) (fun k_ hk => (⟨hk, hk.1.2⟩ : _ ∧ k_ ≠ gb369))) BK370.out (by decide)) (fun _ hk => hk.1.1.2) (.bool (t373 == 8))) (fun _ hk => hk.1.2) (.bool true)) (fun _ hk => hk.2) (.int .i64 (wrap64 (x371000_1 + 1)))) (fun _ hk => ⟨hk.1.1.1.1, hk.1.1.1.2⟩))⟩, ⟨by (with_reducible repeat (first | refine blk_drewN ?_ _ | refine blk_drew ?_ | refine blk_alloc ?_ _)); refine blk_far ?_ NB368_370.out _; (with_reducible repeat (first | refine blk_drewN ?_ _ | refine blk_drew ?_ | refine blk_alloc ?_ _)); refine blk_far ?_ NB368_369.out _; (with_reducible repeat (first | refine blk_drewN ?_ _ | refine blk_drew ?_ | refine blk_alloc ?_ _)); refine blk_put (cs := #[.bool x369000_1]) ?_ 0 _ rfl; (with_reducible repeat (first | refine blk_drewN ?_ _ | refine blk_drew ?_ | refine blk_alloc ?_ _)); exact BK368.out⟩, ⟨by (with_reducible repeat (first | refine blk_drewN ?_ _ | refine blk_drew ?_ | refine blk_alloc ?_ _)); refine blk_far ?_ NB369_370.out _; (with_reducible repeat (first | refine blk_drewN ?_ _ | refine blk_drew ?_ | refine blk_alloc ?_ _)); refine blk_put (cs := #[.bool x370000_1]) ?_ 0 _ rfl; (with_reducible repeat (first | refine blk_drewN ?_ _ | refine blk_drew ?_ | refine blk_alloc ?_ _)); refine blk_far ?_ NB369_368.out _; (with_reducible repeat (first | refine blk_drewN ?_ _ | refine blk_drew ?_ | refine blk_alloc ?_ _)); exact BK369.out⟩, ⟨by (with_reducible repeat (first | refine blk_drewN ?_ _ | refine blk_drew ?_ | refine blk_alloc ?_ _)); refine blk_put (cs := #[.int .i64 x371000_1]) ?_ 0 _ rfl; (with_reducible repeat (first | refine blk_drewN ?_ _ | refine blk_drew ?_ | refine blk_alloc ?_ _)); refine blk_far ?_ NB370_369.out _; (with_reducible repeat (first | refine blk_drewN ?_ _ | refine blk_drew ?_ | refine blk_alloc ?_ _)); refine blk_far ?_ NB370_368.out _; (with_reducible repeat (first | refine blk_drewN ?_ _ | refine blk_drew ?_ | refine blk_alloc ?_ _)); exact BK370.out⟩, ⟨bS⟩⟩
     rw [if_neg c164] at H
     have c164b0 : ((rd l0 x17_1) == 1584) = false := beq_eq_false_iff_ne.mpr c164
     have c164b1 : ((rd l0 x17_1) != 1584) = true := bne_iff_ne.mpr c164
     by_cases c196 : (rd l0 x17_1) = 1585
     rotate_left
     ·rw [if_neg c196] at H
      have c196b0 : ((rd l0 x17_1) == 1585) = false := beq_eq_false_iff_ne.mpr c196
      have c196b1 : ((rd l0 x17_1) != 1585) = true := bne_iff_ne.mpr c196
      by_cases c228 : t373 = 9
      rotate_left
      ·rw [if_neg c228] at H
       have c228b0 : (t373 == 9) = false := beq_eq_false_iff_ne.mpr c228
       have c228b1 : (t373 != 9) = true := bne_iff_ne.mpr c228
       have H' := am H
       clear H
       have hnb244 := NB374_368.out
       have hnc244 := NB368_374.out
       have hnb245 := NB374_369.out
       have hnc245 := NB369_374.out
       have hnb246 := NB374_370.out
       have hnc246 := NB370_374.out
       have hnb247 := NB374_372.out
       have hnc247 := NB372_374.out
       have hcz248_0 := bc BK374.out 0 (.int .i64 t373)
       have hfz248_0 := blk_frozen BK374.out 0
       have hnb249 := NB368_369.out
       have hnc249 := NB369_368.out
       have hnb250 := NB368_370.out
       have hnc250 := NB370_368.out
       have hnb251 := NB368_372.out
       have hnc251 := NB372_368.out
       have hcz252_0 := bc BK368.out 0 (.bool x369000_1)
       have hfz252_0 := blk_frozen BK368.out 0
       have hnb253 := NB372_369.out
       have hnc253 := NB369_372.out
       have hnb254 := NB372_370.out
       have hnc254 := NB370_372.out
       have hcz255_0 := bc BK372.out 0 (.int .i64 (rd l0 x17_1))
       have hfz255_0 := blk_frozen BK372.out 0
       have hnb256 := NB369_370.out
       have hnc256 := NB370_369.out
       have hcz257_0 := bc BK369.out 0 (.bool x370000_1)
       have hfz257_0 := blk_frozen BK369.out 0
       have hcz258_0 := bc BK370.out 0 (.int .i64 x371000_1)
       have hfz258_0 := blk_frozen BK370.out 0
       go_wp2
       go_roundg kj18
       case measure => have := HK1.out; have := HJ18.out; omega
       case rel => exact ⟨(x3_18), (wrap64 (x17_1 + 1)), ((t373 == 8)), (false), (0), sr, H', ⟨kl⟩, ⟨kR (Kd.R_mono (Kd.R_far (p := ⟨gb370, 0, none⟩) (Kd.R_far (p := ⟨gb369, 0, none⟩) (Kd.R_far (p := ⟨gb368, 0, none⟩) (Kd.R_types (Kd.R_mono (Kd.R_mono HO_3.out (fun k_ hk => (⟨hk, hk.1⟩ : _ ∧ k_ ≠ gb368))) (fun k_ hk => (⟨hk, hk.1.2⟩ : _ ∧ k_ ≠ gb369))) BK370.out (by decide)) (fun _ hk => hk.1.1.2) (.bool (t373 == 8))) (fun _ hk => hk.1.2) (.bool false)) (fun _ hk => hk.2) (.int .i64 0)) (fun _ hk => ⟨hk.1.1.1.1, hk.1.1.1.2⟩))⟩, ⟨by (with_reducible repeat (first | refine blk_drewN ?_ _ | refine blk_drew ?_ | refine blk_alloc ?_ _)); refine blk_far ?_ NB368_370.out _; (with_reducible repeat (first | refine blk_drewN ?_ _ | refine blk_drew ?_ | refine blk_alloc ?_ _)); refine blk_far ?_ NB368_369.out _; (with_reducible repeat (first | refine blk_drewN ?_ _ | refine blk_drew ?_ | refine blk_alloc ?_ _)); refine blk_put (cs := #[.bool x369000_1]) ?_ 0 _ rfl; (with_reducible repeat (first | refine blk_drewN ?_ _ | refine blk_drew ?_ | refine blk_alloc ?_ _)); exact BK368.out⟩, ⟨by (with_reducible repeat (first | refine blk_drewN ?_ _ | refine blk_drew ?_ | refine blk_alloc ?_ _)); refine blk_far ?_ NB369_370.out _; (with_reducible repeat (first | refine blk_drewN ?_ _ | refine blk_drew ?_ | refine blk_alloc ?_ _)); refine blk_put (cs := #[.bool x370000_1]) ?_ 0 _ rfl; (with_reducible repeat (first | refine blk_drewN ?_ _ | refine blk_drew ?_ | refine blk_alloc ?_ _)); refine blk_far ?_ NB369_368.out _; (with_reducible repeat (first | refine blk_drewN ?_ _ | refine blk_drew ?_ | refine blk_alloc ?_ _)); exact BK369.out⟩, ⟨by (with_reducible repeat (first | refine blk_drewN ?_ _ | refine blk_drew ?_ | refine blk_alloc ?_ _)); refine blk_put (cs := #[.int .i64 x371000_1]) ?_ 0 _ rfl; (with_reducible repeat (first | refine blk_drewN ?_ _ | refine blk_drew ?_ | refine blk_alloc ?_ _)); refine blk_far ?_ NB370_369.out _; (with_reducible repeat (first | refine blk_drewN ?_ _ | refine blk_drew ?_ | refine blk_alloc ?_ _)); refine blk_far ?_ NB370_368.out _; (with_reducible repeat (first | refine blk_drewN ?_ _ | refine blk_drew ?_ | refine blk_alloc ?_ _)); exact BK370.out⟩, ⟨bS⟩⟩
      rw [if_pos c228] at H
      have c228b0 : (t373 == 9) = true := beq_iff_eq.mpr c228
      have c228b1 : (t373 != 9) = false := bne_eq_false_iff_eq.mpr c228
      clear c228
      have H' := am H
      clear H
      have hnb229 := NB374_368.out
      have hnc229 := NB368_374.out
      have hnb230 := NB374_369.out
      have hnc230 := NB369_374.out
      have hnb231 := NB374_370.out
      have hnc231 := NB370_374.out
      have hnb232 := NB374_372.out
      have hnc232 := NB372_374.out
      have hcz233_0 := bc BK374.out 0 (.int .i64 t373)
      have hfz233_0 := blk_frozen BK374.out 0
      have hnb234 := NB368_369.out
      have hnc234 := NB369_368.out
      have hnb235 := NB368_370.out
      have hnc235 := NB370_368.out
      have hnb236 := NB368_372.out
      have hnc236 := NB372_368.out
      have hcz237_0 := bc BK368.out 0 (.bool x369000_1)
      have hfz237_0 := blk_frozen BK368.out 0
      have hnb238 := NB372_369.out
      have hnc238 := NB369_372.out
      have hnb239 := NB372_370.out
      have hnc239 := NB370_372.out
      have hcz240_0 := bc BK372.out 0 (.int .i64 (rd l0 x17_1))
      have hfz240_0 := blk_frozen BK372.out 0
      have hnb241 := NB369_370.out
      have hnc241 := NB370_369.out
      have hcz242_0 := bc BK369.out 0 (.bool x370000_1)
      have hfz242_0 := blk_frozen BK369.out 0
      have hcz243_0 := bc BK370.out 0 (.int .i64 x371000_1)
      have hfz243_0 := blk_frozen BK370.out 0
      go_wp2
      go_roundg kj18
      case measure => have := HK1.out; have := HJ18.out; omega
      case rel => exact ⟨(x3_18), (wrap64 (x17_1 + 1)), ((t373 == 8)), (false), (wrap64 (x371000_1 + 1)), sr, H', ⟨kl⟩, ⟨kR (Kd.R_mono (Kd.R_far (p := ⟨gb370, 0, none⟩) (Kd.R_far (p := ⟨gb369, 0, none⟩) (Kd.R_far (p := ⟨gb368, 0, none⟩) (Kd.R_types (Kd.R_mono (Kd.R_mono HO_3.out (fun k_ hk => (⟨hk, hk.1⟩ : _ ∧ k_ ≠ gb368))) (fun k_ hk => (⟨hk, hk.1.2⟩ : _ ∧ k_ ≠ gb369))) BK370.out (by decide)) (fun _ hk => hk.1.1.2) (.bool (t373 == 8))) (fun _ hk => hk.1.2) (.bool false)) (fun _ hk => hk.2) (.int .i64 (wrap64 (x371000_1 + 1)))) (fun _ hk => ⟨hk.1.1.1.1, hk.1.1.1.2⟩))⟩, ⟨by (with_reducible repeat (first | refine blk_drewN ?_ _ | refine blk_drew ?_ | refine blk_alloc ?_ _)); refine blk_far ?_ NB368_370.out _; (with_reducible repeat (first | refine blk_drewN ?_ _ | refine blk_drew ?_ | refine blk_alloc ?_ _)); refine blk_far ?_ NB368_369.out _; (with_reducible repeat (first | refine blk_drewN ?_ _ | refine blk_drew ?_ | refine blk_alloc ?_ _)); refine blk_put (cs := #[.bool x369000_1]) ?_ 0 _ rfl; (with_reducible repeat (first | refine blk_drewN ?_ _ | refine blk_drew ?_ | refine blk_alloc ?_ _)); exact BK368.out⟩, ⟨by (with_reducible repeat (first | refine blk_drewN ?_ _ | refine blk_drew ?_ | refine blk_alloc ?_ _)); refine blk_far ?_ NB369_370.out _; (with_reducible repeat (first | refine blk_drewN ?_ _ | refine blk_drew ?_ | refine blk_alloc ?_ _)); refine blk_put (cs := #[.bool x370000_1]) ?_ 0 _ rfl; (with_reducible repeat (first | refine blk_drewN ?_ _ | refine blk_drew ?_ | refine blk_alloc ?_ _)); refine blk_far ?_ NB369_368.out _; (with_reducible repeat (first | refine blk_drewN ?_ _ | refine blk_drew ?_ | refine blk_alloc ?_ _)); exact BK369.out⟩, ⟨by (with_reducible repeat (first | refine blk_drewN ?_ _ | refine blk_drew ?_ | refine blk_alloc ?_ _)); refine blk_put (cs := #[.int .i64 x371000_1]) ?_ 0 _ rfl; (with_reducible repeat (first | refine blk_drewN ?_ _ | refine blk_drew ?_ | refine blk_alloc ?_ _)); refine blk_far ?_ NB370_369.out _; (with_reducible repeat (first | refine blk_drewN ?_ _ | refine blk_drew ?_ | refine blk_alloc ?_ _)); refine blk_far ?_ NB370_368.out _; (with_reducible repeat (first | refine blk_drewN ?_ _ | refine blk_drew ?_ | refine blk_alloc ?_ _)); exact BK370.out⟩, ⟨bS⟩⟩
     rw [if_pos c196] at H
     have c196b0 : ((rd l0 x17_1) == 1585) = true := beq_iff_eq.mpr c196
     have c196b1 : ((rd l0 x17_1) != 1585) = false := bne_eq_false_iff_eq.mpr c196
     clear c196
     by_cases c197 : t373 = 9
     rotate_left
     ·rw [if_neg c197] at H
      have c197b0 : (t373 == 9) = false := beq_eq_false_iff_ne.mpr c197
      have c197b1 : (t373 != 9) = true := bne_iff_ne.mpr c197
      have H' := am H
      clear H
      have hnb213 := NB374_368.out
      have hnc213 := NB368_374.out
      have hnb214 := NB374_369.out
      have hnc214 := NB369_374.out
      have hnb215 := NB374_370.out
      have hnc215 := NB370_374.out
      have hnb216 := NB374_372.out
      have hnc216 := NB372_374.out
      have hcz217_0 := bc BK374.out 0 (.int .i64 t373)
      have hfz217_0 := blk_frozen BK374.out 0
      have hnb218 := NB368_369.out
      have hnc218 := NB369_368.out
      have hnb219 := NB368_370.out
      have hnc219 := NB370_368.out
      have hnb220 := NB368_372.out
      have hnc220 := NB372_368.out
      have hcz221_0 := bc BK368.out 0 (.bool x369000_1)
      have hfz221_0 := blk_frozen BK368.out 0
      have hnb222 := NB372_369.out
      have hnc222 := NB369_372.out
      have hnb223 := NB372_370.out
      have hnc223 := NB370_372.out
      have hcz224_0 := bc BK372.out 0 (.int .i64 (rd l0 x17_1))
      have hfz224_0 := blk_frozen BK372.out 0
      have hnb225 := NB369_370.out
      have hnc225 := NB370_369.out
      have hcz226_0 := bc BK369.out 0 (.bool x370000_1)
      have hfz226_0 := blk_frozen BK369.out 0
      have hcz227_0 := bc BK370.out 0 (.int .i64 x371000_1)
      have hfz227_0 := blk_frozen BK370.out 0
      go_wp2
      go_roundg kj18
      case measure => have := HK1.out; have := HJ18.out; omega
      case rel => exact ⟨(x3_18), (wrap64 (x17_1 + 1)), ((t373 == 8)), (x370000_1), (0), sr, H', ⟨kl⟩, ⟨kR (Kd.R_mono (Kd.R_far (p := ⟨gb370, 0, none⟩) (Kd.R_far (p := ⟨gb369, 0, none⟩) (Kd.R_far (p := ⟨gb368, 0, none⟩) (Kd.R_types (Kd.R_mono (Kd.R_mono HO_3.out (fun k_ hk => (⟨hk, hk.1⟩ : _ ∧ k_ ≠ gb368))) (fun k_ hk => (⟨hk, hk.1.2⟩ : _ ∧ k_ ≠ gb369))) BK370.out (by decide)) (fun _ hk => hk.1.1.2) (.bool (t373 == 8))) (fun _ hk => hk.1.2) (.bool x370000_1)) (fun _ hk => hk.2) (.int .i64 0)) (fun _ hk => ⟨hk.1.1.1.1, hk.1.1.1.2⟩))⟩, ⟨by (with_reducible repeat (first | refine blk_drewN ?_ _ | refine blk_drew ?_ | refine blk_alloc ?_ _)); refine blk_far ?_ NB368_370.out _; (with_reducible repeat (first | refine blk_drewN ?_ _ | refine blk_drew ?_ | refine blk_alloc ?_ _)); refine blk_far ?_ NB368_369.out _; (with_reducible repeat (first | refine blk_drewN ?_ _ | refine blk_drew ?_ | refine blk_alloc ?_ _)); refine blk_put (cs := #[.bool x369000_1]) ?_ 0 _ rfl; (with_reducible repeat (first | refine blk_drewN ?_ _ | refine blk_drew ?_ | refine blk_alloc ?_ _)); exact BK368.out⟩, ⟨by (with_reducible repeat (first | refine blk_drewN ?_ _ | refine blk_drew ?_ | refine blk_alloc ?_ _)); refine blk_far ?_ NB369_370.out _; (with_reducible repeat (first | refine blk_drewN ?_ _ | refine blk_drew ?_ | refine blk_alloc ?_ _)); refine blk_put (cs := #[.bool x370000_1]) ?_ 0 _ rfl; (with_reducible repeat (first | refine blk_drewN ?_ _ | refine blk_drew ?_ | refine blk_alloc ?_ _)); refine blk_far ?_ NB369_368.out _; (with_reducible repeat (first | refine blk_drewN ?_ _ | refine blk_drew ?_ | refine blk_alloc ?_ _)); exact BK369.out⟩, ⟨by (with_reducible repeat (first | refine blk_drewN ?_ _ | refine blk_drew ?_ | refine blk_alloc ?_ _)); refine blk_put (cs := #[.int .i64 x371000_1]) ?_ 0 _ rfl; (with_reducible repeat (first | refine blk_drewN ?_ _ | refine blk_drew ?_ | refine blk_alloc ?_ _)); refine blk_far ?_ NB370_369.out _; (with_reducible repeat (first | refine blk_drewN ?_ _ | refine blk_drew ?_ | refine blk_alloc ?_ _)); refine blk_far ?_ NB370_368.out _; (with_reducible repeat (first | refine blk_drewN ?_ _ | refine blk_drew ?_ | refine blk_alloc ?_ _)); exact BK370.out⟩, ⟨bS⟩⟩
     rw [if_pos c197] at H
     have c197b0 : (t373 == 9) = true := beq_iff_eq.mpr c197
     have c197b1 : (t373 != 9) = false := bne_eq_false_iff_eq.mpr c197
     clear c197
     have H' := am H
     clear H
     have hnb198 := NB374_368.out
     have hnc198 := NB368_374.out
     have hnb199 := NB374_369.out
     have hnc199 := NB369_374.out
     have hnb200 := NB374_370.out
     have hnc200 := NB370_374.out
     have hnb201 := NB374_372.out
     have hnc201 := NB372_374.out
     have hcz202_0 := bc BK374.out 0 (.int .i64 t373)
     have hfz202_0 := blk_frozen BK374.out 0
     have hnb203 := NB368_369.out
     have hnc203 := NB369_368.out
     have hnb204 := NB368_370.out
     have hnc204 := NB370_368.out
     have hnb205 := NB368_372.out
     have hnc205 := NB372_368.out
     have hcz206_0 := bc BK368.out 0 (.bool x369000_1)
     have hfz206_0 := blk_frozen BK368.out 0
     have hnb207 := NB372_369.out
     have hnc207 := NB369_372.out
     have hnb208 := NB372_370.out
     have hnc208 := NB370_372.out
     have hcz209_0 := bc BK372.out 0 (.int .i64 (rd l0 x17_1))
     have hfz209_0 := blk_frozen BK372.out 0
     have hnb210 := NB369_370.out
     have hnc210 := NB370_369.out
     have hcz211_0 := bc BK369.out 0 (.bool x370000_1)
     have hfz211_0 := blk_frozen BK369.out 0
     have hcz212_0 := bc BK370.out 0 (.int .i64 x371000_1)
     have hfz212_0 := blk_frozen BK370.out 0
     go_wp2
     go_roundg kj18
     case measure => have := HK1.out; have := HJ18.out; omega
     case rel => exact ⟨(x3_18), (wrap64 (x17_1 + 1)), ((t373 == 8)), (x370000_1), (wrap64 (x371000_1 + 1)), sr, H', ⟨kl⟩, ⟨kR (Kd.R_mono (Kd.R_far (p := ⟨gb370, 0, none⟩) (Kd.R_far (p := ⟨gb369, 0, none⟩) (Kd.R_far (p := ⟨gb368, 0, none⟩) (Kd.R_types (Kd.R_mono (Kd.R_mono HO_3.out (fun k_ hk => (⟨hk, hk.1⟩ : _ ∧ k_ ≠ gb368))) (fun k_ hk => (⟨hk, hk.1.2⟩ : _ ∧ k_ ≠ gb369))) BK370.out (by decide)) (fun _ hk => hk.1.1.2) (.bool (t373 == 8))) (fun _ hk => hk.1.2) (.bool x370000_1)) (fun _ hk => hk.2) (.int .i64 (wrap64 (x371000_1 + 1)))) (fun _ hk => ⟨hk.1.1.1.1, hk.1.1.1.2⟩))⟩, ⟨by (with_reducible repeat (first | refine blk_drewN ?_ _ | refine blk_drew ?_ | refine blk_alloc ?_ _)); refine blk_far ?_ NB368_370.out _; (with_reducible repeat (first | refine blk_drewN ?_ _ | refine blk_drew ?_ | refine blk_alloc ?_ _)); refine blk_far ?_ NB368_369.out _; (with_reducible repeat (first | refine blk_drewN ?_ _ | refine blk_drew ?_ | refine blk_alloc ?_ _)); refine blk_put (cs := #[.bool x369000_1]) ?_ 0 _ rfl; (with_reducible repeat (first | refine blk_drewN ?_ _ | refine blk_drew ?_ | refine blk_alloc ?_ _)); exact BK368.out⟩, ⟨by (with_reducible repeat (first | refine blk_drewN ?_ _ | refine blk_drew ?_ | refine blk_alloc ?_ _)); refine blk_far ?_ NB369_370.out _; (with_reducible repeat (first | refine blk_drewN ?_ _ | refine blk_drew ?_ | refine blk_alloc ?_ _)); refine blk_put (cs := #[.bool x370000_1]) ?_ 0 _ rfl; (with_reducible repeat (first | refine blk_drewN ?_ _ | refine blk_drew ?_ | refine blk_alloc ?_ _)); refine blk_far ?_ NB369_368.out _; (with_reducible repeat (first | refine blk_drewN ?_ _ | refine blk_drew ?_ | refine blk_alloc ?_ _)); exact BK369.out⟩, ⟨by (with_reducible repeat (first | refine blk_drewN ?_ _ | refine blk_drew ?_ | refine blk_alloc ?_ _)); refine blk_put (cs := #[.int .i64 x371000_1]) ?_ 0 _ rfl; (with_reducible repeat (first | refine blk_drewN ?_ _ | refine blk_drew ?_ | refine blk_alloc ?_ _)); refine blk_far ?_ NB370_369.out _; (with_reducible repeat (first | refine blk_drewN ?_ _ | refine blk_drew ?_ | refine blk_alloc ?_ _)); refine blk_far ?_ NB370_368.out _; (with_reducible repeat (first | refine blk_drewN ?_ _ | refine blk_drew ?_ | refine blk_alloc ?_ _)); exact BK370.out⟩, ⟨bS⟩⟩
/-! ### impl_consonant: function 100 -/
def impl_consonant.f (a0 : Int) : Option (Bool) := (impl_in.f a0 1536 1567).bind fun t381 => (some t381)
set_option maxHeartbeats 8000000 in
set_option maxRecDepth 100000 in
theorem impl_consonant.calls (a0 : Int) (r : Bool) (w : World) (h : impl_consonant.f a0 = some r) :
  Calls Tryd.prog 100 #[.int .i64 a0] w fun e w' => e = .returned (.bool r) ∧ Drawn0 w w' := by
 have H : ((impl_in.f a0 1536 1567).bind fun t381 => (some t381)) = some r := h
 clear h
 obtain ⟨t381, A2, H⟩ := bb H
 obtain rfl := Option.some.inj H
 go_enter Tryd.func100, Tryd.ntmps100
 go_wp2_with (first | ((with_reducible refine gate_callee (f := 99) rfl ?_); refine gq 4 Tryd.func99 (impl_in.calls a0 1536 1567 t381 _ A2.out) fun nd => ?_))
 go_ret
 exact rdd
end Go.Proofs.YtmlhnpggjkoinaaDoor.PFnExactGlyphsOf

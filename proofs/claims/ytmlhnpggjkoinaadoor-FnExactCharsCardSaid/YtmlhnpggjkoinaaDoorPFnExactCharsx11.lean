-- Written by a program of this session (wip/tools/myprint.py) that runs the kit's print with hooks of its own. Lean checks it.
import Derived.Test.YtmlhnpggjkoinaaDoorPFnExactCharsx0
import Derived.Test.YtmlhnpggjkoinaaDoorPFnExactCharsx9
import Derived.Test.YtmlhnpggjkoinaaDoorPFnExactCharsx10
namespace Go.Proofs.YtmlhnpggjkoinaaDoor.PFnExactChars
open Go.RowKit Go.Proofs.YtmlhnpggjkoinaaDoorW.PrintWords Go.Proofs.YtmlhnpggjkoinaaDoorW.PrintLast Go.Proofs.YtmlhnpggjkoinaaDoorW.PrintMore
attribute [local go_sem] max2_int min2_int max_two min_two max_three min_three max_four min_four   -- for this text's walks alone
set_option linter.unusedVariables false
set_option linter.unusedSimpArgs false

/-! ### impl_charCuts: function 81 -/
mutual
def impl_charCuts.l0 : Nat → List Int → List Bool → List Int → Int → Int → Bool → Bool → Int → Option (List Bool)
  | 0, _, _, _, _, _, _, _, _ => none
  | k + 1, x0, x3, x15, x16, x17, x300000, x301000, x302000 => if x17 < x16 then (if 0 ≤ x17 then (if x17 < (x15.length : Int) then ((impl_charClass.f k (rd x15 x17)).bind fun t304 => (if x17 > 0 then (if 0 ≤ (wrap64 (x17 - 1)) then (if (wrap64 (x17 - 1)) < (x0.length : Int) then ((impl_charClass.f k (rd x0 (wrap64 (x17 - 1)))).bind fun t308 => ((impl_charCuts_1.f k (rd x0 (wrap64 (x17 - 1))) (rd x15 x17) t304 t308 x301000 x300000 x302000).bind fun t310 => (if x17 < (x3.length : Int) then (impl_charCuts.j1 k x0 (x3.set (x17 : Int).toNat t310) x15 x16 x17 x300000 x301000 x302000 (rd x15 x17) t304) else (none)))) else (none)) else (none)) else (impl_charCuts.j1 k x0 x3 x15 x16 x17 x300000 x301000 x302000 (rd x15 x17) t304))) else (none)) else (none)) else (some x3)
def impl_charCuts.j1 : Nat → List Int → List Bool → List Int → Int → Int → Bool → Bool → Int → Int → Int → Option (List Bool)
  | 0, _, _, _, _, _, _, _, _, _, _ => none
  | k + 1, x0, x3, x15, x16, x17, x300000, x301000, x302000, x304000, x306000 => if x306000 = 2 then (if x304000 = 1584 then (if x306000 = 9 then (impl_charCuts.l0 k x0 x3 x15 x16 (wrap64 (x17 + 1)) x300000 true (wrap64 (x302000 + 1))) else (impl_charCuts.l0 k x0 x3 x15 x16 (wrap64 (x17 + 1)) x300000 true 0)) else (if x304000 = 1585 then (if x306000 = 9 then (impl_charCuts.l0 k x0 x3 x15 x16 (wrap64 (x17 + 1)) x300000 x301000 (wrap64 (x302000 + 1))) else (impl_charCuts.l0 k x0 x3 x15 x16 (wrap64 (x17 + 1)) x300000 x301000 0)) else (if x306000 = 9 then (impl_charCuts.l0 k x0 x3 x15 x16 (wrap64 (x17 + 1)) x300000 false (wrap64 (x302000 + 1))) else (impl_charCuts.l0 k x0 x3 x15 x16 (wrap64 (x17 + 1)) x300000 false 0)))) else (if x304000 = 1584 then (if x306000 = 9 then (impl_charCuts.l0 k x0 x3 x15 x16 (wrap64 (x17 + 1)) (x306000 == 8) true (wrap64 (x302000 + 1))) else (impl_charCuts.l0 k x0 x3 x15 x16 (wrap64 (x17 + 1)) (x306000 == 8) true 0)) else (if x304000 = 1585 then (if x306000 = 9 then (impl_charCuts.l0 k x0 x3 x15 x16 (wrap64 (x17 + 1)) (x306000 == 8) x301000 (wrap64 (x302000 + 1))) else (impl_charCuts.l0 k x0 x3 x15 x16 (wrap64 (x17 + 1)) (x306000 == 8) x301000 0)) else (if x306000 = 9 then (impl_charCuts.l0 k x0 x3 x15 x16 (wrap64 (x17 + 1)) (x306000 == 8) false (wrap64 (x302000 + 1))) else (impl_charCuts.l0 k x0 x3 x15 x16 (wrap64 (x17 + 1)) (x306000 == 8) false 0))))
end
def impl_charCuts.f (k : Nat) (l0 : List Int) : Option (List Bool) := if 0 ≤ (l0.length : Int) then (if ((l0.length : Int) : Int).toNat ≤ 281474976710656 then (impl_charCuts.l0 k l0 (List.replicate ((l0.length : Int) : Int).toNat false) l0 (l0.length : Int) 0 false false 0) else (none)) else (none)
theorem impl_charCuts.mono_l : ∀ k, (∀ y0 y1 y2 y3 y4 y5 y6 y7, LeO (impl_charCuts.l0 k y0 y1 y2 y3 y4 y5 y6 y7) (impl_charCuts.l0 (k + 1) y0 y1 y2 y3 y4 y5 y6 y7)) ∧ (∀ y0 y1 y2 y3 y4 y5 y6 y7 y8 y9, LeO (impl_charCuts.j1 k y0 y1 y2 y3 y4 y5 y6 y7 y8 y9) (impl_charCuts.j1 (k + 1) y0 y1 y2 y3 y4 y5 y6 y7 y8 y9))
  | 0 => ⟨fun _ _ _ _ _ _ _ _ r h => by simp [impl_charCuts.l0] at h, fun _ _ _ _ _ _ _ _ _ _ r h => by simp [impl_charCuts.j1] at h⟩
  | k + 1 => by
    obtain ⟨ih0, ih1⟩ := impl_charCuts.mono_l k
    refine ⟨?_, ?_⟩
    · intro y0 y1 y2 y3 y4 y5 y6 y7
      unfold impl_charCuts.l0
      repeat' first
      | (with_reducible exact ih0 _ _ _ _ _ _ _ _)
      | (with_reducible exact ih1 _ _ _ _ _ _ _ _ _ _)
      | (with_reducible exact impl_charClass.mono _ _)
      | (with_reducible exact impl_charCuts_1.mono _ _ _ _ _ _ _ _)
      | (with_reducible exact LeO.refl _)
      | (with_reducible exact LeO.none _)
      | (with_reducible refine LeO.ite ?_ ?_)
      | (with_reducible refine LeO.bind ?_ (fun _ => ?_))
      | exact ih0 _ _ _ _ _ _ _ _
      | exact ih1 _ _ _ _ _ _ _ _ _ _
      | exact impl_charClass.mono _ _
      | exact impl_charCuts_1.mono _ _ _ _ _ _ _ _
      | exact LeO.none _
      | refine LeO.ite ?_ ?_
      | refine LeO.bind ?_ (fun _ => ?_)
    · intro y0 y1 y2 y3 y4 y5 y6 y7 y8 y9
      unfold impl_charCuts.j1
      repeat' first
      | (with_reducible exact ih0 _ _ _ _ _ _ _ _)
      | (with_reducible exact ih1 _ _ _ _ _ _ _ _ _ _)
      | (with_reducible exact impl_charClass.mono _ _)
      | (with_reducible exact impl_charCuts_1.mono _ _ _ _ _ _ _ _)
      | (with_reducible exact LeO.refl _)
      | (with_reducible exact LeO.none _)
      | (with_reducible refine LeO.ite ?_ ?_)
      | (with_reducible refine LeO.bind ?_ (fun _ => ?_))
      | exact ih0 _ _ _ _ _ _ _ _
      | exact ih1 _ _ _ _ _ _ _ _ _ _
      | exact impl_charClass.mono _ _
      | exact impl_charCuts_1.mono _ _ _ _ _ _ _ _
      | exact LeO.none _
      | refine LeO.ite ?_ ?_
      | refine LeO.bind ?_ (fun _ => ?_)
theorem impl_charCuts.mono : ∀ a0 k, LeO (impl_charCuts.f k a0) (impl_charCuts.f (k + 1) a0) := by
  intro a0 k
  obtain ⟨ih0, ih1⟩ := impl_charCuts.mono_l k
  unfold impl_charCuts.f
  repeat' first
      | (with_reducible exact ih0 _ _ _ _ _ _ _ _)
      | (with_reducible exact ih1 _ _ _ _ _ _ _ _ _ _)
      | (with_reducible exact impl_charClass.mono _ _)
      | (with_reducible exact impl_charCuts_1.mono _ _ _ _ _ _ _ _)
      | (with_reducible exact LeO.refl _)
      | (with_reducible exact LeO.none _)
      | (with_reducible refine LeO.ite ?_ ?_)
      | (with_reducible refine LeO.bind ?_ (fun _ => ?_))
      | exact ih0 _ _ _ _ _ _ _ _
      | exact ih1 _ _ _ _ _ _ _ _ _ _
      | exact impl_charClass.mono _ _
      | exact impl_charCuts_1.mono _ _ _ _ _ _ _ _
      | exact LeO.none _
      | refine LeO.ite ?_ ?_
      | refine LeO.bind ?_ (fun _ => ?_)
set_option maxHeartbeats 8000000 in
set_option maxRecDepth 100000 in
theorem impl_charCuts.calls (k : Nat) (A0 : Option Addr) (c0 : Nat) (l0 : List Int) (r : List Bool) (w : World) (hr0 : Kd.C (Kd.int .i64) w A0 l0.length l0) (hc0 : l0.length ≤ c0) (h : impl_charCuts.f k l0 = some r) :
    Calls Tryd.prog 81 #[.slice A0 l0.length c0] w fun e w' => ∃ v0_ : Value, e = .returned (v0_) ∧ Kd.R Kd.bool 4 w' w.heap.size (fun _ => True) v0_ r ∧ Below w.heap.size w w' := by
  have HR0 := Aside0.mk hr0
  have HC0 := Aside0.mk hc0
  clear hr0 hc0
  have HB := Aside0.mk (Below.refl w.heap.size w)
  have H : (if 0 ≤ (l0.length : Int) then (if ((l0.length : Int) : Int).toNat ≤ 281474976710656 then (impl_charCuts.l0 k l0 (List.replicate ((l0.length : Int) : Int).toNat false) l0 (l0.length : Int) 0 false false 0) else (none)) else (none)) = some r := h
  clear h
  by_cases c2 : 0 ≤ (l0.length : Int)
  · rw [if_pos c2] at H
    have c2b0 := eq_true c2
    have c2b1 : decide (0 ≤ (l0.length : Int)) = true := decide_eq_true c2
    clear c2
    by_cases c3 : ((l0.length : Int) : Int).toNat ≤ 281474976710656
    · rw [if_pos c3] at H
      have c3b0 := eq_true c3
      have c3b1 : decide (((l0.length : Int) : Int).toNat ≤ 281474976710656) = true := decide_eq_true c3
      clear c3
      obtain ⟨y296, hy296⟩ : ∃ y_ : List Bool, y_ = (List.replicate ((l0.length : Int) : Int).toNat false) := ⟨_, rfl⟩
      replace H : (impl_charCuts.l0 k l0 y296 l0 (l0.length : Int) 0 false false 0) = some r := by first | (rw [hy296]; with_reducible exact H) | (have H2_ := (Option.bind_some _ _).symm.trans H; rw [hy296]; with_reducible exact H2_) | (have H2_ := (Option.bind_some _ _).symm.trans H; with_reducible exact H2_) | with_reducible exact H | (rw [hy296]; exact H) | exact H
      have Ny296 := Aside0.mk hy296
      clear hy296
      have H' := Aside0.mk H
      clear H
      have hmf_ : ∀ (fn : Fn) (first cap : Array Value) (w : World), (Instr.makeFunc fn first cap).run Tryd.prog w = .ok (.func fn first cap) w := fun _ _ _ _ => rfl
      go_enter Tryd.func81, Tryd.ntmps81
      go_wp2_with (first | ((with_reducible refine gate_dst (N := 14) rfl ?_); refine Kd.R_make Kd.bool _ 4 rfl (N := 14) rfl 60 _ _ rfl (l0.length : Int) rfl rfl Tryd.underlying60 (.bool false) 1 info4 rfl (by decide) (by omega) false (ok := fun _ => True) (okp := fun _ => True) rfl (fun _ hk => hk) trivial (of_decide_eq_true (by first | (with_reducible assumption) | assumption)) (Nat.le_trans (Nat.mul_le_mul_right _ (of_decide_eq_true (by first | (with_reducible assumption) | assumption) : (l0.length : Int).toNat ≤ 281474976710656)) (by omega)) (Below.refl _ _) (Nat.le_refl _) ?_; intro v297 w4 ho5 hb hg_ hnew_; clear hg_ hnew_; (first | rw [← Ny296.out] at ho5 | (simp only [Int.reduceToNat] at ho5; rw [← Ny296.out] at ho5)); have n0_ := Aside0.mk (Kd.R_lower ho5 (below_size (by repeat (first | (with_reducible first | exact HB.out | apply below_alloc | apply pw_below_drewN | apply below_drew1) | exact HB.out)))); have n1_ := Aside0.mk (below_step (by repeat (first | (with_reducible first | exact HB.out | apply below_alloc | apply pw_below_drewN | apply below_drew1) | exact HB.out)) hb); clear HB; have HO298 := n0_; have HB := n1_; clear n0_ n1_; clear hb ho5) | ((with_reducible refine gate_dst (N := 4) rfl ?_); refine box_event ?hg (N := 4) ?hd (cs := #[.bool false]) (t := 4) ?hr ?_; (case hd => rfl); (case hg => rfl); (case hr => first | (go_simp; done) | (go_simp; rfl)); intro gb299 hg w6 hbox hb; have n0_ := Aside0.mk (Kd.R_below (Kd.R_elderB (by (with_reducible repeat (first | apply Kd.R_alloc | apply Kd.R_drewN | apply Kd.R_drew)); exact HO298.out) gb299 (Nat.le_of_eq hg.symm)) hb); have n1_ := Aside0.mk (below_step (by repeat (first | (with_reducible first | exact HB.out | apply below_alloc | apply pw_below_drewN | apply below_drew1) | exact HB.out)) hb); have n2_ := Aside0.mk (hbox); have n3_ := Aside0.mk ((by rw [hg]; exact (below_size (by repeat (first | (with_reducible first | exact HB.out | apply below_alloc | apply pw_below_drewN | apply below_drew1) | exact HB.out))) : w.heap.size ≤ gb299)); have n4_ := Aside0.mk ((by rw [hg]; exact (below_size (by repeat (first | (with_reducible first | exact HB.out | apply below_alloc | apply pw_below_drewN | apply below_drew1) | exact HB.out))) : w.heap.size ≤ gb299)); clear HO298; clear HB; have HO298 := n0_; have HB := n1_; have BK299 := n2_; have GW299 := n3_; have GE299 := n4_; clear n0_ n1_ n2_ n3_ n4_; clear hb hbox hg) | ((with_reducible refine gate_dst (N := 5) rfl ?_); refine box_event ?hg (N := 5) ?hd (cs := #[.bool false]) (t := 4) ?hr ?_; (case hd => rfl); (case hg => rfl); (case hr => first | (go_simp; done) | (go_simp; rfl)); intro gb300 hg w7 hbox hb; have n0_ := Aside0.mk (Kd.R_below (Kd.R_elderB (by (with_reducible repeat (first | apply Kd.R_alloc | apply Kd.R_drewN | apply Kd.R_drew)); exact HO298.out) gb300 (Nat.le_of_eq hg.symm)) hb); have n1_ := Aside0.mk (blk_below (g := gb299) (o := .cells #[.bool false] 4 (0, 0)) (by (with_reducible repeat (first | refine blk_drewN ?_ _ | refine blk_drew ?_ | refine blk_alloc ?_ _)); exact BK299.out) hb); have n2_ := Aside0.mk (below_step (by repeat (first | (with_reducible first | exact HB.out | apply below_alloc | apply pw_below_drewN | apply below_drew1 | refine below_set ?_ GE299.out) | exact HB.out)) hb); have n3_ := Aside0.mk (hbox); have n4_ := Aside0.mk ((by rw [hg]; exact (below_size (by repeat (first | (with_reducible first | exact HB.out | apply below_alloc | apply pw_below_drewN | apply below_drew1 | refine below_set ?_ GE299.out) | exact HB.out))) : w.heap.size ≤ gb300)); have n5_ := Aside0.mk ((by rw [hg]; exact (below_size (by repeat (first | (with_reducible first | exact HB.out | apply below_alloc | apply pw_below_drewN | apply below_drew1 | refine below_set ?_ GE299.out) | exact HB.out))) : w.heap.size ≤ gb300)); have n6_ := Aside0.mk ((by rw [hg]; exact Nat.ne_of_lt (blk_lt (g := gb299) (o := .cells #[.bool false] 4 (0, 0)) (by (with_reducible repeat (first | refine blk_drewN ?_ _ | refine blk_drew ?_ | refine blk_alloc ?_ _)); exact BK299.out)) : gb299 ≠ gb300)); have n7_ := Aside0.mk ((by rw [hg]; exact Nat.ne_of_gt (blk_lt (g := gb299) (o := .cells #[.bool false] 4 (0, 0)) (by (with_reducible repeat (first | refine blk_drewN ?_ _ | refine blk_drew ?_ | refine blk_alloc ?_ _)); exact BK299.out)) : gb300 ≠ gb299)); clear HO298; clear BK299; clear HB; have HO298 := n0_; have BK299 := n1_; have HB := n2_; have BK300 := n3_; have GW300 := n4_; have GE300 := n5_; have NB299_300 := n6_; have NB300_299 := n7_; clear n0_ n1_ n2_ n3_ n4_ n5_ n6_ n7_; clear hb hbox hg) | ((with_reducible refine gate_dst (N := 6) rfl ?_); refine box_event ?hg (N := 6) ?hd (cs := #[.int .i64 0]) (t := 3) ?hr ?_; (case hd => rfl); (case hg => rfl); (case hr => first | (go_simp; done) | (go_simp; rfl)); intro gb301 hg w8 hbox hb; have n0_ := Aside0.mk (Kd.R_below (by (with_reducible repeat (first | apply Kd.R_alloc | apply Kd.R_drewN | apply Kd.R_drew)); exact HO298.out) hb); have n1_ := Aside0.mk (blk_below (g := gb299) (o := .cells #[.bool false] 4 (0, 0)) (by (with_reducible repeat (first | refine blk_drewN ?_ _ | refine blk_drew ?_ | refine blk_alloc ?_ _)); exact BK299.out) hb); have n2_ := Aside0.mk (blk_below (g := gb300) (o := .cells #[.bool false] 4 (0, 0)) (by (with_reducible repeat (first | refine blk_drewN ?_ _ | refine blk_drew ?_ | refine blk_alloc ?_ _)); exact BK300.out) hb); have n3_ := Aside0.mk (below_step (by repeat (first | (with_reducible first | exact HB.out | apply below_alloc | apply pw_below_drewN | apply below_drew1 | refine below_set ?_ GE299.out | refine below_set ?_ GE300.out) | exact HB.out)) hb); have n4_ := Aside0.mk (hbox); have n5_ := Aside0.mk ((by rw [hg]; exact (below_size (by repeat (first | (with_reducible first | exact HB.out | apply below_alloc | apply pw_below_drewN | apply below_drew1 | refine below_set ?_ GE299.out | refine below_set ?_ GE300.out) | exact HB.out))) : w.heap.size ≤ gb301)); have n6_ := Aside0.mk ((by rw [hg]; exact (below_size (by repeat (first | (with_reducible first | exact HB.out | apply below_alloc | apply pw_below_drewN | apply below_drew1 | refine below_set ?_ GE299.out | refine below_set ?_ GE300.out) | exact HB.out))) : w.heap.size ≤ gb301)); have n7_ := Aside0.mk ((by rw [hg]; exact Nat.ne_of_lt (blk_lt (g := gb299) (o := .cells #[.bool false] 4 (0, 0)) (by (with_reducible repeat (first | refine blk_drewN ?_ _ | refine blk_drew ?_ | refine blk_alloc ?_ _)); exact BK299.out)) : gb299 ≠ gb301)); have n8_ := Aside0.mk ((by rw [hg]; exact Nat.ne_of_gt (blk_lt (g := gb299) (o := .cells #[.bool false] 4 (0, 0)) (by (with_reducible repeat (first | refine blk_drewN ?_ _ | refine blk_drew ?_ | refine blk_alloc ?_ _)); exact BK299.out)) : gb301 ≠ gb299)); have n9_ := Aside0.mk ((by rw [hg]; exact Nat.ne_of_lt (blk_lt (g := gb300) (o := .cells #[.bool false] 4 (0, 0)) (by (with_reducible repeat (first | refine blk_drewN ?_ _ | refine blk_drew ?_ | refine blk_alloc ?_ _)); exact BK300.out)) : gb300 ≠ gb301)); have n10_ := Aside0.mk ((by rw [hg]; exact Nat.ne_of_gt (blk_lt (g := gb300) (o := .cells #[.bool false] 4 (0, 0)) (by (with_reducible repeat (first | refine blk_drewN ?_ _ | refine blk_drew ?_ | refine blk_alloc ?_ _)); exact BK300.out)) : gb301 ≠ gb300)); clear HO298; clear BK299; clear BK300; clear HB; have HO298 := n0_; have BK299 := n1_; have BK300 := n2_; have HB := n3_; have BK301 := n4_; have GW301 := n5_; have GE301 := n6_; have NB299_301 := n7_; have NB301_299 := n8_; have NB300_301 := n9_; have NB301_300 := n10_; clear n0_ n1_ n2_ n3_ n4_ n5_ n6_ n7_ n8_ n9_ n10_; clear hb hbox hg; have hnb9 := NB299_300.out; have hnc9 := NB300_299.out; have hnb10 := NB299_301.out; have hnc10 := NB301_299.out; have hcz11_0 : w8.cell? ⟨gb299, 0, none⟩ = some (.bool false) := (blk_cell BK299.out 0).trans rfl; have hfz11_0 := blk_frozen BK299.out 0; have hnb12 := NB300_301.out; have hnc12 := NB301_300.out; have hcz13_0 : w8.cell? ⟨gb300, 0, none⟩ = some (.bool false) := (blk_cell BK300.out 0).trans rfl; have hfz13_0 := blk_frozen BK300.out 0; have hcz14_0 : w8.cell? ⟨gb301, 0, none⟩ = some (.int .i64 0) := (blk_cell BK301.out 0).trans rfl; have hfz14_0 := blk_frozen BK301.out 0))
      go_loopg [17] k (fun kq v17 w' => ∃ (x3_1 : List Bool) (x17_1 : Int) (x300000_1 : Bool) (x301000_1 : Bool) (x302000_1 : Int), v17 = .int .i64 x17_1 ∧ Aside0 (impl_charCuts.l0 kq l0 x3_1 l0 (l0.length : Int) x17_1 x300000_1 x301000_1 x302000_1 = some r) ∧ Aside0 (kq ≤ k) ∧ Aside0 (Kd.R Kd.bool 4 w' w.heap.size (fun k_ => k_ ≠ gb299 ∧ k_ ≠ gb300) v297 x3_1) ∧ Aside0 (w'.heap[gb299]? = some (.cells #[.bool x300000_1] 4 (0, 0))) ∧ Aside0 (w'.heap[gb300]? = some (.cells #[.bool x301000_1] 4 (0, 0))) ∧ Aside0 (w'.heap[gb301]? = some (.cells #[.int .i64 x302000_1] 3 (0, 0))) ∧ Aside0 (Below w.heap.size w w'))
      case atStart => exact ⟨(y296), (0), (false), (false), (0), (by first | rfl | (simp; done) | (simp [*]; done)), H', ⟨Nat.le_refl _⟩, ⟨by (with_reducible repeat (first | apply Kd.R_alloc | apply Kd.R_drewN | apply Kd.R_drew)); exact Kd.R_mono (Kd.R_far (p := ⟨gb301, 0, none⟩) (Kd.R_far (p := ⟨gb300, 0, none⟩) (Kd.R_far (p := ⟨gb299, 0, none⟩) (Kd.R_types (Kd.R_mono (Kd.R_mono HO298.out (fun k_ hk => (⟨hk, hk.1.2⟩ : _ ∧ k_ ≠ gb299))) (fun k_ hk => (⟨hk, hk.1.2⟩ : _ ∧ k_ ≠ gb300))) BK301.out (by decide)) (fun _ hk => hk.1.1.2) (.bool false)) (fun _ hk => hk.1.2) (.bool false)) (fun _ hk => hk.2) (.int .i64 0)) (fun _ hk => ⟨hk.1.1.1.1.2, hk.1.1.1.2⟩)⟩, ⟨by (with_reducible repeat (first | refine blk_drewN ?_ _ | refine blk_drew ?_ | refine blk_alloc ?_ _)); refine blk_far ?_ NB299_301.out _; (with_reducible repeat (first | refine blk_drewN ?_ _ | refine blk_drew ?_ | refine blk_alloc ?_ _)); refine blk_far ?_ NB299_300.out _; (with_reducible repeat (first | refine blk_drewN ?_ _ | refine blk_drew ?_ | refine blk_alloc ?_ _)); refine blk_put (cs := #[.bool false]) ?_ 0 _ rfl; (with_reducible repeat (first | refine blk_drewN ?_ _ | refine blk_drew ?_ | refine blk_alloc ?_ _)); exact BK299.out⟩, ⟨by (with_reducible repeat (first | refine blk_drewN ?_ _ | refine blk_drew ?_ | refine blk_alloc ?_ _)); refine blk_far ?_ NB300_301.out _; (with_reducible repeat (first | refine blk_drewN ?_ _ | refine blk_drew ?_ | refine blk_alloc ?_ _)); refine blk_put (cs := #[.bool false]) ?_ 0 _ rfl; (with_reducible repeat (first | refine blk_drewN ?_ _ | refine blk_drew ?_ | refine blk_alloc ?_ _)); refine blk_far ?_ NB300_299.out _; (with_reducible repeat (first | refine blk_drewN ?_ _ | refine blk_drew ?_ | refine blk_alloc ?_ _)); exact BK300.out⟩, ⟨by (with_reducible repeat (first | refine blk_drewN ?_ _ | refine blk_drew ?_ | refine blk_alloc ?_ _)); refine blk_put (cs := #[.int .i64 0]) ?_ 0 _ rfl; (with_reducible repeat (first | refine blk_drewN ?_ _ | refine blk_drew ?_ | refine blk_alloc ?_ _)); refine blk_far ?_ NB301_300.out _; (with_reducible repeat (first | refine blk_drewN ?_ _ | refine blk_drew ?_ | refine blk_alloc ?_ _)); refine blk_far ?_ NB301_299.out _; (with_reducible repeat (first | refine blk_drewN ?_ _ | refine blk_drew ?_ | refine blk_alloc ?_ _)); exact BK301.out⟩, ⟨by repeat (first | (with_reducible first | exact HB.out | apply below_alloc | apply pw_below_drewN | apply below_drew1 | refine below_set ?_ GE299.out | refine below_set ?_ GE300.out | refine below_set ?_ GE301.out) | exact HB.out)⟩⟩
      case round =>
        clear H'
        try clear c1
        try clear c2
        try clear c2b0
        try clear c2b1
        try clear p2
        try clear c3
        try clear c3b0
        try clear c3b1
        try clear c8
        try clear c9
        try clear c10
        try clear c12
        try clear hcz11_0
        try clear hcz13_0
        try clear hcz14_0
        try clear hfz11_0
        try clear hfz13_0
        try clear hfz14_0
        obtain ⟨x3_1, x17_1, x300000_1, x301000_1, x302000_1, rfl, HA, HK1, HO_3, BK299, BK300, BK301, HB⟩ := hrel
        cases gk with
        | zero => exact absurd HA.out (by simp [impl_charCuts.l0])
        | succ k1 =>
          have H := HA.out
          clear HA
          simp only [impl_charCuts.l0] at H
          by_cases c15 : x17_1 < (l0.length : Int)
          · rw [if_pos c15] at H
            have c15b0 : decide (x17_1 < (l0.length : Int)) = true := decide_eq_true c15
            clear c15
            by_cases c16 : 0 ≤ x17_1
            · rw [if_pos c16] at H
              have c16b0 : decide (0 ≤ x17_1) = true := decide_eq_true c16
              clear c16
              by_cases c17 : x17_1 < (l0.length : Int)
              · rw [if_pos c17] at H
                have c17b0 : decide (x17_1 < (l0.length : Int)) = true := decide_eq_true c17
                clear c17
                replace H := Option.bind_eq_some_iff.mp H
                obtain ⟨t304, A180, H⟩ := H
                replace H : (if x17_1 > 0 then (if 0 ≤ (wrap64 (x17_1 - 1)) then (if (wrap64 (x17_1 - 1)) < (l0.length : Int) then ((impl_charClass.f k1 (rd l0 (wrap64 (x17_1 - 1)))).bind fun t308 => ((impl_charCuts_1.f k1 (rd l0 (wrap64 (x17_1 - 1))) (rd l0 x17_1) t304 t308 x301000_1 x300000_1 x302000_1).bind fun t310 => (if x17_1 < (x3_1.length : Int) then (impl_charCuts.j1 k1 l0 (x3_1.set (x17_1 : Int).toNat t310) l0 (l0.length : Int) x17_1 x300000_1 x301000_1 x302000_1 (rd l0 x17_1) t304) else (none)))) else (none)) else (none)) else (impl_charCuts.j1 k1 l0 x3_1 l0 (l0.length : Int) x17_1 x300000_1 x301000_1 x302000_1 (rd l0 x17_1) t304)) = some r := H
                have A18 := Aside0.mk A180
                clear A180
                have HC19 := Aside0.mk H
                clear H
                have p302 : 0 ≤ (x17_1 : Int) := of_decide_eq_true (by first | (with_reducible assumption) | assumption)
                have q302 : x17_1 < (l0.length : Int) := of_decide_eq_true (by first | (with_reducible assumption) | assumption)
                obtain ⟨ad302, e302, hx302_0⟩ := Kd.at_int HR0.out x17_1 p302 q302
                cases e302
                replace hx302_0 := (HB.out.cell (World.block_lt_of_cell? w _ hx302_0)).trans hx302_0
                replace p302 := eq_true p302
                replace q302 := eq_true q302
                go_upto_if 25 with (first | ((with_reducible refine gate_dst (N := 8) rfl ?_); refine box_event ?hg (N := 8) ?hd (cs := #[.int .i64 0]) (t := 2) ?hr ?_; (case hd => rfl); (case hg => rfl); (case hr => first | (go_simp; done) | (go_simp; rfl)); intro gb303 hg w20 hbox hb; have n0_ := Aside0.mk (Kd.R_below (by (with_reducible repeat (first | apply Kd.R_alloc | apply Kd.R_drewN | apply Kd.R_drew)); exact HO_3.out) hb); have n1_ := Aside0.mk (blk_below (g := gb299) (o := .cells #[.bool x300000_1] 4 (0, 0)) (by (with_reducible repeat (first | refine blk_drewN ?_ _ | refine blk_drew ?_ | refine blk_alloc ?_ _)); exact BK299.out) hb); have n2_ := Aside0.mk (blk_below (g := gb300) (o := .cells #[.bool x301000_1] 4 (0, 0)) (by (with_reducible repeat (first | refine blk_drewN ?_ _ | refine blk_drew ?_ | refine blk_alloc ?_ _)); exact BK300.out) hb); have n3_ := Aside0.mk (blk_below (g := gb301) (o := .cells #[.int .i64 x302000_1] 3 (0, 0)) (by (with_reducible repeat (first | refine blk_drewN ?_ _ | refine blk_drew ?_ | refine blk_alloc ?_ _)); exact BK301.out) hb); have n4_ := Aside0.mk (below_step (by repeat (first | (with_reducible first | exact HB.out | apply below_alloc | apply pw_below_drewN | apply below_drew1 | refine below_set ?_ GE299.out | refine below_set ?_ GE300.out | refine below_set ?_ GE301.out) | exact HB.out)) hb); have n5_ := Aside0.mk (hbox); have n6_ := Aside0.mk ((by rw [hg]; exact (below_size (by repeat (first | (with_reducible first | exact HB.out | apply below_alloc | apply pw_below_drewN | apply below_drew1 | refine below_set ?_ GE299.out | refine below_set ?_ GE300.out | refine below_set ?_ GE301.out) | exact HB.out))) : w.heap.size ≤ gb303)); have n7_ := Aside0.mk ((by rw [hg]; exact (below_size (by repeat (first | (with_reducible first | exact HB.out | apply below_alloc | apply pw_below_drewN | apply below_drew1 | refine below_set ?_ GE299.out | refine below_set ?_ GE300.out | refine below_set ?_ GE301.out) | exact HB.out))) : w.heap.size ≤ gb303)); have n8_ := Aside0.mk ((by rw [hg]; exact Nat.ne_of_lt (blk_lt (g := gb299) (o := .cells #[.bool x300000_1] 4 (0, 0)) (by (with_reducible repeat (first | refine blk_drewN ?_ _ | refine blk_drew ?_ | refine blk_alloc ?_ _)); exact BK299.out)) : gb299 ≠ gb303)); have n9_ := Aside0.mk ((by rw [hg]; exact Nat.ne_of_gt (blk_lt (g := gb299) (o := .cells #[.bool x300000_1] 4 (0, 0)) (by (with_reducible repeat (first | refine blk_drewN ?_ _ | refine blk_drew ?_ | refine blk_alloc ?_ _)); exact BK299.out)) : gb303 ≠ gb299)); have n10_ := Aside0.mk ((by rw [hg]; exact Nat.ne_of_lt (blk_lt (g := gb300) (o := .cells #[.bool x301000_1] 4 (0, 0)) (by (with_reducible repeat (first | refine blk_drewN ?_ _ | refine blk_drew ?_ | refine blk_alloc ?_ _)); exact BK300.out)) : gb300 ≠ gb303)); have n11_ := Aside0.mk ((by rw [hg]; exact Nat.ne_of_gt (blk_lt (g := gb300) (o := .cells #[.bool x301000_1] 4 (0, 0)) (by (with_reducible repeat (first | refine blk_drewN ?_ _ | refine blk_drew ?_ | refine blk_alloc ?_ _)); exact BK300.out)) : gb303 ≠ gb300)); have n12_ := Aside0.mk ((by rw [hg]; exact Nat.ne_of_lt (blk_lt (g := gb301) (o := .cells #[.int .i64 x302000_1] 3 (0, 0)) (by (with_reducible repeat (first | refine blk_drewN ?_ _ | refine blk_drew ?_ | refine blk_alloc ?_ _)); exact BK301.out)) : gb301 ≠ gb303)); have n13_ := Aside0.mk ((by rw [hg]; exact Nat.ne_of_gt (blk_lt (g := gb301) (o := .cells #[.int .i64 x302000_1] 3 (0, 0)) (by (with_reducible repeat (first | refine blk_drewN ?_ _ | refine blk_drew ?_ | refine blk_alloc ?_ _)); exact BK301.out)) : gb303 ≠ gb301)); clear HO_3; clear BK299; clear BK300; clear BK301; clear HB; have HO_3 := n0_; have BK299 := n1_; have BK300 := n2_; have BK301 := n3_; have HB := n4_; have BK303 := n5_; have GW303 := n6_; have GE303 := n7_; have NB299_303 := n8_; have NB303_299 := n9_; have NB300_303 := n10_; have NB303_300 := n11_; have NB301_303 := n12_; have NB303_301 := n13_; clear n0_ n1_ n2_ n3_ n4_ n5_ n6_ n7_ n8_ n9_ n10_ n11_ n12_ n13_; clear hb hbox hg; have hnb21 := NB303_299.out; have hnc21 := NB299_303.out; have hnb22 := NB303_300.out; have hnc22 := NB300_303.out; have hnb23 := NB303_301.out; have hnc23 := NB301_303.out; have hcz24_0 : w20.cell? ⟨gb303, 0, none⟩ = some (.int .i64 0) := (blk_cell BK303.out 0).trans rfl; have hfz24_0 := blk_frozen BK303.out 0) | ((with_reducible refine gate_callee (f := 86) rfl ?_); refine goesL_ (some 23) rfl rfl Tryd.func86 (by kernel_rfl) rfl #[.int .i64 (rd l0 x17_1)] rfl (by (try simp only [List.map_toArray, List.map_cons, List.map_nil]); first | done | rfl | (simp only [List.length_drop, List.length_take]; rfl)) ?_; (with_reducible refine (impl_charClass.calls k1 (rd l0 x17_1) t304 _ A18.out).mono ?_); rintro e w' ⟨rfl, ⟨nd, rfl⟩⟩; refine ⟨_, rfl, ?_⟩) | ((with_reducible refine gate_dst (N := 9) rfl ?_); refine box_event ?hg (N := 9) ?hd (cs := #[.int .i64 0]) (t := 3) ?hr ?_; (case hd => rfl); (case hg => rfl); (case hr => first | (go_simp; done) | (go_simp; rfl)); intro gb305 hg w25 hbox hb; have n0_ := Aside0.mk (Kd.R_below (by (with_reducible repeat (first | apply Kd.R_alloc | apply Kd.R_drewN | apply Kd.R_drew)); exact (Kd.R_mono (Kd.R_far (p := ⟨gb303, 0, none⟩) (Kd.R_types HO_3.out BK303.out (by decide)) (fun _ hk => hk.2) (.int .i64 (rd l0 x17_1))) (fun _ h_ => h_.1))) hb); have n1_ := Aside0.mk (blk_below (g := gb299) (o := .cells #[.bool x300000_1] 4 (0, 0)) (by (with_reducible repeat (first | refine blk_drewN ?_ _ | refine blk_drew ?_ | refine blk_alloc ?_ _)); refine blk_far ?_ NB299_303.out _; (with_reducible repeat (first | refine blk_drewN ?_ _ | refine blk_drew ?_ | refine blk_alloc ?_ _)); exact BK299.out) hb); have n2_ := Aside0.mk (blk_below (g := gb300) (o := .cells #[.bool x301000_1] 4 (0, 0)) (by (with_reducible repeat (first | refine blk_drewN ?_ _ | refine blk_drew ?_ | refine blk_alloc ?_ _)); refine blk_far ?_ NB300_303.out _; (with_reducible repeat (first | refine blk_drewN ?_ _ | refine blk_drew ?_ | refine blk_alloc ?_ _)); exact BK300.out) hb); have n3_ := Aside0.mk (blk_below (g := gb301) (o := .cells #[.int .i64 x302000_1] 3 (0, 0)) (by (with_reducible repeat (first | refine blk_drewN ?_ _ | refine blk_drew ?_ | refine blk_alloc ?_ _)); refine blk_far ?_ NB301_303.out _; (with_reducible repeat (first | refine blk_drewN ?_ _ | refine blk_drew ?_ | refine blk_alloc ?_ _)); exact BK301.out) hb); have n4_ := Aside0.mk (blk_below (g := gb303) (o := .cells #[.int .i64 (rd l0 x17_1)] 2 (0, 0)) (by (with_reducible repeat (first | refine blk_drewN ?_ _ | refine blk_drew ?_ | refine blk_alloc ?_ _)); refine blk_put (cs := #[.int .i64 0]) ?_ 0 _ rfl; (with_reducible repeat (first | refine blk_drewN ?_ _ | refine blk_drew ?_ | refine blk_alloc ?_ _)); exact BK303.out) hb); have n5_ := Aside0.mk (below_step (by repeat (first | (with_reducible first | exact HB.out | apply below_alloc | apply pw_below_drewN | apply below_drew1 | refine below_set ?_ GE299.out | refine below_set ?_ GE300.out | refine below_set ?_ GE301.out | refine below_set ?_ GE303.out) | exact HB.out)) hb); have n6_ := Aside0.mk (hbox); have n7_ := Aside0.mk ((by rw [hg]; exact (below_size (by repeat (first | (with_reducible first | exact HB.out | apply below_alloc | apply pw_below_drewN | apply below_drew1 | refine below_set ?_ GE299.out | refine below_set ?_ GE300.out | refine below_set ?_ GE301.out | refine below_set ?_ GE303.out) | exact HB.out))) : w.heap.size ≤ gb305)); have n8_ := Aside0.mk ((by rw [hg]; exact (below_size (by repeat (first | (with_reducible first | exact HB.out | apply below_alloc | apply pw_below_drewN | apply below_drew1 | refine below_set ?_ GE299.out | refine below_set ?_ GE300.out | refine below_set ?_ GE301.out | refine below_set ?_ GE303.out) | exact HB.out))) : w.heap.size ≤ gb305)); have n9_ := Aside0.mk ((by rw [hg]; exact Nat.ne_of_lt (blk_lt (g := gb299) (o := .cells #[.bool x300000_1] 4 (0, 0)) (by (with_reducible repeat (first | refine blk_drewN ?_ _ | refine blk_drew ?_ | refine blk_alloc ?_ _)); refine blk_far ?_ NB299_303.out _; (with_reducible repeat (first | refine blk_drewN ?_ _ | refine blk_drew ?_ | refine blk_alloc ?_ _)); exact BK299.out)) : gb299 ≠ gb305)); have n10_ := Aside0.mk ((by rw [hg]; exact Nat.ne_of_gt (blk_lt (g := gb299) (o := .cells #[.bool x300000_1] 4 (0, 0)) (by (with_reducible repeat (first | refine blk_drewN ?_ _ | refine blk_drew ?_ | refine blk_alloc ?_ _)); refine blk_far ?_ NB299_303.out _; (with_reducible repeat (first | refine blk_drewN ?_ _ | refine blk_drew ?_ | refine blk_alloc ?_ _)); exact BK299.out)) : gb305 ≠ gb299)); have n11_ := Aside0.mk ((by rw [hg]; exact Nat.ne_of_lt (blk_lt (g := gb300) (o := .cells #[.bool x301000_1] 4 (0, 0)) (by (with_reducible repeat (first | refine blk_drewN ?_ _ | refine blk_drew ?_ | refine blk_alloc ?_ _)); refine blk_far ?_ NB300_303.out _; (with_reducible repeat (first | refine blk_drewN ?_ _ | refine blk_drew ?_ | refine blk_alloc ?_ _)); exact BK300.out)) : gb300 ≠ gb305)); have n12_ := Aside0.mk ((by rw [hg]; exact Nat.ne_of_gt (blk_lt (g := gb300) (o := .cells #[.bool x301000_1] 4 (0, 0)) (by (with_reducible repeat (first | refine blk_drewN ?_ _ | refine blk_drew ?_ | refine blk_alloc ?_ _)); refine blk_far ?_ NB300_303.out _; (with_reducible repeat (first | refine blk_drewN ?_ _ | refine blk_drew ?_ | refine blk_alloc ?_ _)); exact BK300.out)) : gb305 ≠ gb300)); have n13_ := Aside0.mk ((by rw [hg]; exact Nat.ne_of_lt (blk_lt (g := gb301) (o := .cells #[.int .i64 x302000_1] 3 (0, 0)) (by (with_reducible repeat (first | refine blk_drewN ?_ _ | refine blk_drew ?_ | refine blk_alloc ?_ _)); refine blk_far ?_ NB301_303.out _; (with_reducible repeat (first | refine blk_drewN ?_ _ | refine blk_drew ?_ | refine blk_alloc ?_ _)); exact BK301.out)) : gb301 ≠ gb305)); have n14_ := Aside0.mk ((by rw [hg]; exact Nat.ne_of_gt (blk_lt (g := gb301) (o := .cells #[.int .i64 x302000_1] 3 (0, 0)) (by (with_reducible repeat (first | refine blk_drewN ?_ _ | refine blk_drew ?_ | refine blk_alloc ?_ _)); refine blk_far ?_ NB301_303.out _; (with_reducible repeat (first | refine blk_drewN ?_ _ | refine blk_drew ?_ | refine blk_alloc ?_ _)); exact BK301.out)) : gb305 ≠ gb301)); have n15_ := Aside0.mk ((by rw [hg]; exact Nat.ne_of_lt (blk_lt (g := gb303) (o := .cells #[.int .i64 (rd l0 x17_1)] 2 (0, 0)) (by (with_reducible repeat (first | refine blk_drewN ?_ _ | refine blk_drew ?_ | refine blk_alloc ?_ _)); refine blk_put (cs := #[.int .i64 0]) ?_ 0 _ rfl; (with_reducible repeat (first | refine blk_drewN ?_ _ | refine blk_drew ?_ | refine blk_alloc ?_ _)); exact BK303.out)) : gb303 ≠ gb305)); have n16_ := Aside0.mk ((by rw [hg]; exact Nat.ne_of_gt (blk_lt (g := gb303) (o := .cells #[.int .i64 (rd l0 x17_1)] 2 (0, 0)) (by (with_reducible repeat (first | refine blk_drewN ?_ _ | refine blk_drew ?_ | refine blk_alloc ?_ _)); refine blk_put (cs := #[.int .i64 0]) ?_ 0 _ rfl; (with_reducible repeat (first | refine blk_drewN ?_ _ | refine blk_drew ?_ | refine blk_alloc ?_ _)); exact BK303.out)) : gb305 ≠ gb303)); clear HO_3; clear BK299; clear BK300; clear BK301; clear BK303; clear HB; have HO_3 := n0_; have BK299 := n1_; have BK300 := n2_; have BK301 := n3_; have BK303 := n4_; have HB := n5_; have BK305 := n6_; have GW305 := n7_; have GE305 := n8_; have NB299_305 := n9_; have NB305_299 := n10_; have NB300_305 := n11_; have NB305_300 := n12_; have NB301_305 := n13_; have NB305_301 := n14_; have NB303_305 := n15_; have NB305_303 := n16_; clear n0_ n1_ n2_ n3_ n4_ n5_ n6_ n7_ n8_ n9_ n10_ n11_ n12_ n13_ n14_ n15_ n16_; clear hb hbox hg; have hnb26 := NB305_299.out; have hnc26 := NB299_305.out; have hnb27 := NB305_300.out; have hnc27 := NB300_305.out; have hnb28 := NB305_301.out; have hnc28 := NB301_305.out; have hnb29 := NB305_303.out; have hnc29 := NB303_305.out; have hcz30_0 : w25.cell? ⟨gb305, 0, none⟩ = some (.int .i64 0) := (blk_cell BK305.out 0).trans rfl; have hfz30_0 := blk_frozen BK305.out 0))
                (try simp only [Act.put, List.setIfInBounds_toArray, List.set_cons_zero, List.set_cons_succ])
                go_cut [] (fun wc => ∃ (kq : Nat) (x3_18 : List Bool), Aside0 (impl_charCuts.j1 kq l0 x3_18 l0 (l0.length : Int) x17_1 x300000_1 x301000_1 x302000_1 (rd l0 x17_1) t304 = some r) ∧ Aside0 (kq ≤ k1) ∧ Aside0 (Kd.R Kd.bool 4 wc w.heap.size (fun k_ => k_ ≠ gb299 ∧ k_ ≠ gb300) v297 x3_18) ∧ Aside0 (wc.heap[gb299]? = some (.cells #[.bool x300000_1] 4 (0, 0))) ∧ Aside0 (wc.heap[gb300]? = some (.cells #[.bool x301000_1] 4 (0, 0))) ∧ Aside0 (wc.heap[gb301]? = some (.cells #[.int .i64 x302000_1] 3 (0, 0))) ∧ Aside0 (wc.heap[gb303]? = some (.cells #[.int .i64 (rd l0 x17_1)] 2 (0, 0))) ∧ Aside0 (wc.heap[gb305]? = some (.cells #[.int .i64 t304] 3 (0, 0))) ∧ Aside0 (Below w.heap.size w wc))
                case first =>
                  have H := HC19.out
                  clear HC19
                  by_cases c31 : x17_1 > 0
                  · rw [if_pos c31] at H
                    have c31b0 : decide (0 < x17_1) = true := decide_eq_true c31
                    clear c31
                    (first | rw [c31b0] | (simp only [i64_w, i32_w]; rw [c31b0]) | skip)
                    obtain ⟨ji32, hji32⟩ : ∃ j_ : Int, (wrap64 (x17_1 - 1)) = j_ := ⟨_, rfl⟩
                    replace H : (if 0 ≤ (ji32) then (if (ji32) < (l0.length : Int) then ((impl_charClass.f k1 (rd l0 (ji32))).bind fun t308 => ((impl_charCuts_1.f k1 (rd l0 (ji32)) (rd l0 x17_1) t304 t308 x301000_1 x300000_1 x302000_1).bind fun t310 => (if x17_1 < (x3_1.length : Int) then (impl_charCuts.j1 k1 l0 (x3_1.set (x17_1 : Int).toNat t310) l0 (l0.length : Int) x17_1 x300000_1 x301000_1 x302000_1 (rd l0 x17_1) t304) else (none)))) else (none)) else (none)) = some r := by first | (rw [hji32] at H; exact H) | (simp only [hji32] at H ⊢; exact H)
                    have hji32w : (IntKind.i64.wrap (x17_1 - 1)) = ji32 := (i64_w _).trans hji32
                    by_cases c33 : 0 ≤ (ji32)
                    · rw [if_pos c33] at H
                      have c33b0 : decide (0 ≤ (ji32)) = true := decide_eq_true c33
                      clear c33
                      by_cases c34 : (ji32) < (l0.length : Int)
                      · rw [if_pos c34] at H
                        have c34b0 : decide ((ji32) < (l0.length : Int)) = true := decide_eq_true c34
                        clear c34
                        replace H := Option.bind_eq_some_iff.mp H
                        obtain ⟨t308, A350, H⟩ := H
                        replace H : ((impl_charCuts_1.f k1 (rd l0 (ji32)) (rd l0 x17_1) t304 t308 x301000_1 x300000_1 x302000_1).bind fun t310 => (if x17_1 < (x3_1.length : Int) then (impl_charCuts.j1 k1 l0 (x3_1.set (x17_1 : Int).toNat t310) l0 (l0.length : Int) x17_1 x300000_1 x301000_1 x302000_1 (rd l0 x17_1) t304) else (none))) = some r := H
                        have A35 := Aside0.mk A350
                        clear A350
                        replace H := Option.bind_eq_some_iff.mp H
                        obtain ⟨t310, A360, H⟩ := H
                        replace H : (if x17_1 < (x3_1.length : Int) then (impl_charCuts.j1 k1 l0 (x3_1.set (x17_1 : Int).toNat t310) l0 (l0.length : Int) x17_1 x300000_1 x301000_1 x302000_1 (rd l0 x17_1) t304) else (none)) = some r := H
                        have A36 := Aside0.mk A360
                        clear A360
                        by_cases c37 : x17_1 < (x3_1.length : Int)
                        · rw [if_pos c37] at H
                          have c37b0 : decide (x17_1 < (x3_1.length : Int)) = true := decide_eq_true c37
                          clear c37
                          obtain ⟨y311, hy311⟩ : ∃ y_ : List Bool, y_ = (x3_1.set (x17_1 : Int).toNat t310) := ⟨_, rfl⟩
                          replace H : (impl_charCuts.j1 k1 l0 y311 l0 (l0.length : Int) x17_1 x300000_1 x301000_1 x302000_1 (rd l0 x17_1) t304) = some r := by first | (rw [hy311]; with_reducible exact H) | (have H2_ := (Option.bind_some _ _).symm.trans H; rw [hy311]; with_reducible exact H2_) | (have H2_ := (Option.bind_some _ _).symm.trans H; with_reducible exact H2_) | with_reducible exact H | (rw [hy311]; exact H) | exact H
                          have Ny311 := Aside0.mk hy311
                          clear hy311
                          have H' := Aside0.mk H
                          clear H
                          have p306 : 0 ≤ ((ji32) : Int) := of_decide_eq_true (by first | (with_reducible assumption) | assumption)
                          have q306 : (ji32) < (l0.length : Int) := of_decide_eq_true (by first | (with_reducible assumption) | assumption)
                          obtain ⟨ad306, e306, hx306_0⟩ := Kd.at_int HR0.out (ji32) p306 q306
                          obtain rfl : ad302 = ad306 := (by injection e306)
                          have hn306_0 : ad302.block ≠ gb305 := Nat.ne_of_lt (Nat.lt_of_lt_of_le (by have := World.block_lt_of_cell? _ _ hx306_0; first | rwa [add_block] at this | exact this) GW305.out)
                          replace hx306_0 := (HB.out.cell (World.block_lt_of_cell? w _ hx306_0)).trans hx306_0
                          replace hx306_0 := (cell_far (p := ⟨gb305, 0, none⟩) (by first | (rw [add_block]; exact hn306_0) | (show (Addr.add _ _).block ≠ _; rw [add_block]; exact hn306_0) | exact hn306_0) (.int .i64 t304)).trans hx306_0
                          clear hn306_0
                          replace p306 := eq_true p306
                          replace q306 := eq_true q306
                          go_wp2_with (first | ((with_reducible refine gate_dst (N := 10) rfl ?_); refine box_event ?hg (N := 10) ?hd (cs := #[.int .i64 0]) (t := 2) ?hr ?_; (case hd => rfl); (case hg => rfl); (case hr => first | (go_simp; done) | (go_simp; rfl)); intro gb307 hg w39 hbox hb; have n0_ := Aside0.mk (Kd.R_below (by (with_reducible repeat (first | apply Kd.R_alloc | apply Kd.R_drewN | apply Kd.R_drew)); exact (Kd.R_mono (Kd.R_far (p := ⟨gb305, 0, none⟩) (Kd.R_types HO_3.out BK305.out (by decide)) (fun _ hk => hk.2) (.int .i64 t304)) (fun _ h_ => h_.1))) hb); have n1_ := Aside0.mk (blk_below (g := gb299) (o := .cells #[.bool x300000_1] 4 (0, 0)) (by (with_reducible repeat (first | refine blk_drewN ?_ _ | refine blk_drew ?_ | refine blk_alloc ?_ _)); refine blk_far ?_ NB299_305.out _; (with_reducible repeat (first | refine blk_drewN ?_ _ | refine blk_drew ?_ | refine blk_alloc ?_ _)); exact BK299.out) hb); have n2_ := Aside0.mk (blk_below (g := gb300) (o := .cells #[.bool x301000_1] 4 (0, 0)) (by (with_reducible repeat (first | refine blk_drewN ?_ _ | refine blk_drew ?_ | refine blk_alloc ?_ _)); refine blk_far ?_ NB300_305.out _; (with_reducible repeat (first | refine blk_drewN ?_ _ | refine blk_drew ?_ | refine blk_alloc ?_ _)); exact BK300.out) hb); have n3_ := Aside0.mk (blk_below (g := gb301) (o := .cells #[.int .i64 x302000_1] 3 (0, 0)) (by (with_reducible repeat (first | refine blk_drewN ?_ _ | refine blk_drew ?_ | refine blk_alloc ?_ _)); refine blk_far ?_ NB301_305.out _; (with_reducible repeat (first | refine blk_drewN ?_ _ | refine blk_drew ?_ | refine blk_alloc ?_ _)); exact BK301.out) hb); have n4_ := Aside0.mk (blk_below (g := gb303) (o := .cells #[.int .i64 (rd l0 x17_1)] 2 (0, 0)) (by (with_reducible repeat (first | refine blk_drewN ?_ _ | refine blk_drew ?_ | refine blk_alloc ?_ _)); refine blk_far ?_ NB303_305.out _; (with_reducible repeat (first | refine blk_drewN ?_ _ | refine blk_drew ?_ | refine blk_alloc ?_ _)); exact BK303.out) hb); have n5_ := Aside0.mk (blk_below (g := gb305) (o := .cells #[.int .i64 t304] 3 (0, 0)) (by (with_reducible repeat (first | refine blk_drewN ?_ _ | refine blk_drew ?_ | refine blk_alloc ?_ _)); refine blk_put (cs := #[.int .i64 0]) ?_ 0 _ rfl; (with_reducible repeat (first | refine blk_drewN ?_ _ | refine blk_drew ?_ | refine blk_alloc ?_ _)); exact BK305.out) hb); have n6_ := Aside0.mk (below_step (by repeat (first | (with_reducible first | exact HB.out | apply below_alloc | apply pw_below_drewN | apply below_drew1 | refine below_set ?_ GE299.out | refine below_set ?_ GE300.out | refine below_set ?_ GE301.out | refine below_set ?_ GE303.out | refine below_set ?_ GE305.out) | exact HB.out)) hb); have n7_ := Aside0.mk (hbox); have n8_ := Aside0.mk ((by rw [hg]; exact (below_size (by repeat (first | (with_reducible first | exact HB.out | apply below_alloc | apply pw_below_drewN | apply below_drew1 | refine below_set ?_ GE299.out | refine below_set ?_ GE300.out | refine below_set ?_ GE301.out | refine below_set ?_ GE303.out | refine below_set ?_ GE305.out) | exact HB.out))) : w.heap.size ≤ gb307)); have n9_ := Aside0.mk ((by rw [hg]; exact (below_size (by repeat (first | (with_reducible first | exact HB.out | apply below_alloc | apply pw_below_drewN | apply below_drew1 | refine below_set ?_ GE299.out | refine below_set ?_ GE300.out | refine below_set ?_ GE301.out | refine below_set ?_ GE303.out | refine below_set ?_ GE305.out) | exact HB.out))) : w.heap.size ≤ gb307)); have n10_ := Aside0.mk ((by rw [hg]; exact Nat.ne_of_lt (blk_lt (g := gb299) (o := .cells #[.bool x300000_1] 4 (0, 0)) (by (with_reducible repeat (first | refine blk_drewN ?_ _ | refine blk_drew ?_ | refine blk_alloc ?_ _)); refine blk_far ?_ NB299_305.out _; (with_reducible repeat (first | refine blk_drewN ?_ _ | refine blk_drew ?_ | refine blk_alloc ?_ _)); exact BK299.out)) : gb299 ≠ gb307)); have n11_ := Aside0.mk ((by rw [hg]; exact Nat.ne_of_gt (blk_lt (g := gb299) (o := .cells #[.bool x300000_1] 4 (0, 0)) (by (with_reducible repeat (first | refine blk_drewN ?_ _ | refine blk_drew ?_ | refine blk_alloc ?_ _)); refine blk_far ?_ NB299_305.out _; (with_reducible repeat (first | refine blk_drewN ?_ _ | refine blk_drew ?_ | refine blk_alloc ?_ _)); exact BK299.out)) : gb307 ≠ gb299)); have n12_ := Aside0.mk ((by rw [hg]; exact Nat.ne_of_lt (blk_lt (g := gb300) (o := .cells #[.bool x301000_1] 4 (0, 0)) (by (with_reducible repeat (first | refine blk_drewN ?_ _ | refine blk_drew ?_ | refine blk_alloc ?_ _)); refine blk_far ?_ NB300_305.out _; (with_reducible repeat (first | refine blk_drewN ?_ _ | refine blk_drew ?_ | refine blk_alloc ?_ _)); exact BK300.out)) : gb300 ≠ gb307)); have n13_ := Aside0.mk ((by rw [hg]; exact Nat.ne_of_gt (blk_lt (g := gb300) (o := .cells #[.bool x301000_1] 4 (0, 0)) (by (with_reducible repeat (first | refine blk_drewN ?_ _ | refine blk_drew ?_ | refine blk_alloc ?_ _)); refine blk_far ?_ NB300_305.out _; (with_reducible repeat (first | refine blk_drewN ?_ _ | refine blk_drew ?_ | refine blk_alloc ?_ _)); exact BK300.out)) : gb307 ≠ gb300)); have n14_ := Aside0.mk ((by rw [hg]; exact Nat.ne_of_lt (blk_lt (g := gb301) (o := .cells #[.int .i64 x302000_1] 3 (0, 0)) (by (with_reducible repeat (first | refine blk_drewN ?_ _ | refine blk_drew ?_ | refine blk_alloc ?_ _)); refine blk_far ?_ NB301_305.out _; (with_reducible repeat (first | refine blk_drewN ?_ _ | refine blk_drew ?_ | refine blk_alloc ?_ _)); exact BK301.out)) : gb301 ≠ gb307)); have n15_ := Aside0.mk ((by rw [hg]; exact Nat.ne_of_gt (blk_lt (g := gb301) (o := .cells #[.int .i64 x302000_1] 3 (0, 0)) (by (with_reducible repeat (first | refine blk_drewN ?_ _ | refine blk_drew ?_ | refine blk_alloc ?_ _)); refine blk_far ?_ NB301_305.out _; (with_reducible repeat (first | refine blk_drewN ?_ _ | refine blk_drew ?_ | refine blk_alloc ?_ _)); exact BK301.out)) : gb307 ≠ gb301)); have n16_ := Aside0.mk ((by rw [hg]; exact Nat.ne_of_lt (blk_lt (g := gb303) (o := .cells #[.int .i64 (rd l0 x17_1)] 2 (0, 0)) (by (with_reducible repeat (first | refine blk_drewN ?_ _ | refine blk_drew ?_ | refine blk_alloc ?_ _)); refine blk_far ?_ NB303_305.out _; (with_reducible repeat (first | refine blk_drewN ?_ _ | refine blk_drew ?_ | refine blk_alloc ?_ _)); exact BK303.out)) : gb303 ≠ gb307)); have n17_ := Aside0.mk ((by rw [hg]; exact Nat.ne_of_gt (blk_lt (g := gb303) (o := .cells #[.int .i64 (rd l0 x17_1)] 2 (0, 0)) (by (with_reducible repeat (first | refine blk_drewN ?_ _ | refine blk_drew ?_ | refine blk_alloc ?_ _)); refine blk_far ?_ NB303_305.out _; (with_reducible repeat (first | refine blk_drewN ?_ _ | refine blk_drew ?_ | refine blk_alloc ?_ _)); exact BK303.out)) : gb307 ≠ gb303)); have n18_ := Aside0.mk ((by rw [hg]; exact Nat.ne_of_lt (blk_lt (g := gb305) (o := .cells #[.int .i64 t304] 3 (0, 0)) (by (with_reducible repeat (first | refine blk_drewN ?_ _ | refine blk_drew ?_ | refine blk_alloc ?_ _)); refine blk_put (cs := #[.int .i64 0]) ?_ 0 _ rfl; (with_reducible repeat (first | refine blk_drewN ?_ _ | refine blk_drew ?_ | refine blk_alloc ?_ _)); exact BK305.out)) : gb305 ≠ gb307)); have n19_ := Aside0.mk ((by rw [hg]; exact Nat.ne_of_gt (blk_lt (g := gb305) (o := .cells #[.int .i64 t304] 3 (0, 0)) (by (with_reducible repeat (first | refine blk_drewN ?_ _ | refine blk_drew ?_ | refine blk_alloc ?_ _)); refine blk_put (cs := #[.int .i64 0]) ?_ 0 _ rfl; (with_reducible repeat (first | refine blk_drewN ?_ _ | refine blk_drew ?_ | refine blk_alloc ?_ _)); exact BK305.out)) : gb307 ≠ gb305)); clear HO_3; clear BK299; clear BK300; clear BK301; clear BK303; clear BK305; clear HB; have HO_3 := n0_; have BK299 := n1_; have BK300 := n2_; have BK301 := n3_; have BK303 := n4_; have BK305 := n5_; have HB := n6_; have BK307 := n7_; have GW307 := n8_; have GE307 := n9_; have NB299_307 := n10_; have NB307_299 := n11_; have NB300_307 := n12_; have NB307_300 := n13_; have NB301_307 := n14_; have NB307_301 := n15_; have NB303_307 := n16_; have NB307_303 := n17_; have NB305_307 := n18_; have NB307_305 := n19_; clear n0_ n1_ n2_ n3_ n4_ n5_ n6_ n7_ n8_ n9_ n10_ n11_ n12_ n13_ n14_ n15_ n16_ n17_ n18_ n19_; clear hb hbox hg; have hnb40 := NB307_299.out; have hnc40 := NB299_307.out; have hnb41 := NB307_300.out; have hnc41 := NB300_307.out; have hnb42 := NB307_301.out; have hnc42 := NB301_307.out; have hnb43 := NB307_303.out; have hnc43 := NB303_307.out; have hnb44 := NB307_305.out; have hnc44 := NB305_307.out; have hcz45_0 : w39.cell? ⟨gb307, 0, none⟩ = some (.int .i64 0) := (blk_cell BK307.out 0).trans rfl; have hfz45_0 := blk_frozen BK307.out 0) | ((with_reducible refine gate_callee (f := 86) rfl ?_); refine goesL_ (some 32) rfl rfl Tryd.func86 (by kernel_rfl) rfl #[.int .i64 (rd l0 (ji32))] rfl (by (try simp only [List.map_toArray, List.map_cons, List.map_nil]); first | done | (simp only [hji32]; rfl) | rfl | (simp only [List.length_drop, List.length_take]; rfl)) ?_; (with_reducible refine (impl_charClass.calls k1 (rd l0 (ji32)) t308 _ A35.out).mono ?_); rintro e w' ⟨rfl, ⟨nd, rfl⟩⟩; refine ⟨_, rfl, ?_⟩) | ((with_reducible refine gate_dst (N := 11) rfl ?_); refine box_event ?hg (N := 11) ?hd (cs := #[.int .i64 0]) (t := 3) ?hr ?_; (case hd => rfl); (case hg => rfl); (case hr => first | (go_simp; done) | (go_simp; rfl)); intro gb309 hg w46 hbox hb; have n0_ := Aside0.mk (Kd.R_below (by (with_reducible repeat (first | apply Kd.R_alloc | apply Kd.R_drewN | apply Kd.R_drew)); exact (Kd.R_mono (Kd.R_far (p := ⟨gb307, 0, none⟩) (Kd.R_types HO_3.out BK307.out (by decide)) (fun _ hk => hk.2) (.int .i64 (rd l0 (ji32)))) (fun _ h_ => h_.1))) hb); have n1_ := Aside0.mk (blk_below (g := gb299) (o := .cells #[.bool x300000_1] 4 (0, 0)) (by (with_reducible repeat (first | refine blk_drewN ?_ _ | refine blk_drew ?_ | refine blk_alloc ?_ _)); refine blk_far ?_ NB299_307.out _; (with_reducible repeat (first | refine blk_drewN ?_ _ | refine blk_drew ?_ | refine blk_alloc ?_ _)); exact BK299.out) hb); have n2_ := Aside0.mk (blk_below (g := gb300) (o := .cells #[.bool x301000_1] 4 (0, 0)) (by (with_reducible repeat (first | refine blk_drewN ?_ _ | refine blk_drew ?_ | refine blk_alloc ?_ _)); refine blk_far ?_ NB300_307.out _; (with_reducible repeat (first | refine blk_drewN ?_ _ | refine blk_drew ?_ | refine blk_alloc ?_ _)); exact BK300.out) hb); have n3_ := Aside0.mk (blk_below (g := gb301) (o := .cells #[.int .i64 x302000_1] 3 (0, 0)) (by (with_reducible repeat (first | refine blk_drewN ?_ _ | refine blk_drew ?_ | refine blk_alloc ?_ _)); refine blk_far ?_ NB301_307.out _; (with_reducible repeat (first | refine blk_drewN ?_ _ | refine blk_drew ?_ | refine blk_alloc ?_ _)); exact BK301.out) hb); have n4_ := Aside0.mk (blk_below (g := gb303) (o := .cells #[.int .i64 (rd l0 x17_1)] 2 (0, 0)) (by (with_reducible repeat (first | refine blk_drewN ?_ _ | refine blk_drew ?_ | refine blk_alloc ?_ _)); refine blk_far ?_ NB303_307.out _; (with_reducible repeat (first | refine blk_drewN ?_ _ | refine blk_drew ?_ | refine blk_alloc ?_ _)); exact BK303.out) hb); have n5_ := Aside0.mk (blk_below (g := gb305) (o := .cells #[.int .i64 t304] 3 (0, 0)) (by (with_reducible repeat (first | refine blk_drewN ?_ _ | refine blk_drew ?_ | refine blk_alloc ?_ _)); refine blk_far ?_ NB305_307.out _; (with_reducible repeat (first | refine blk_drewN ?_ _ | refine blk_drew ?_ | refine blk_alloc ?_ _)); exact BK305.out) hb); have n6_ := Aside0.mk (blk_below (g := gb307) (o := .cells #[.int .i64 (rd l0 (ji32))] 2 (0, 0)) (by (with_reducible repeat (first | refine blk_drewN ?_ _ | refine blk_drew ?_ | refine blk_alloc ?_ _)); refine blk_put (cs := #[.int .i64 0]) ?_ 0 _ rfl; (with_reducible repeat (first | refine blk_drewN ?_ _ | refine blk_drew ?_ | refine blk_alloc ?_ _)); exact BK307.out) hb); have n7_ := Aside0.mk (below_step (by repeat (first | (with_reducible first | exact HB.out | apply below_alloc | apply pw_below_drewN | apply below_drew1 | refine below_set ?_ GE299.out | refine below_set ?_ GE300.out | refine below_set ?_ GE301.out | refine below_set ?_ GE303.out | refine below_set ?_ GE305.out | refine below_set ?_ GE307.out) | exact HB.out)) hb); have n8_ := Aside0.mk (hbox); have n9_ := Aside0.mk ((by rw [hg]; exact (below_size (by repeat (first | (with_reducible first | exact HB.out | apply below_alloc | apply pw_below_drewN | apply below_drew1 | refine below_set ?_ GE299.out | refine below_set ?_ GE300.out | refine below_set ?_ GE301.out | refine below_set ?_ GE303.out | refine below_set ?_ GE305.out | refine below_set ?_ GE307.out) | exact HB.out))) : w.heap.size ≤ gb309)); have n10_ := Aside0.mk ((by rw [hg]; exact (below_size (by repeat (first | (with_reducible first | exact HB.out | apply below_alloc | apply pw_below_drewN | apply below_drew1 | refine below_set ?_ GE299.out | refine below_set ?_ GE300.out | refine below_set ?_ GE301.out | refine below_set ?_ GE303.out | refine below_set ?_ GE305.out | refine below_set ?_ GE307.out) | exact HB.out))) : w.heap.size ≤ gb309)); have n11_ := Aside0.mk ((by rw [hg]; exact Nat.ne_of_lt (blk_lt (g := gb299) (o := .cells #[.bool x300000_1] 4 (0, 0)) (by (with_reducible repeat (first | refine blk_drewN ?_ _ | refine blk_drew ?_ | refine blk_alloc ?_ _)); refine blk_far ?_ NB299_307.out _; (with_reducible repeat (first | refine blk_drewN ?_ _ | refine blk_drew ?_ | refine blk_alloc ?_ _)); exact BK299.out)) : gb299 ≠ gb309)); have n12_ := Aside0.mk ((by rw [hg]; exact Nat.ne_of_gt (blk_lt (g := gb299) (o := .cells #[.bool x300000_1] 4 (0, 0)) (by (with_reducible repeat (first | refine blk_drewN ?_ _ | refine blk_drew ?_ | refine blk_alloc ?_ _)); refine blk_far ?_ NB299_307.out _; (with_reducible repeat (first | refine blk_drewN ?_ _ | refine blk_drew ?_ | refine blk_alloc ?_ _)); exact BK299.out)) : gb309 ≠ gb299)); have n13_ := Aside0.mk ((by rw [hg]; exact Nat.ne_of_lt (blk_lt (g := gb300) (o := .cells #[.bool x301000_1] 4 (0, 0)) (by (with_reducible repeat (first | refine blk_drewN ?_ _ | refine blk_drew ?_ | refine blk_alloc ?_ _)); refine blk_far ?_ NB300_307.out _; (with_reducible repeat (first | refine blk_drewN ?_ _ | refine blk_drew ?_ | refine blk_alloc ?_ _)); exact BK300.out)) : gb300 ≠ gb309)); have n14_ := Aside0.mk ((by rw [hg]; exact Nat.ne_of_gt (blk_lt (g := gb300) (o := .cells #[.bool x301000_1] 4 (0, 0)) (by (with_reducible repeat (first | refine blk_drewN ?_ _ | refine blk_drew ?_ | refine blk_alloc ?_ _)); refine blk_far ?_ NB300_307.out _; (with_reducible repeat (first | refine blk_drewN ?_ _ | refine blk_drew ?_ | refine blk_alloc ?_ _)); exact BK300.out)) : gb309 ≠ gb300)); have n15_ := Aside0.mk ((by rw [hg]; exact Nat.ne_of_lt (blk_lt (g := gb301) (o := .cells #[.int .i64 x302000_1] 3 (0, 0)) (by (with_reducible repeat (first | refine blk_drewN ?_ _ | refine blk_drew ?_ | refine blk_alloc ?_ _)); refine blk_far ?_ NB301_307.out _; (with_reducible repeat (first | refine blk_drewN ?_ _ | refine blk_drew ?_ | refine blk_alloc ?_ _)); exact BK301.out)) : gb301 ≠ gb309)); have n16_ := Aside0.mk ((by rw [hg]; exact Nat.ne_of_gt (blk_lt (g := gb301) (o := .cells #[.int .i64 x302000_1] 3 (0, 0)) (by (with_reducible repeat (first | refine blk_drewN ?_ _ | refine blk_drew ?_ | refine blk_alloc ?_ _)); refine blk_far ?_ NB301_307.out _; (with_reducible repeat (first | refine blk_drewN ?_ _ | refine blk_drew ?_ | refine blk_alloc ?_ _)); exact BK301.out)) : gb309 ≠ gb301)); have n17_ := Aside0.mk ((by rw [hg]; exact Nat.ne_of_lt (blk_lt (g := gb303) (o := .cells #[.int .i64 (rd l0 x17_1)] 2 (0, 0)) (by (with_reducible repeat (first | refine blk_drewN ?_ _ | refine blk_drew ?_ | refine blk_alloc ?_ _)); refine blk_far ?_ NB303_307.out _; (with_reducible repeat (first | refine blk_drewN ?_ _ | refine blk_drew ?_ | refine blk_alloc ?_ _)); exact BK303.out)) : gb303 ≠ gb309)); have n18_ := Aside0.mk ((by rw [hg]; exact Nat.ne_of_gt (blk_lt (g := gb303) (o := .cells #[.int .i64 (rd l0 x17_1)] 2 (0, 0)) (by (with_reducible repeat (first | refine blk_drewN ?_ _ | refine blk_drew ?_ | refine blk_alloc ?_ _)); refine blk_far ?_ NB303_307.out _; (with_reducible repeat (first | refine blk_drewN ?_ _ | refine blk_drew ?_ | refine blk_alloc ?_ _)); exact BK303.out)) : gb309 ≠ gb303)); have n19_ := Aside0.mk ((by rw [hg]; exact Nat.ne_of_lt (blk_lt (g := gb305) (o := .cells #[.int .i64 t304] 3 (0, 0)) (by (with_reducible repeat (first | refine blk_drewN ?_ _ | refine blk_drew ?_ | refine blk_alloc ?_ _)); refine blk_far ?_ NB305_307.out _; (with_reducible repeat (first | refine blk_drewN ?_ _ | refine blk_drew ?_ | refine blk_alloc ?_ _)); exact BK305.out)) : gb305 ≠ gb309)); have n20_ := Aside0.mk ((by rw [hg]; exact Nat.ne_of_gt (blk_lt (g := gb305) (o := .cells #[.int .i64 t304] 3 (0, 0)) (by (with_reducible repeat (first | refine blk_drewN ?_ _ | refine blk_drew ?_ | refine blk_alloc ?_ _)); refine blk_far ?_ NB305_307.out _; (with_reducible repeat (first | refine blk_drewN ?_ _ | refine blk_drew ?_ | refine blk_alloc ?_ _)); exact BK305.out)) : gb309 ≠ gb305)); have n21_ := Aside0.mk ((by rw [hg]; exact Nat.ne_of_lt (blk_lt (g := gb307) (o := .cells #[.int .i64 (rd l0 (ji32))] 2 (0, 0)) (by (with_reducible repeat (first | refine blk_drewN ?_ _ | refine blk_drew ?_ | refine blk_alloc ?_ _)); refine blk_put (cs := #[.int .i64 0]) ?_ 0 _ rfl; (with_reducible repeat (first | refine blk_drewN ?_ _ | refine blk_drew ?_ | refine blk_alloc ?_ _)); exact BK307.out)) : gb307 ≠ gb309)); have n22_ := Aside0.mk ((by rw [hg]; exact Nat.ne_of_gt (blk_lt (g := gb307) (o := .cells #[.int .i64 (rd l0 (ji32))] 2 (0, 0)) (by (with_reducible repeat (first | refine blk_drewN ?_ _ | refine blk_drew ?_ | refine blk_alloc ?_ _)); refine blk_put (cs := #[.int .i64 0]) ?_ 0 _ rfl; (with_reducible repeat (first | refine blk_drewN ?_ _ | refine blk_drew ?_ | refine blk_alloc ?_ _)); exact BK307.out)) : gb309 ≠ gb307)); clear HO_3; clear BK299; clear BK300; clear BK301; clear BK303; clear BK305; clear BK307; clear HB; have HO_3 := n0_; have BK299 := n1_; have BK300 := n2_; have BK301 := n3_; have BK303 := n4_; have BK305 := n5_; have BK307 := n6_; have HB := n7_; have BK309 := n8_; have GW309 := n9_; have GE309 := n10_; have NB299_309 := n11_; have NB309_299 := n12_; have NB300_309 := n13_; have NB309_300 := n14_; have NB301_309 := n15_; have NB309_301 := n16_; have NB303_309 := n17_; have NB309_303 := n18_; have NB305_309 := n19_; have NB309_305 := n20_; have NB307_309 := n21_; have NB309_307 := n22_; clear n0_ n1_ n2_ n3_ n4_ n5_ n6_ n7_ n8_ n9_ n10_ n11_ n12_ n13_ n14_ n15_ n16_ n17_ n18_ n19_ n20_ n21_ n22_; clear hb hbox hg; have hnb47 := NB309_299.out; have hnc47 := NB299_309.out; have hnb48 := NB309_300.out; have hnc48 := NB300_309.out; have hnb49 := NB309_301.out; have hnc49 := NB301_309.out; have hnb50 := NB309_303.out; have hnc50 := NB303_309.out; have hnb51 := NB309_305.out; have hnc51 := NB305_309.out; have hnb52 := NB309_307.out; have hnc52 := NB307_309.out; have hcz53_0 : w46.cell? ⟨gb309, 0, none⟩ = some (.int .i64 0) := (blk_cell BK309.out 0).trans rfl; have hfz53_0 := blk_frozen BK309.out 0) | ((with_reducible refine gate_store (t := 3) (p := 11) rfl ?_); refine store_event (t := 3) (p := 11) (v := ?vo_w54) (w1 := (w46.setCell ⟨gb309, 0, none⟩ (.int .i64 t308))) ?hg ?ho ?hn ?hr ?_; (case ho => rfl); (case hg => rfl); (case hn => rfl); (case hr => first | (go_simp; done) | (go_simp; rfl)); intro w54 hw; have n0_ : Aside0 (Kd.R Kd.bool 4 w54 w.heap.size (fun k_ => k_ ≠ gb299 ∧ k_ ≠ gb300) v297 x3_1) := ⟨(by rw [hw]; exact (by (with_reducible repeat (first | apply Kd.R_alloc | apply Kd.R_drewN | apply Kd.R_drew)); exact Kd.R_mono (Kd.R_far (p := ⟨gb309, 0, none⟩) (Kd.R_types HO_3.out BK309.out (by decide)) (fun _ hk => hk.2) (.int .i64 t308)) (fun _ hk => ⟨hk.1.1, hk.1.2⟩)))⟩; have n1_ : Aside0 (w54.heap[gb299]? = some (.cells #[.bool x300000_1] 4 (0, 0))) := ⟨(by rw [hw]; exact (by (with_reducible repeat (first | refine blk_drewN ?_ _ | refine blk_drew ?_ | refine blk_alloc ?_ _)); refine blk_far ?_ NB299_309.out _; (with_reducible repeat (first | refine blk_drewN ?_ _ | refine blk_drew ?_ | refine blk_alloc ?_ _)); exact BK299.out))⟩; have n2_ : Aside0 (w54.heap[gb300]? = some (.cells #[.bool x301000_1] 4 (0, 0))) := ⟨(by rw [hw]; exact (by (with_reducible repeat (first | refine blk_drewN ?_ _ | refine blk_drew ?_ | refine blk_alloc ?_ _)); refine blk_far ?_ NB300_309.out _; (with_reducible repeat (first | refine blk_drewN ?_ _ | refine blk_drew ?_ | refine blk_alloc ?_ _)); exact BK300.out))⟩; have n3_ : Aside0 (w54.heap[gb301]? = some (.cells #[.int .i64 x302000_1] 3 (0, 0))) := ⟨(by rw [hw]; exact (by (with_reducible repeat (first | refine blk_drewN ?_ _ | refine blk_drew ?_ | refine blk_alloc ?_ _)); refine blk_far ?_ NB301_309.out _; (with_reducible repeat (first | refine blk_drewN ?_ _ | refine blk_drew ?_ | refine blk_alloc ?_ _)); exact BK301.out))⟩; have n4_ : Aside0 (w54.heap[gb303]? = some (.cells #[.int .i64 (rd l0 x17_1)] 2 (0, 0))) := ⟨(by rw [hw]; exact (by (with_reducible repeat (first | refine blk_drewN ?_ _ | refine blk_drew ?_ | refine blk_alloc ?_ _)); refine blk_far ?_ NB303_309.out _; (with_reducible repeat (first | refine blk_drewN ?_ _ | refine blk_drew ?_ | refine blk_alloc ?_ _)); exact BK303.out))⟩; have n5_ : Aside0 (w54.heap[gb305]? = some (.cells #[.int .i64 t304] 3 (0, 0))) := ⟨(by rw [hw]; exact (by (with_reducible repeat (first | refine blk_drewN ?_ _ | refine blk_drew ?_ | refine blk_alloc ?_ _)); refine blk_far ?_ NB305_309.out _; (with_reducible repeat (first | refine blk_drewN ?_ _ | refine blk_drew ?_ | refine blk_alloc ?_ _)); exact BK305.out))⟩; have n6_ : Aside0 (w54.heap[gb307]? = some (.cells #[.int .i64 (rd l0 (ji32))] 2 (0, 0))) := ⟨(by rw [hw]; exact (by (with_reducible repeat (first | refine blk_drewN ?_ _ | refine blk_drew ?_ | refine blk_alloc ?_ _)); refine blk_far ?_ NB307_309.out _; (with_reducible repeat (first | refine blk_drewN ?_ _ | refine blk_drew ?_ | refine blk_alloc ?_ _)); exact BK307.out))⟩; have n7_ : Aside0 (w54.heap[gb309]? = some (.cells #[.int .i64 t308] 3 (0, 0))) := ⟨(by rw [hw]; exact (by (with_reducible repeat (first | refine blk_drewN ?_ _ | refine blk_drew ?_ | refine blk_alloc ?_ _)); refine blk_put (cs := #[.int .i64 0]) ?_ 0 _ rfl; (with_reducible repeat (first | refine blk_drewN ?_ _ | refine blk_drew ?_ | refine blk_alloc ?_ _)); exact BK309.out))⟩; have n8_ : Aside0 (Below w.heap.size w w54) := ⟨(by rw [hw]; exact (by repeat (first | (with_reducible first | exact HB.out | apply below_alloc | apply pw_below_drewN | apply below_drew1 | refine below_set ?_ GE299.out | refine below_set ?_ GE300.out | refine below_set ?_ GE301.out | refine below_set ?_ GE303.out | refine below_set ?_ GE305.out | refine below_set ?_ GE307.out | refine below_set ?_ GE309.out) | exact HB.out)))⟩; clear hw; clear HO_3; clear BK299; clear BK300; clear BK301; clear BK303; clear BK305; clear BK307; clear BK309; clear HB; have HO_3 := n0_; have BK299 := n1_; have BK300 := n2_; have BK301 := n3_; have BK303 := n4_; have BK305 := n5_; have BK307 := n6_; have BK309 := n7_; have HB := n8_; clear n0_ n1_ n2_ n3_ n4_ n5_ n6_ n7_ n8_; have hcz55_0 : w54.cell? ⟨gb307, 0, none⟩ = some (.int .i64 (rd l0 (ji32))) := (blk_cell BK307.out 0).trans rfl; have hfz55_0 := blk_frozen BK307.out 0; have hnb56 := NB303_299.out; have hnc56 := NB299_303.out; have hnb57 := NB303_300.out; have hnc57 := NB300_303.out; have hnb58 := NB303_301.out; have hnc58 := NB301_303.out; have hnb59 := NB303_305.out; have hnc59 := NB305_303.out; have hcz60_0 : w54.cell? ⟨gb303, 0, none⟩ = some (.int .i64 (rd l0 x17_1)) := (blk_cell BK303.out 0).trans rfl; have hfz60_0 := blk_frozen BK303.out 0; have hnb61 := NB305_299.out; have hnc61 := NB299_305.out; have hnb62 := NB305_300.out; have hnc62 := NB300_305.out; have hnb63 := NB305_301.out; have hnc63 := NB301_305.out; have hcz64_0 : w54.cell? ⟨gb305, 0, none⟩ = some (.int .i64 t304) := (blk_cell BK305.out 0).trans rfl; have hfz64_0 := blk_frozen BK305.out 0; have hcz65_0 : w54.cell? ⟨gb309, 0, none⟩ = some (.int .i64 t308) := (blk_cell BK309.out 0).trans rfl; have hfz65_0 := blk_frozen BK309.out 0; have hnb66 := NB300_299.out; have hnc66 := NB299_300.out; have hnb67 := NB300_301.out; have hnc67 := NB301_300.out; have hcz68_0 : w54.cell? ⟨gb300, 0, none⟩ = some (.bool x301000_1) := (blk_cell BK300.out 0).trans rfl; have hfz68_0 := blk_frozen BK300.out 0; have hnb69 := NB299_301.out; have hnc69 := NB301_299.out; have hcz70_0 : w54.cell? ⟨gb299, 0, none⟩ = some (.bool x300000_1) := (blk_cell BK299.out 0).trans rfl; have hfz70_0 := blk_frozen BK299.out 0; have hcz71_0 : w54.cell? ⟨gb301, 0, none⟩ = some (.int .i64 x302000_1) := (blk_cell BK301.out 0).trans rfl; have hfz71_0 := blk_frozen BK301.out 0) | (go_at_call 115; (with_reducible refine (impl_charCuts_1.calls k1 (rd l0 (ji32)) (rd l0 x17_1) t304 t308 x301000_1 x300000_1 x302000_1 t310 gb307 gb303 gb305 gb309 gb300 gb299 gb301 _ (by first | assumption | (simp; assumption) | (simp [*]; done)) (by first | assumption | (simp; assumption) | (simp [*]; done)) (by first | assumption | (simp; assumption) | (simp [*]; done)) (by first | assumption | (simp; assumption) | (simp [*]; done)) (by first | assumption | (simp; assumption) | (simp [*]; done)) (by first | assumption | (simp; assumption) | (simp [*]; done)) (by first | assumption | (simp; assumption) | (simp [*]; done)) A36.out).mono ?_); rintro e w' ⟨rfl, ⟨nd, rfl⟩⟩; (try (rw [drewN_self w54]; generalize hq_ : World.drewN w54 _ = w54; have n0_ : Aside0 (Kd.R Kd.bool 4 w54 w.heap.size (fun k_ => k_ ≠ gb299 ∧ k_ ≠ gb300) v297 x3_1) := ⟨by rw [← hq_]; exact (by (with_reducible repeat (first | apply Kd.R_alloc | apply Kd.R_drewN | apply Kd.R_drew)); exact HO_3.out)⟩; have n1_ : Aside0 (w54.heap[gb299]? = some (.cells #[.bool x300000_1] 4 (0, 0))) := ⟨by rw [← hq_]; exact (by (with_reducible repeat (first | refine blk_drewN ?_ _ | refine blk_drew ?_ | refine blk_alloc ?_ _)); exact BK299.out)⟩; have n2_ : Aside0 (w54.heap[gb300]? = some (.cells #[.bool x301000_1] 4 (0, 0))) := ⟨by rw [← hq_]; exact (by (with_reducible repeat (first | refine blk_drewN ?_ _ | refine blk_drew ?_ | refine blk_alloc ?_ _)); exact BK300.out)⟩; have n3_ : Aside0 (w54.heap[gb301]? = some (.cells #[.int .i64 x302000_1] 3 (0, 0))) := ⟨by rw [← hq_]; exact (by (with_reducible repeat (first | refine blk_drewN ?_ _ | refine blk_drew ?_ | refine blk_alloc ?_ _)); exact BK301.out)⟩; have n4_ : Aside0 (w54.heap[gb303]? = some (.cells #[.int .i64 (rd l0 x17_1)] 2 (0, 0))) := ⟨by rw [← hq_]; exact (by (with_reducible repeat (first | refine blk_drewN ?_ _ | refine blk_drew ?_ | refine blk_alloc ?_ _)); exact BK303.out)⟩; have n5_ : Aside0 (w54.heap[gb305]? = some (.cells #[.int .i64 t304] 3 (0, 0))) := ⟨by rw [← hq_]; exact (by (with_reducible repeat (first | refine blk_drewN ?_ _ | refine blk_drew ?_ | refine blk_alloc ?_ _)); exact BK305.out)⟩; have n6_ : Aside0 (w54.heap[gb307]? = some (.cells #[.int .i64 (rd l0 (ji32))] 2 (0, 0))) := ⟨by rw [← hq_]; exact (by (with_reducible repeat (first | refine blk_drewN ?_ _ | refine blk_drew ?_ | refine blk_alloc ?_ _)); exact BK307.out)⟩; have n7_ : Aside0 (w54.heap[gb309]? = some (.cells #[.int .i64 t308] 3 (0, 0))) := ⟨by rw [← hq_]; exact (by (with_reducible repeat (first | refine blk_drewN ?_ _ | refine blk_drew ?_ | refine blk_alloc ?_ _)); exact BK309.out)⟩; have n8_ : Aside0 (Below w.heap.size w w54) := ⟨by rw [← hq_]; exact (by repeat (first | (with_reducible first | exact HB.out | apply below_alloc | apply pw_below_drewN | apply below_drew1 | refine below_set ?_ GE299.out | refine below_set ?_ GE300.out | refine below_set ?_ GE301.out | refine below_set ?_ GE303.out | refine below_set ?_ GE305.out | refine below_set ?_ GE307.out | refine below_set ?_ GE309.out) | exact HB.out))⟩; clear HO_3 BK299 BK300 BK301 BK303 BK305 BK307 BK309 HB hq_; have HO_3 := n0_; have BK299 := n1_; have BK300 := n2_; have BK301 := n3_; have BK303 := n4_; have BK305 := n5_; have BK307 := n6_; have BK309 := n7_; have HB := n8_; clear n0_ n1_ n2_ n3_ n4_ n5_ n6_ n7_ n8_)); have p38 : 0 ≤ (x17_1 : Int) := of_decide_eq_true (by first | (with_reducible assumption) | assumption); have q38 : (x17_1 : Int) < ((x3_1.length : Int) : Int) := of_decide_eq_true (by first | (with_reducible assumption) | assumption); obtain ⟨go38, co38, eo38, gb38, gl38, cl38, HG38⟩ := Kd.R_form HO_3.out (by omega); (first | cases eo38 | (injection eo38 with ea_ en_ ec_; (first | subst ea_ | (injection ea_ with ea_; subst ea_)); subst ec_; clear en_)); have GB38 := Aside0.mk gb38; have GG38 := Aside0.mk HG38; clear gb38 gl38 HG38; obtain ⟨hx38_0, hf38_0⟩ := Kd.R_celln false HO_3.out (x17_1 : Int) p38 q38; replace p38 := eq_true p38; replace q38 := eq_true q38; obtain ⟨hy72_, hz72_⟩ := Kd.R_celln false HO_3.out (x17_1 : Int) (of_decide_eq_true (by first | (with_reducible assumption) | assumption)) (of_decide_eq_true (by first | (with_reducible assumption) | assumption)); have HP72 := Kd.R_putg HO_3.out (x17_1 : Int) t310) | ((with_reducible refine gate_store (t := 4) (p := 37) rfl ?_); refine store_event (t := 4) (p := 37) (v := ?vo_w73) (w1 := (w54.setCell ⟨go38, (x17_1 : Int).toNat, none⟩ (.bool t310))) ?hg ?ho ?hn ?hr ?_; (case ho => rfl); (case hg => rfl); (case hn => rfl); (case hr => first | (go_simp; done) | (go_simp; rfl)); intro w73 hw; have hg : w54.grownBy w73 (some go38) := (by rw [hw]; exact HP72.2); have hp_ : Kd.R Kd.bool 4 w73 w.heap.size (fun k_ => k_ ≠ gb299 ∧ k_ ≠ gb300) (.slice (some ⟨go38, 0, none⟩) x3_1.length co38) y311 := (by rw [hw, Ny311.out]; exact HP72.1); clear HP72; have n0_ := Aside0.mk (hp_); have n1_ := Aside0.mk (blk_grown (g := gb299) (o := .cells #[.bool x300000_1] 4 (0, 0)) (by (with_reducible repeat (first | refine blk_drewN ?_ _ | refine blk_drew ?_ | refine blk_alloc ?_ _)); exact BK299.out) hg (Kd.R_away HO_3.out (fun _ hk => hk.1))); have n2_ := Aside0.mk (blk_grown (g := gb300) (o := .cells #[.bool x301000_1] 4 (0, 0)) (by (with_reducible repeat (first | refine blk_drewN ?_ _ | refine blk_drew ?_ | refine blk_alloc ?_ _)); exact BK300.out) hg (Kd.R_away HO_3.out (fun _ hk => hk.2))); have n3_ := Aside0.mk (blk_grown (g := gb301) (o := .cells #[.int .i64 x302000_1] 3 (0, 0)) (by (with_reducible repeat (first | refine blk_drewN ?_ _ | refine blk_drew ?_ | refine blk_alloc ?_ _)); exact BK301.out) hg (Kd.R_ne HO_3.out BK301.out (by decide))); have n4_ := Aside0.mk (blk_grown (g := gb303) (o := .cells #[.int .i64 (rd l0 x17_1)] 2 (0, 0)) (by (with_reducible repeat (first | refine blk_drewN ?_ _ | refine blk_drew ?_ | refine blk_alloc ?_ _)); exact BK303.out) hg (Kd.R_ne HO_3.out BK303.out (by decide))); have n5_ := Aside0.mk (blk_grown (g := gb305) (o := .cells #[.int .i64 t304] 3 (0, 0)) (by (with_reducible repeat (first | refine blk_drewN ?_ _ | refine blk_drew ?_ | refine blk_alloc ?_ _)); exact BK305.out) hg (Kd.R_ne HO_3.out BK305.out (by decide))); have n6_ := Aside0.mk (blk_grown (g := gb307) (o := .cells #[.int .i64 (rd l0 (ji32))] 2 (0, 0)) (by (with_reducible repeat (first | refine blk_drewN ?_ _ | refine blk_drew ?_ | refine blk_alloc ?_ _)); exact BK307.out) hg (Kd.R_ne HO_3.out BK307.out (by decide))); have n7_ := Aside0.mk (blk_grown (g := gb309) (o := .cells #[.int .i64 t308] 3 (0, 0)) (by (with_reducible repeat (first | refine blk_drewN ?_ _ | refine blk_drew ?_ | refine blk_alloc ?_ _)); exact BK309.out) hg (Kd.R_ne HO_3.out BK309.out (by decide))); have n8_ := Aside0.mk ((by rw [hw]; exact below_set (HB.out) GB38.out : Below w.heap.size w w73)); clear HO_3; clear BK299; clear BK300; clear BK301; clear BK303; clear BK305; clear BK307; clear BK309; clear HB; have HO_3 := n0_; have BK299 := n1_; have BK300 := n2_; have BK301 := n3_; have BK303 := n4_; have BK305 := n5_; have BK307 := n6_; have BK309 := n7_; have HB := n8_; clear n0_ n1_ n2_ n3_ n4_ n5_ n6_ n7_ n8_; clear hg hw hp_))
                          go_meet
                          case rel => exact ⟨_, (y311), H', ⟨by have := HK1.out; first | omega | exact Nat.le_refl _⟩, ⟨by (with_reducible repeat (first | apply Kd.R_alloc | apply Kd.R_drewN | apply Kd.R_drew)); exact HO_3.out⟩, ⟨by (with_reducible repeat (first | refine blk_drewN ?_ _ | refine blk_drew ?_ | refine blk_alloc ?_ _)); exact BK299.out⟩, ⟨by (with_reducible repeat (first | refine blk_drewN ?_ _ | refine blk_drew ?_ | refine blk_alloc ?_ _)); exact BK300.out⟩, ⟨by (with_reducible repeat (first | refine blk_drewN ?_ _ | refine blk_drew ?_ | refine blk_alloc ?_ _)); exact BK301.out⟩, ⟨by (with_reducible repeat (first | refine blk_drewN ?_ _ | refine blk_drew ?_ | refine blk_alloc ?_ _)); exact BK303.out⟩, ⟨by (with_reducible repeat (first | refine blk_drewN ?_ _ | refine blk_drew ?_ | refine blk_alloc ?_ _)); exact BK305.out⟩, ⟨by repeat (first | (with_reducible first | exact HB.out | apply below_alloc | apply pw_below_drewN | apply below_drew1 | refine below_set ?_ GE299.out | refine below_set ?_ GE300.out | refine below_set ?_ GE301.out | refine below_set ?_ GE303.out | refine below_set ?_ GE305.out | refine below_set ?_ GE307.out | refine below_set ?_ GE309.out) | exact HB.out)⟩⟩
                        · rw [if_neg c37] at H
                          exact absurd H (by simp)
                      · rw [if_neg c34] at H
                        exact absurd H (by simp)
                    · rw [if_neg c33] at H
                      exact absurd H (by simp)
                  · rw [if_neg c31] at H
                    have c31b0 : decide (0 < x17_1) = false := decide_eq_false c31
                    clear c31
                    (first | rw [c31b0] | (simp only [i64_w, i32_w]; rw [c31b0]) | skip)
                    have H' := Aside0.mk H
                    clear H
                    go_wp2
                    go_meet
                    case rel => exact ⟨_, (x3_1), H', ⟨by have := HK1.out; first | omega | exact Nat.le_refl _⟩, ⟨by (with_reducible repeat (first | apply Kd.R_alloc | apply Kd.R_drewN | apply Kd.R_drew)); exact Kd.R_mono (Kd.R_far (p := ⟨gb305, 0, none⟩) (Kd.R_types HO_3.out BK305.out (by decide)) (fun _ hk => hk.2) (.int .i64 t304)) (fun _ hk => ⟨hk.1.1, hk.1.2⟩)⟩, ⟨by (with_reducible repeat (first | refine blk_drewN ?_ _ | refine blk_drew ?_ | refine blk_alloc ?_ _)); refine blk_far ?_ NB299_305.out _; (with_reducible repeat (first | refine blk_drewN ?_ _ | refine blk_drew ?_ | refine blk_alloc ?_ _)); exact BK299.out⟩, ⟨by (with_reducible repeat (first | refine blk_drewN ?_ _ | refine blk_drew ?_ | refine blk_alloc ?_ _)); refine blk_far ?_ NB300_305.out _; (with_reducible repeat (first | refine blk_drewN ?_ _ | refine blk_drew ?_ | refine blk_alloc ?_ _)); exact BK300.out⟩, ⟨by (with_reducible repeat (first | refine blk_drewN ?_ _ | refine blk_drew ?_ | refine blk_alloc ?_ _)); refine blk_far ?_ NB301_305.out _; (with_reducible repeat (first | refine blk_drewN ?_ _ | refine blk_drew ?_ | refine blk_alloc ?_ _)); exact BK301.out⟩, ⟨by (with_reducible repeat (first | refine blk_drewN ?_ _ | refine blk_drew ?_ | refine blk_alloc ?_ _)); refine blk_far ?_ NB303_305.out _; (with_reducible repeat (first | refine blk_drewN ?_ _ | refine blk_drew ?_ | refine blk_alloc ?_ _)); exact BK303.out⟩, ⟨by (with_reducible repeat (first | refine blk_drewN ?_ _ | refine blk_drew ?_ | refine blk_alloc ?_ _)); refine blk_put (cs := #[.int .i64 0]) ?_ 0 _ rfl; (with_reducible repeat (first | refine blk_drewN ?_ _ | refine blk_drew ?_ | refine blk_alloc ?_ _)); exact BK305.out⟩, ⟨by repeat (first | (with_reducible first | exact HB.out | apply below_alloc | apply pw_below_drewN | apply below_drew1 | refine below_set ?_ GE299.out | refine below_set ?_ GE300.out | refine below_set ?_ GE301.out | refine below_set ?_ GE303.out | refine below_set ?_ GE305.out) | exact HB.out)⟩⟩
                case rest =>
                  clear HC19
                  try clear c1
                  try clear c2
                  try clear c2b0
                  try clear c2b1
                  try clear p2
                  try clear c3
                  try clear c3b0
                  try clear c3b1
                  try clear p3
                  try clear q3
                  try clear hx3
                  try clear hf3
                  try clear c4
                  try clear c5
                  try clear c6
                  try clear p6
                  try clear c8
                  try clear c9
                  try clear c10
                  try clear c11
                  try clear c12
                  try clear c15
                  try clear c15b0
                  try clear c16
                  try clear c16b0
                  try clear c17
                  try clear c17b0
                  try clear c21
                  try clear c22
                  try clear c23
                  try clear c26
                  try clear c27
                  try clear c28
                  try clear c29
                  try clear p30
                  try clear q30
                  try clear hx30
                  try clear c31
                  try clear c31b0
                  try clear c33
                  try clear c33b0
                  try clear c34
                  try clear c34b0
                  try clear c37
                  try clear c37b0
                  try clear p38
                  try clear q38
                  try clear hx38
                  try clear hf38
                  try clear c40
                  try clear c41
                  try clear c42
                  try clear c43
                  try clear c44
                  try clear c47
                  try clear c48
                  try clear c49
                  try clear c50
                  try clear c51
                  try clear c52
                  try clear c56
                  try clear c57
                  try clear c58
                  try clear c59
                  try clear c61
                  try clear c62
                  try clear c63
                  try clear p64
                  try clear c66
                  try clear c67
                  try clear c69
                  try clear hcz11_0
                  try clear hcz13_0
                  try clear hcz14_0
                  try clear hcz24_0
                  try clear hcz30_0
                  try clear hcz45_0
                  try clear hcz53_0
                  try clear hcz55_0
                  try clear hcz60_0
                  try clear hcz64_0
                  try clear hcz65_0
                  try clear hcz68_0
                  try clear hcz70_0
                  try clear hcz71_0
                  try clear hfz11_0
                  try clear hfz13_0
                  try clear hfz14_0
                  try clear hfz24_0
                  try clear hfz30_0
                  try clear hfz45_0
                  try clear hfz53_0
                  try clear hfz55_0
                  try clear hfz60_0
                  try clear hfz64_0
                  try clear hfz65_0
                  try clear hfz68_0
                  try clear hfz70_0
                  try clear hfz71_0
                  try clear hx302_0
                  try clear hx306_0
                  try clear hx38_0
                  try clear p2
                  try clear p302
                  try clear p306
                  try clear p38
                  try clear q302
                  try clear q306
                  try clear q38
                  obtain ⟨kq, x3_18, HA, HJ18, HO_3, BK299, BK300, BK301, BK303, BK305, HB⟩ := hcut
                  cases kq with
                  | zero => exact absurd HA.out (by simp [impl_charCuts.j1])
                  | succ kj18 =>
                    have H := HA.out
                    clear HA
                    simp only [impl_charCuts.j1] at H
                    by_cases c74 : t304 = 2
                    · rw [if_pos c74] at H
                      have c74b0 : (t304 == 2) = true := beq_iff_eq.mpr c74
                      have c74b1 : (t304 != 2) = false := bne_eq_false_iff_eq.mpr c74
                      clear c74
                      by_cases c75 : (rd l0 x17_1) = 1584
                      · rw [if_pos c75] at H
                        have c75b0 : ((rd l0 x17_1) == 1584) = true := beq_iff_eq.mpr c75
                        have c75b1 : ((rd l0 x17_1) != 1584) = false := bne_eq_false_iff_eq.mpr c75
                        clear c75
                        by_cases c76 : t304 = 9
                        · rw [if_pos c76] at H
                          have c76b0 : (t304 == 9) = true := beq_iff_eq.mpr c76
                          have c76b1 : (t304 != 9) = false := bne_eq_false_iff_eq.mpr c76
                          clear c76
                          have H' := Aside0.mk H
                          clear H
                          have hnb77 := NB305_299.out
                          have hnc77 := NB299_305.out
                          have hnb78 := NB305_300.out
                          have hnc78 := NB300_305.out
                          have hnb79 := NB305_301.out
                          have hnc79 := NB301_305.out
                          have hnb80 := NB305_303.out
                          have hnc80 := NB303_305.out
                          have hcz81_0 : wc.cell? ⟨gb305, 0, none⟩ = some (.int .i64 t304) := (blk_cell BK305.out 0).trans rfl
                          have hfz81_0 := blk_frozen BK305.out 0
                          have hnb82 := NB303_299.out
                          have hnc82 := NB299_303.out
                          have hnb83 := NB303_300.out
                          have hnc83 := NB300_303.out
                          have hnb84 := NB303_301.out
                          have hnc84 := NB301_303.out
                          have hcz85_0 : wc.cell? ⟨gb303, 0, none⟩ = some (.int .i64 (rd l0 x17_1)) := (blk_cell BK303.out 0).trans rfl
                          have hfz85_0 := blk_frozen BK303.out 0
                          have hnb86 := NB300_299.out
                          have hnc86 := NB299_300.out
                          have hnb87 := NB300_301.out
                          have hnc87 := NB301_300.out
                          have hcz88_0 : wc.cell? ⟨gb300, 0, none⟩ = some (.bool x301000_1) := (blk_cell BK300.out 0).trans rfl
                          have hfz88_0 := blk_frozen BK300.out 0
                          have hnb89 := NB301_299.out
                          have hnc89 := NB299_301.out
                          have hcz90_0 : wc.cell? ⟨gb301, 0, none⟩ = some (.int .i64 x302000_1) := (blk_cell BK301.out 0).trans rfl
                          have hfz90_0 := blk_frozen BK301.out 0
                          go_wp2
                          go_roundg kj18
                          case measure => have := HK1.out; have := HJ18.out; omega
                          case rel => exact ⟨(x3_18), (wrap64 (x17_1 + 1)), (x300000_1), (true), (wrap64 (x302000_1 + 1)), (by first | rfl | (simp; done) | (simp [*]; done)), H', ⟨by have := HK1.out; have := HJ18.out; omega⟩, ⟨by (with_reducible repeat (first | apply Kd.R_alloc | apply Kd.R_drewN | apply Kd.R_drew)); exact Kd.R_mono (Kd.R_far (p := ⟨gb301, 0, none⟩) (Kd.R_far (p := ⟨gb300, 0, none⟩) (Kd.R_types (Kd.R_mono HO_3.out (fun k_ hk => (⟨hk, hk.2⟩ : _ ∧ k_ ≠ gb300))) BK301.out (by decide)) (fun _ hk => hk.1.2) (.bool true)) (fun _ hk => hk.2) (.int .i64 (wrap64 (x302000_1 + 1)))) (fun _ hk => ⟨hk.1.1.1, hk.1.1.2⟩)⟩, ⟨by (with_reducible repeat (first | refine blk_drewN ?_ _ | refine blk_drew ?_ | refine blk_alloc ?_ _)); refine blk_far ?_ NB299_301.out _; (with_reducible repeat (first | refine blk_drewN ?_ _ | refine blk_drew ?_ | refine blk_alloc ?_ _)); refine blk_far ?_ NB299_300.out _; (with_reducible repeat (first | refine blk_drewN ?_ _ | refine blk_drew ?_ | refine blk_alloc ?_ _)); exact BK299.out⟩, ⟨by (with_reducible repeat (first | refine blk_drewN ?_ _ | refine blk_drew ?_ | refine blk_alloc ?_ _)); refine blk_far ?_ NB300_301.out _; (with_reducible repeat (first | refine blk_drewN ?_ _ | refine blk_drew ?_ | refine blk_alloc ?_ _)); refine blk_put (cs := #[.bool x301000_1]) ?_ 0 _ rfl; (with_reducible repeat (first | refine blk_drewN ?_ _ | refine blk_drew ?_ | refine blk_alloc ?_ _)); exact BK300.out⟩, ⟨by (with_reducible repeat (first | refine blk_drewN ?_ _ | refine blk_drew ?_ | refine blk_alloc ?_ _)); refine blk_put (cs := #[.int .i64 x302000_1]) ?_ 0 _ rfl; (with_reducible repeat (first | refine blk_drewN ?_ _ | refine blk_drew ?_ | refine blk_alloc ?_ _)); refine blk_far ?_ NB301_300.out _; (with_reducible repeat (first | refine blk_drewN ?_ _ | refine blk_drew ?_ | refine blk_alloc ?_ _)); exact BK301.out⟩, ⟨by repeat (first | (with_reducible first | exact HB.out | apply below_alloc | apply pw_below_drewN | apply below_drew1 | refine below_set ?_ GE299.out | refine below_set ?_ GE300.out | refine below_set ?_ GE301.out | refine below_set ?_ GE303.out | refine below_set ?_ GE305.out) | exact HB.out)⟩⟩
                        · rw [if_neg c76] at H
                          have c76b0 : (t304 == 9) = false := beq_eq_false_iff_ne.mpr c76
                          have c76b1 : (t304 != 9) = true := bne_iff_ne.mpr c76
                          have H' := Aside0.mk H
                          clear H
                          have hnb91 := NB305_299.out
                          have hnc91 := NB299_305.out
                          have hnb92 := NB305_300.out
                          have hnc92 := NB300_305.out
                          have hnb93 := NB305_301.out
                          have hnc93 := NB301_305.out
                          have hnb94 := NB305_303.out
                          have hnc94 := NB303_305.out
                          have hcz95_0 : wc.cell? ⟨gb305, 0, none⟩ = some (.int .i64 t304) := (blk_cell BK305.out 0).trans rfl
                          have hfz95_0 := blk_frozen BK305.out 0
                          have hnb96 := NB303_299.out
                          have hnc96 := NB299_303.out
                          have hnb97 := NB303_300.out
                          have hnc97 := NB300_303.out
                          have hnb98 := NB303_301.out
                          have hnc98 := NB301_303.out
                          have hcz99_0 : wc.cell? ⟨gb303, 0, none⟩ = some (.int .i64 (rd l0 x17_1)) := (blk_cell BK303.out 0).trans rfl
                          have hfz99_0 := blk_frozen BK303.out 0
                          have hnb100 := NB300_299.out
                          have hnc100 := NB299_300.out
                          have hnb101 := NB300_301.out
                          have hnc101 := NB301_300.out
                          have hcz102_0 : wc.cell? ⟨gb300, 0, none⟩ = some (.bool x301000_1) := (blk_cell BK300.out 0).trans rfl
                          have hfz102_0 := blk_frozen BK300.out 0
                          have hnb103 := NB301_299.out
                          have hnc103 := NB299_301.out
                          have hcz104_0 : wc.cell? ⟨gb301, 0, none⟩ = some (.int .i64 x302000_1) := (blk_cell BK301.out 0).trans rfl
                          have hfz104_0 := blk_frozen BK301.out 0
                          go_wp2
                          go_roundg kj18
                          case measure => have := HK1.out; have := HJ18.out; omega
                          case rel => exact ⟨(x3_18), (wrap64 (x17_1 + 1)), (x300000_1), (true), (0), (by first | rfl | (simp; done) | (simp [*]; done)), H', ⟨by have := HK1.out; have := HJ18.out; omega⟩, ⟨by (with_reducible repeat (first | apply Kd.R_alloc | apply Kd.R_drewN | apply Kd.R_drew)); exact Kd.R_mono (Kd.R_far (p := ⟨gb301, 0, none⟩) (Kd.R_far (p := ⟨gb300, 0, none⟩) (Kd.R_types (Kd.R_mono HO_3.out (fun k_ hk => (⟨hk, hk.2⟩ : _ ∧ k_ ≠ gb300))) BK301.out (by decide)) (fun _ hk => hk.1.2) (.bool true)) (fun _ hk => hk.2) (.int .i64 0)) (fun _ hk => ⟨hk.1.1.1, hk.1.1.2⟩)⟩, ⟨by (with_reducible repeat (first | refine blk_drewN ?_ _ | refine blk_drew ?_ | refine blk_alloc ?_ _)); refine blk_far ?_ NB299_301.out _; (with_reducible repeat (first | refine blk_drewN ?_ _ | refine blk_drew ?_ | refine blk_alloc ?_ _)); refine blk_far ?_ NB299_300.out _; (with_reducible repeat (first | refine blk_drewN ?_ _ | refine blk_drew ?_ | refine blk_alloc ?_ _)); exact BK299.out⟩, ⟨by (with_reducible repeat (first | refine blk_drewN ?_ _ | refine blk_drew ?_ | refine blk_alloc ?_ _)); refine blk_far ?_ NB300_301.out _; (with_reducible repeat (first | refine blk_drewN ?_ _ | refine blk_drew ?_ | refine blk_alloc ?_ _)); refine blk_put (cs := #[.bool x301000_1]) ?_ 0 _ rfl; (with_reducible repeat (first | refine blk_drewN ?_ _ | refine blk_drew ?_ | refine blk_alloc ?_ _)); exact BK300.out⟩, ⟨by (with_reducible repeat (first | refine blk_drewN ?_ _ | refine blk_drew ?_ | refine blk_alloc ?_ _)); refine blk_put (cs := #[.int .i64 x302000_1]) ?_ 0 _ rfl; (with_reducible repeat (first | refine blk_drewN ?_ _ | refine blk_drew ?_ | refine blk_alloc ?_ _)); refine blk_far ?_ NB301_300.out _; (with_reducible repeat (first | refine blk_drewN ?_ _ | refine blk_drew ?_ | refine blk_alloc ?_ _)); exact BK301.out⟩, ⟨by repeat (first | (with_reducible first | exact HB.out | apply below_alloc | apply pw_below_drewN | apply below_drew1 | refine below_set ?_ GE299.out | refine below_set ?_ GE300.out | refine below_set ?_ GE301.out | refine below_set ?_ GE303.out | refine below_set ?_ GE305.out) | exact HB.out)⟩⟩
                      · rw [if_neg c75] at H
                        have c75b0 : ((rd l0 x17_1) == 1584) = false := beq_eq_false_iff_ne.mpr c75
                        have c75b1 : ((rd l0 x17_1) != 1584) = true := bne_iff_ne.mpr c75
                        by_cases c105 : (rd l0 x17_1) = 1585
                        · rw [if_pos c105] at H
                          have c105b0 : ((rd l0 x17_1) == 1585) = true := beq_iff_eq.mpr c105
                          have c105b1 : ((rd l0 x17_1) != 1585) = false := bne_eq_false_iff_eq.mpr c105
                          clear c105
                          by_cases c106 : t304 = 9
                          · rw [if_pos c106] at H
                            have c106b0 : (t304 == 9) = true := beq_iff_eq.mpr c106
                            have c106b1 : (t304 != 9) = false := bne_eq_false_iff_eq.mpr c106
                            clear c106
                            have H' := Aside0.mk H
                            clear H
                            have hnb107 := NB305_299.out
                            have hnc107 := NB299_305.out
                            have hnb108 := NB305_300.out
                            have hnc108 := NB300_305.out
                            have hnb109 := NB305_301.out
                            have hnc109 := NB301_305.out
                            have hnb110 := NB305_303.out
                            have hnc110 := NB303_305.out
                            have hcz111_0 : wc.cell? ⟨gb305, 0, none⟩ = some (.int .i64 t304) := (blk_cell BK305.out 0).trans rfl
                            have hfz111_0 := blk_frozen BK305.out 0
                            have hnb112 := NB303_299.out
                            have hnc112 := NB299_303.out
                            have hnb113 := NB303_300.out
                            have hnc113 := NB300_303.out
                            have hnb114 := NB303_301.out
                            have hnc114 := NB301_303.out
                            have hcz115_0 : wc.cell? ⟨gb303, 0, none⟩ = some (.int .i64 (rd l0 x17_1)) := (blk_cell BK303.out 0).trans rfl
                            have hfz115_0 := blk_frozen BK303.out 0
                            have hnb116 := NB300_299.out
                            have hnc116 := NB299_300.out
                            have hnb117 := NB300_301.out
                            have hnc117 := NB301_300.out
                            have hcz118_0 : wc.cell? ⟨gb300, 0, none⟩ = some (.bool x301000_1) := (blk_cell BK300.out 0).trans rfl
                            have hfz118_0 := blk_frozen BK300.out 0
                            have hnb119 := NB301_299.out
                            have hnc119 := NB299_301.out
                            have hcz120_0 : wc.cell? ⟨gb301, 0, none⟩ = some (.int .i64 x302000_1) := (blk_cell BK301.out 0).trans rfl
                            have hfz120_0 := blk_frozen BK301.out 0
                            go_wp2
                            go_roundg kj18
                            case measure => have := HK1.out; have := HJ18.out; omega
                            case rel => exact ⟨(x3_18), (wrap64 (x17_1 + 1)), (x300000_1), (x301000_1), (wrap64 (x302000_1 + 1)), (by first | rfl | (simp; done) | (simp [*]; done)), H', ⟨by have := HK1.out; have := HJ18.out; omega⟩, ⟨by (with_reducible repeat (first | apply Kd.R_alloc | apply Kd.R_drewN | apply Kd.R_drew)); exact Kd.R_mono (Kd.R_far (p := ⟨gb301, 0, none⟩) (Kd.R_far (p := ⟨gb300, 0, none⟩) (Kd.R_types (Kd.R_mono HO_3.out (fun k_ hk => (⟨hk, hk.2⟩ : _ ∧ k_ ≠ gb300))) BK301.out (by decide)) (fun _ hk => hk.1.2) (.bool x301000_1)) (fun _ hk => hk.2) (.int .i64 (wrap64 (x302000_1 + 1)))) (fun _ hk => ⟨hk.1.1.1, hk.1.1.2⟩)⟩, ⟨by (with_reducible repeat (first | refine blk_drewN ?_ _ | refine blk_drew ?_ | refine blk_alloc ?_ _)); refine blk_far ?_ NB299_301.out _; (with_reducible repeat (first | refine blk_drewN ?_ _ | refine blk_drew ?_ | refine blk_alloc ?_ _)); refine blk_far ?_ NB299_300.out _; (with_reducible repeat (first | refine blk_drewN ?_ _ | refine blk_drew ?_ | refine blk_alloc ?_ _)); exact BK299.out⟩, ⟨by (with_reducible repeat (first | refine blk_drewN ?_ _ | refine blk_drew ?_ | refine blk_alloc ?_ _)); refine blk_far ?_ NB300_301.out _; (with_reducible repeat (first | refine blk_drewN ?_ _ | refine blk_drew ?_ | refine blk_alloc ?_ _)); refine blk_put (cs := #[.bool x301000_1]) ?_ 0 _ rfl; (with_reducible repeat (first | refine blk_drewN ?_ _ | refine blk_drew ?_ | refine blk_alloc ?_ _)); exact BK300.out⟩, ⟨by (with_reducible repeat (first | refine blk_drewN ?_ _ | refine blk_drew ?_ | refine blk_alloc ?_ _)); refine blk_put (cs := #[.int .i64 x302000_1]) ?_ 0 _ rfl; (with_reducible repeat (first | refine blk_drewN ?_ _ | refine blk_drew ?_ | refine blk_alloc ?_ _)); refine blk_far ?_ NB301_300.out _; (with_reducible repeat (first | refine blk_drewN ?_ _ | refine blk_drew ?_ | refine blk_alloc ?_ _)); exact BK301.out⟩, ⟨by repeat (first | (with_reducible first | exact HB.out | apply below_alloc | apply pw_below_drewN | apply below_drew1 | refine below_set ?_ GE299.out | refine below_set ?_ GE300.out | refine below_set ?_ GE301.out | refine below_set ?_ GE303.out | refine below_set ?_ GE305.out) | exact HB.out)⟩⟩
                          · rw [if_neg c106] at H
                            have c106b0 : (t304 == 9) = false := beq_eq_false_iff_ne.mpr c106
                            have c106b1 : (t304 != 9) = true := bne_iff_ne.mpr c106
                            have H' := Aside0.mk H
                            clear H
                            have hnb121 := NB305_299.out
                            have hnc121 := NB299_305.out
                            have hnb122 := NB305_300.out
                            have hnc122 := NB300_305.out
                            have hnb123 := NB305_301.out
                            have hnc123 := NB301_305.out
                            have hnb124 := NB305_303.out
                            have hnc124 := NB303_305.out
                            have hcz125_0 : wc.cell? ⟨gb305, 0, none⟩ = some (.int .i64 t304) := (blk_cell BK305.out 0).trans rfl
                            have hfz125_0 := blk_frozen BK305.out 0
                            have hnb126 := NB303_299.out
                            have hnc126 := NB299_303.out
                            have hnb127 := NB303_300.out
                            have hnc127 := NB300_303.out
                            have hnb128 := NB303_301.out
                            have hnc128 := NB301_303.out
                            have hcz129_0 : wc.cell? ⟨gb303, 0, none⟩ = some (.int .i64 (rd l0 x17_1)) := (blk_cell BK303.out 0).trans rfl
                            have hfz129_0 := blk_frozen BK303.out 0
                            have hnb130 := NB300_299.out
                            have hnc130 := NB299_300.out
                            have hnb131 := NB300_301.out
                            have hnc131 := NB301_300.out
                            have hcz132_0 : wc.cell? ⟨gb300, 0, none⟩ = some (.bool x301000_1) := (blk_cell BK300.out 0).trans rfl
                            have hfz132_0 := blk_frozen BK300.out 0
                            have hnb133 := NB301_299.out
                            have hnc133 := NB299_301.out
                            have hcz134_0 : wc.cell? ⟨gb301, 0, none⟩ = some (.int .i64 x302000_1) := (blk_cell BK301.out 0).trans rfl
                            have hfz134_0 := blk_frozen BK301.out 0
                            go_wp2
                            go_roundg kj18
                            case measure => have := HK1.out; have := HJ18.out; omega
                            case rel => exact ⟨(x3_18), (wrap64 (x17_1 + 1)), (x300000_1), (x301000_1), (0), (by first | rfl | (simp; done) | (simp [*]; done)), H', ⟨by have := HK1.out; have := HJ18.out; omega⟩, ⟨by (with_reducible repeat (first | apply Kd.R_alloc | apply Kd.R_drewN | apply Kd.R_drew)); exact Kd.R_mono (Kd.R_far (p := ⟨gb301, 0, none⟩) (Kd.R_far (p := ⟨gb300, 0, none⟩) (Kd.R_types (Kd.R_mono HO_3.out (fun k_ hk => (⟨hk, hk.2⟩ : _ ∧ k_ ≠ gb300))) BK301.out (by decide)) (fun _ hk => hk.1.2) (.bool x301000_1)) (fun _ hk => hk.2) (.int .i64 0)) (fun _ hk => ⟨hk.1.1.1, hk.1.1.2⟩)⟩, ⟨by (with_reducible repeat (first | refine blk_drewN ?_ _ | refine blk_drew ?_ | refine blk_alloc ?_ _)); refine blk_far ?_ NB299_301.out _; (with_reducible repeat (first | refine blk_drewN ?_ _ | refine blk_drew ?_ | refine blk_alloc ?_ _)); refine blk_far ?_ NB299_300.out _; (with_reducible repeat (first | refine blk_drewN ?_ _ | refine blk_drew ?_ | refine blk_alloc ?_ _)); exact BK299.out⟩, ⟨by (with_reducible repeat (first | refine blk_drewN ?_ _ | refine blk_drew ?_ | refine blk_alloc ?_ _)); refine blk_far ?_ NB300_301.out _; (with_reducible repeat (first | refine blk_drewN ?_ _ | refine blk_drew ?_ | refine blk_alloc ?_ _)); refine blk_put (cs := #[.bool x301000_1]) ?_ 0 _ rfl; (with_reducible repeat (first | refine blk_drewN ?_ _ | refine blk_drew ?_ | refine blk_alloc ?_ _)); exact BK300.out⟩, ⟨by (with_reducible repeat (first | refine blk_drewN ?_ _ | refine blk_drew ?_ | refine blk_alloc ?_ _)); refine blk_put (cs := #[.int .i64 x302000_1]) ?_ 0 _ rfl; (with_reducible repeat (first | refine blk_drewN ?_ _ | refine blk_drew ?_ | refine blk_alloc ?_ _)); refine blk_far ?_ NB301_300.out _; (with_reducible repeat (first | refine blk_drewN ?_ _ | refine blk_drew ?_ | refine blk_alloc ?_ _)); exact BK301.out⟩, ⟨by repeat (first | (with_reducible first | exact HB.out | apply below_alloc | apply pw_below_drewN | apply below_drew1 | refine below_set ?_ GE299.out | refine below_set ?_ GE300.out | refine below_set ?_ GE301.out | refine below_set ?_ GE303.out | refine below_set ?_ GE305.out) | exact HB.out)⟩⟩
                        · rw [if_neg c105] at H
                          have c105b0 : ((rd l0 x17_1) == 1585) = false := beq_eq_false_iff_ne.mpr c105
                          have c105b1 : ((rd l0 x17_1) != 1585) = true := bne_iff_ne.mpr c105
                          by_cases c135 : t304 = 9
                          · rw [if_pos c135] at H
                            have c135b0 : (t304 == 9) = true := beq_iff_eq.mpr c135
                            have c135b1 : (t304 != 9) = false := bne_eq_false_iff_eq.mpr c135
                            clear c135
                            have H' := Aside0.mk H
                            clear H
                            have hnb136 := NB305_299.out
                            have hnc136 := NB299_305.out
                            have hnb137 := NB305_300.out
                            have hnc137 := NB300_305.out
                            have hnb138 := NB305_301.out
                            have hnc138 := NB301_305.out
                            have hnb139 := NB305_303.out
                            have hnc139 := NB303_305.out
                            have hcz140_0 : wc.cell? ⟨gb305, 0, none⟩ = some (.int .i64 t304) := (blk_cell BK305.out 0).trans rfl
                            have hfz140_0 := blk_frozen BK305.out 0
                            have hnb141 := NB303_299.out
                            have hnc141 := NB299_303.out
                            have hnb142 := NB303_300.out
                            have hnc142 := NB300_303.out
                            have hnb143 := NB303_301.out
                            have hnc143 := NB301_303.out
                            have hcz144_0 : wc.cell? ⟨gb303, 0, none⟩ = some (.int .i64 (rd l0 x17_1)) := (blk_cell BK303.out 0).trans rfl
                            have hfz144_0 := blk_frozen BK303.out 0
                            have hnb145 := NB300_299.out
                            have hnc145 := NB299_300.out
                            have hnb146 := NB300_301.out
                            have hnc146 := NB301_300.out
                            have hcz147_0 : wc.cell? ⟨gb300, 0, none⟩ = some (.bool x301000_1) := (blk_cell BK300.out 0).trans rfl
                            have hfz147_0 := blk_frozen BK300.out 0
                            have hnb148 := NB301_299.out
                            have hnc148 := NB299_301.out
                            have hcz149_0 : wc.cell? ⟨gb301, 0, none⟩ = some (.int .i64 x302000_1) := (blk_cell BK301.out 0).trans rfl
                            have hfz149_0 := blk_frozen BK301.out 0
                            go_wp2
                            go_roundg kj18
                            case measure => have := HK1.out; have := HJ18.out; omega
                            case rel => exact ⟨(x3_18), (wrap64 (x17_1 + 1)), (x300000_1), (false), (wrap64 (x302000_1 + 1)), (by first | rfl | (simp; done) | (simp [*]; done)), H', ⟨by have := HK1.out; have := HJ18.out; omega⟩, ⟨by (with_reducible repeat (first | apply Kd.R_alloc | apply Kd.R_drewN | apply Kd.R_drew)); exact Kd.R_mono (Kd.R_far (p := ⟨gb301, 0, none⟩) (Kd.R_far (p := ⟨gb300, 0, none⟩) (Kd.R_types (Kd.R_mono HO_3.out (fun k_ hk => (⟨hk, hk.2⟩ : _ ∧ k_ ≠ gb300))) BK301.out (by decide)) (fun _ hk => hk.1.2) (.bool false)) (fun _ hk => hk.2) (.int .i64 (wrap64 (x302000_1 + 1)))) (fun _ hk => ⟨hk.1.1.1, hk.1.1.2⟩)⟩, ⟨by (with_reducible repeat (first | refine blk_drewN ?_ _ | refine blk_drew ?_ | refine blk_alloc ?_ _)); refine blk_far ?_ NB299_301.out _; (with_reducible repeat (first | refine blk_drewN ?_ _ | refine blk_drew ?_ | refine blk_alloc ?_ _)); refine blk_far ?_ NB299_300.out _; (with_reducible repeat (first | refine blk_drewN ?_ _ | refine blk_drew ?_ | refine blk_alloc ?_ _)); exact BK299.out⟩, ⟨by (with_reducible repeat (first | refine blk_drewN ?_ _ | refine blk_drew ?_ | refine blk_alloc ?_ _)); refine blk_far ?_ NB300_301.out _; (with_reducible repeat (first | refine blk_drewN ?_ _ | refine blk_drew ?_ | refine blk_alloc ?_ _)); refine blk_put (cs := #[.bool x301000_1]) ?_ 0 _ rfl; (with_reducible repeat (first | refine blk_drewN ?_ _ | refine blk_drew ?_ | refine blk_alloc ?_ _)); exact BK300.out⟩, ⟨by (with_reducible repeat (first | refine blk_drewN ?_ _ | refine blk_drew ?_ | refine blk_alloc ?_ _)); refine blk_put (cs := #[.int .i64 x302000_1]) ?_ 0 _ rfl; (with_reducible repeat (first | refine blk_drewN ?_ _ | refine blk_drew ?_ | refine blk_alloc ?_ _)); refine blk_far ?_ NB301_300.out _; (with_reducible repeat (first | refine blk_drewN ?_ _ | refine blk_drew ?_ | refine blk_alloc ?_ _)); exact BK301.out⟩, ⟨by repeat (first | (with_reducible first | exact HB.out | apply below_alloc | apply pw_below_drewN | apply below_drew1 | refine below_set ?_ GE299.out | refine below_set ?_ GE300.out | refine below_set ?_ GE301.out | refine below_set ?_ GE303.out | refine below_set ?_ GE305.out) | exact HB.out)⟩⟩
                          · rw [if_neg c135] at H
                            have c135b0 : (t304 == 9) = false := beq_eq_false_iff_ne.mpr c135
                            have c135b1 : (t304 != 9) = true := bne_iff_ne.mpr c135
                            have H' := Aside0.mk H
                            clear H
                            have hnb150 := NB305_299.out
                            have hnc150 := NB299_305.out
                            have hnb151 := NB305_300.out
                            have hnc151 := NB300_305.out
                            have hnb152 := NB305_301.out
                            have hnc152 := NB301_305.out
                            have hnb153 := NB305_303.out
                            have hnc153 := NB303_305.out
                            have hcz154_0 : wc.cell? ⟨gb305, 0, none⟩ = some (.int .i64 t304) := (blk_cell BK305.out 0).trans rfl
                            have hfz154_0 := blk_frozen BK305.out 0
                            have hnb155 := NB303_299.out
                            have hnc155 := NB299_303.out
                            have hnb156 := NB303_300.out
                            have hnc156 := NB300_303.out
                            have hnb157 := NB303_301.out
                            have hnc157 := NB301_303.out
                            have hcz158_0 : wc.cell? ⟨gb303, 0, none⟩ = some (.int .i64 (rd l0 x17_1)) := (blk_cell BK303.out 0).trans rfl
                            have hfz158_0 := blk_frozen BK303.out 0
                            have hnb159 := NB300_299.out
                            have hnc159 := NB299_300.out
                            have hnb160 := NB300_301.out
                            have hnc160 := NB301_300.out
                            have hcz161_0 : wc.cell? ⟨gb300, 0, none⟩ = some (.bool x301000_1) := (blk_cell BK300.out 0).trans rfl
                            have hfz161_0 := blk_frozen BK300.out 0
                            have hnb162 := NB301_299.out
                            have hnc162 := NB299_301.out
                            have hcz163_0 : wc.cell? ⟨gb301, 0, none⟩ = some (.int .i64 x302000_1) := (blk_cell BK301.out 0).trans rfl
                            have hfz163_0 := blk_frozen BK301.out 0
                            go_wp2
                            go_roundg kj18
                            case measure => have := HK1.out; have := HJ18.out; omega
                            case rel => exact ⟨(x3_18), (wrap64 (x17_1 + 1)), (x300000_1), (false), (0), (by first | rfl | (simp; done) | (simp [*]; done)), H', ⟨by have := HK1.out; have := HJ18.out; omega⟩, ⟨by (with_reducible repeat (first | apply Kd.R_alloc | apply Kd.R_drewN | apply Kd.R_drew)); exact Kd.R_mono (Kd.R_far (p := ⟨gb301, 0, none⟩) (Kd.R_far (p := ⟨gb300, 0, none⟩) (Kd.R_types (Kd.R_mono HO_3.out (fun k_ hk => (⟨hk, hk.2⟩ : _ ∧ k_ ≠ gb300))) BK301.out (by decide)) (fun _ hk => hk.1.2) (.bool false)) (fun _ hk => hk.2) (.int .i64 0)) (fun _ hk => ⟨hk.1.1.1, hk.1.1.2⟩)⟩, ⟨by (with_reducible repeat (first | refine blk_drewN ?_ _ | refine blk_drew ?_ | refine blk_alloc ?_ _)); refine blk_far ?_ NB299_301.out _; (with_reducible repeat (first | refine blk_drewN ?_ _ | refine blk_drew ?_ | refine blk_alloc ?_ _)); refine blk_far ?_ NB299_300.out _; (with_reducible repeat (first | refine blk_drewN ?_ _ | refine blk_drew ?_ | refine blk_alloc ?_ _)); exact BK299.out⟩, ⟨by (with_reducible repeat (first | refine blk_drewN ?_ _ | refine blk_drew ?_ | refine blk_alloc ?_ _)); refine blk_far ?_ NB300_301.out _; (with_reducible repeat (first | refine blk_drewN ?_ _ | refine blk_drew ?_ | refine blk_alloc ?_ _)); refine blk_put (cs := #[.bool x301000_1]) ?_ 0 _ rfl; (with_reducible repeat (first | refine blk_drewN ?_ _ | refine blk_drew ?_ | refine blk_alloc ?_ _)); exact BK300.out⟩, ⟨by (with_reducible repeat (first | refine blk_drewN ?_ _ | refine blk_drew ?_ | refine blk_alloc ?_ _)); refine blk_put (cs := #[.int .i64 x302000_1]) ?_ 0 _ rfl; (with_reducible repeat (first | refine blk_drewN ?_ _ | refine blk_drew ?_ | refine blk_alloc ?_ _)); refine blk_far ?_ NB301_300.out _; (with_reducible repeat (first | refine blk_drewN ?_ _ | refine blk_drew ?_ | refine blk_alloc ?_ _)); exact BK301.out⟩, ⟨by repeat (first | (with_reducible first | exact HB.out | apply below_alloc | apply pw_below_drewN | apply below_drew1 | refine below_set ?_ GE299.out | refine below_set ?_ GE300.out | refine below_set ?_ GE301.out | refine below_set ?_ GE303.out | refine below_set ?_ GE305.out) | exact HB.out)⟩⟩
                    · rw [if_neg c74] at H
                      have c74b0 : (t304 == 2) = false := beq_eq_false_iff_ne.mpr c74
                      have c74b1 : (t304 != 2) = true := bne_iff_ne.mpr c74
                      by_cases c164 : (rd l0 x17_1) = 1584
                      · rw [if_pos c164] at H
                        have c164b0 : ((rd l0 x17_1) == 1584) = true := beq_iff_eq.mpr c164
                        have c164b1 : ((rd l0 x17_1) != 1584) = false := bne_eq_false_iff_eq.mpr c164
                        clear c164
                        by_cases c165 : t304 = 9
                        · rw [if_pos c165] at H
                          have c165b0 : (t304 == 9) = true := beq_iff_eq.mpr c165
                          have c165b1 : (t304 != 9) = false := bne_eq_false_iff_eq.mpr c165
                          clear c165
                          have H' := Aside0.mk H
                          clear H
                          have hnb166 := NB305_299.out
                          have hnc166 := NB299_305.out
                          have hnb167 := NB305_300.out
                          have hnc167 := NB300_305.out
                          have hnb168 := NB305_301.out
                          have hnc168 := NB301_305.out
                          have hnb169 := NB305_303.out
                          have hnc169 := NB303_305.out
                          have hcz170_0 : wc.cell? ⟨gb305, 0, none⟩ = some (.int .i64 t304) := (blk_cell BK305.out 0).trans rfl
                          have hfz170_0 := blk_frozen BK305.out 0
                          have hnb171 := NB299_300.out
                          have hnc171 := NB300_299.out
                          have hnb172 := NB299_301.out
                          have hnc172 := NB301_299.out
                          have hnb173 := NB299_303.out
                          have hnc173 := NB303_299.out
                          have hcz174_0 : wc.cell? ⟨gb299, 0, none⟩ = some (.bool x300000_1) := (blk_cell BK299.out 0).trans rfl
                          have hfz174_0 := blk_frozen BK299.out 0
                          have hnb175 := NB303_300.out
                          have hnc175 := NB300_303.out
                          have hnb176 := NB303_301.out
                          have hnc176 := NB301_303.out
                          have hcz177_0 : wc.cell? ⟨gb303, 0, none⟩ = some (.int .i64 (rd l0 x17_1)) := (blk_cell BK303.out 0).trans rfl
                          have hfz177_0 := blk_frozen BK303.out 0
                          have hnb178 := NB300_301.out
                          have hnc178 := NB301_300.out
                          have hcz179_0 : wc.cell? ⟨gb300, 0, none⟩ = some (.bool x301000_1) := (blk_cell BK300.out 0).trans rfl
                          have hfz179_0 := blk_frozen BK300.out 0
                          have hcz180_0 : wc.cell? ⟨gb301, 0, none⟩ = some (.int .i64 x302000_1) := (blk_cell BK301.out 0).trans rfl
                          have hfz180_0 := blk_frozen BK301.out 0
                          go_wp2
                          go_roundg kj18
                          case measure => have := HK1.out; have := HJ18.out; omega
                          case rel => exact ⟨(x3_18), (wrap64 (x17_1 + 1)), ((t304 == 8)), (true), (wrap64 (x302000_1 + 1)), (by first | rfl | (simp; done) | (simp [*]; done)), H', ⟨by have := HK1.out; have := HJ18.out; omega⟩, ⟨by (with_reducible repeat (first | apply Kd.R_alloc | apply Kd.R_drewN | apply Kd.R_drew)); exact Kd.R_mono (Kd.R_far (p := ⟨gb301, 0, none⟩) (Kd.R_far (p := ⟨gb300, 0, none⟩) (Kd.R_far (p := ⟨gb299, 0, none⟩) (Kd.R_types (Kd.R_mono (Kd.R_mono HO_3.out (fun k_ hk => (⟨hk, hk.1⟩ : _ ∧ k_ ≠ gb299))) (fun k_ hk => (⟨hk, hk.1.2⟩ : _ ∧ k_ ≠ gb300))) BK301.out (by decide)) (fun _ hk => hk.1.1.2) (.bool (t304 == 8))) (fun _ hk => hk.1.2) (.bool true)) (fun _ hk => hk.2) (.int .i64 (wrap64 (x302000_1 + 1)))) (fun _ hk => ⟨hk.1.1.1.1, hk.1.1.1.2⟩)⟩, ⟨by (with_reducible repeat (first | refine blk_drewN ?_ _ | refine blk_drew ?_ | refine blk_alloc ?_ _)); refine blk_far ?_ NB299_301.out _; (with_reducible repeat (first | refine blk_drewN ?_ _ | refine blk_drew ?_ | refine blk_alloc ?_ _)); refine blk_far ?_ NB299_300.out _; (with_reducible repeat (first | refine blk_drewN ?_ _ | refine blk_drew ?_ | refine blk_alloc ?_ _)); refine blk_put (cs := #[.bool x300000_1]) ?_ 0 _ rfl; (with_reducible repeat (first | refine blk_drewN ?_ _ | refine blk_drew ?_ | refine blk_alloc ?_ _)); exact BK299.out⟩, ⟨by (with_reducible repeat (first | refine blk_drewN ?_ _ | refine blk_drew ?_ | refine blk_alloc ?_ _)); refine blk_far ?_ NB300_301.out _; (with_reducible repeat (first | refine blk_drewN ?_ _ | refine blk_drew ?_ | refine blk_alloc ?_ _)); refine blk_put (cs := #[.bool x301000_1]) ?_ 0 _ rfl; (with_reducible repeat (first | refine blk_drewN ?_ _ | refine blk_drew ?_ | refine blk_alloc ?_ _)); refine blk_far ?_ NB300_299.out _; (with_reducible repeat (first | refine blk_drewN ?_ _ | refine blk_drew ?_ | refine blk_alloc ?_ _)); exact BK300.out⟩, ⟨by (with_reducible repeat (first | refine blk_drewN ?_ _ | refine blk_drew ?_ | refine blk_alloc ?_ _)); refine blk_put (cs := #[.int .i64 x302000_1]) ?_ 0 _ rfl; (with_reducible repeat (first | refine blk_drewN ?_ _ | refine blk_drew ?_ | refine blk_alloc ?_ _)); refine blk_far ?_ NB301_300.out _; (with_reducible repeat (first | refine blk_drewN ?_ _ | refine blk_drew ?_ | refine blk_alloc ?_ _)); refine blk_far ?_ NB301_299.out _; (with_reducible repeat (first | refine blk_drewN ?_ _ | refine blk_drew ?_ | refine blk_alloc ?_ _)); exact BK301.out⟩, ⟨by repeat (first | (with_reducible first | exact HB.out | apply below_alloc | apply pw_below_drewN | apply below_drew1 | refine below_set ?_ GE299.out | refine below_set ?_ GE300.out | refine below_set ?_ GE301.out | refine below_set ?_ GE303.out | refine below_set ?_ GE305.out) | exact HB.out)⟩⟩
                        · rw [if_neg c165] at H
                          have c165b0 : (t304 == 9) = false := beq_eq_false_iff_ne.mpr c165
                          have c165b1 : (t304 != 9) = true := bne_iff_ne.mpr c165
                          have H' := Aside0.mk H
                          clear H
                          have hnb181 := NB305_299.out
                          have hnc181 := NB299_305.out
                          have hnb182 := NB305_300.out
                          have hnc182 := NB300_305.out
                          have hnb183 := NB305_301.out
                          have hnc183 := NB301_305.out
                          have hnb184 := NB305_303.out
                          have hnc184 := NB303_305.out
                          have hcz185_0 : wc.cell? ⟨gb305, 0, none⟩ = some (.int .i64 t304) := (blk_cell BK305.out 0).trans rfl
                          have hfz185_0 := blk_frozen BK305.out 0
                          have hnb186 := NB299_300.out
                          have hnc186 := NB300_299.out
                          have hnb187 := NB299_301.out
                          have hnc187 := NB301_299.out
                          have hnb188 := NB299_303.out
                          have hnc188 := NB303_299.out
                          have hcz189_0 : wc.cell? ⟨gb299, 0, none⟩ = some (.bool x300000_1) := (blk_cell BK299.out 0).trans rfl
                          have hfz189_0 := blk_frozen BK299.out 0
                          have hnb190 := NB303_300.out
                          have hnc190 := NB300_303.out
                          have hnb191 := NB303_301.out
                          have hnc191 := NB301_303.out
                          have hcz192_0 : wc.cell? ⟨gb303, 0, none⟩ = some (.int .i64 (rd l0 x17_1)) := (blk_cell BK303.out 0).trans rfl
                          have hfz192_0 := blk_frozen BK303.out 0
                          have hnb193 := NB300_301.out
                          have hnc193 := NB301_300.out
                          have hcz194_0 : wc.cell? ⟨gb300, 0, none⟩ = some (.bool x301000_1) := (blk_cell BK300.out 0).trans rfl
                          have hfz194_0 := blk_frozen BK300.out 0
                          have hcz195_0 : wc.cell? ⟨gb301, 0, none⟩ = some (.int .i64 x302000_1) := (blk_cell BK301.out 0).trans rfl
                          have hfz195_0 := blk_frozen BK301.out 0
                          go_wp2
                          go_roundg kj18
                          case measure => have := HK1.out; have := HJ18.out; omega
                          case rel => exact ⟨(x3_18), (wrap64 (x17_1 + 1)), ((t304 == 8)), (true), (0), (by first | rfl | (simp; done) | (simp [*]; done)), H', ⟨by have := HK1.out; have := HJ18.out; omega⟩, ⟨by (with_reducible repeat (first | apply Kd.R_alloc | apply Kd.R_drewN | apply Kd.R_drew)); exact Kd.R_mono (Kd.R_far (p := ⟨gb301, 0, none⟩) (Kd.R_far (p := ⟨gb300, 0, none⟩) (Kd.R_far (p := ⟨gb299, 0, none⟩) (Kd.R_types (Kd.R_mono (Kd.R_mono HO_3.out (fun k_ hk => (⟨hk, hk.1⟩ : _ ∧ k_ ≠ gb299))) (fun k_ hk => (⟨hk, hk.1.2⟩ : _ ∧ k_ ≠ gb300))) BK301.out (by decide)) (fun _ hk => hk.1.1.2) (.bool (t304 == 8))) (fun _ hk => hk.1.2) (.bool true)) (fun _ hk => hk.2) (.int .i64 0)) (fun _ hk => ⟨hk.1.1.1.1, hk.1.1.1.2⟩)⟩, ⟨by (with_reducible repeat (first | refine blk_drewN ?_ _ | refine blk_drew ?_ | refine blk_alloc ?_ _)); refine blk_far ?_ NB299_301.out _; (with_reducible repeat (first | refine blk_drewN ?_ _ | refine blk_drew ?_ | refine blk_alloc ?_ _)); refine blk_far ?_ NB299_300.out _; (with_reducible repeat (first | refine blk_drewN ?_ _ | refine blk_drew ?_ | refine blk_alloc ?_ _)); refine blk_put (cs := #[.bool x300000_1]) ?_ 0 _ rfl; (with_reducible repeat (first | refine blk_drewN ?_ _ | refine blk_drew ?_ | refine blk_alloc ?_ _)); exact BK299.out⟩, ⟨by (with_reducible repeat (first | refine blk_drewN ?_ _ | refine blk_drew ?_ | refine blk_alloc ?_ _)); refine blk_far ?_ NB300_301.out _; (with_reducible repeat (first | refine blk_drewN ?_ _ | refine blk_drew ?_ | refine blk_alloc ?_ _)); refine blk_put (cs := #[.bool x301000_1]) ?_ 0 _ rfl; (with_reducible repeat (first | refine blk_drewN ?_ _ | refine blk_drew ?_ | refine blk_alloc ?_ _)); refine blk_far ?_ NB300_299.out _; (with_reducible repeat (first | refine blk_drewN ?_ _ | refine blk_drew ?_ | refine blk_alloc ?_ _)); exact BK300.out⟩, ⟨by (with_reducible repeat (first | refine blk_drewN ?_ _ | refine blk_drew ?_ | refine blk_alloc ?_ _)); refine blk_put (cs := #[.int .i64 x302000_1]) ?_ 0 _ rfl; (with_reducible repeat (first | refine blk_drewN ?_ _ | refine blk_drew ?_ | refine blk_alloc ?_ _)); refine blk_far ?_ NB301_300.out _; (with_reducible repeat (first | refine blk_drewN ?_ _ | refine blk_drew ?_ | refine blk_alloc ?_ _)); refine blk_far ?_ NB301_299.out _; (with_reducible repeat (first | refine blk_drewN ?_ _ | refine blk_drew ?_ | refine blk_alloc ?_ _)); exact BK301.out⟩, ⟨by repeat (first | (with_reducible first | exact HB.out | apply below_alloc | apply pw_below_drewN | apply below_drew1 | refine below_set ?_ GE299.out | refine below_set ?_ GE300.out | refine below_set ?_ GE301.out | refine below_set ?_ GE303.out | refine below_set ?_ GE305.out) | exact HB.out)⟩⟩
                      · rw [if_neg c164] at H
                        have c164b0 : ((rd l0 x17_1) == 1584) = false := beq_eq_false_iff_ne.mpr c164
                        have c164b1 : ((rd l0 x17_1) != 1584) = true := bne_iff_ne.mpr c164
                        by_cases c196 : (rd l0 x17_1) = 1585
                        · rw [if_pos c196] at H
                          have c196b0 : ((rd l0 x17_1) == 1585) = true := beq_iff_eq.mpr c196
                          have c196b1 : ((rd l0 x17_1) != 1585) = false := bne_eq_false_iff_eq.mpr c196
                          clear c196
                          by_cases c197 : t304 = 9
                          · rw [if_pos c197] at H
                            have c197b0 : (t304 == 9) = true := beq_iff_eq.mpr c197
                            have c197b1 : (t304 != 9) = false := bne_eq_false_iff_eq.mpr c197
                            clear c197
                            have H' := Aside0.mk H
                            clear H
                            have hnb198 := NB305_299.out
                            have hnc198 := NB299_305.out
                            have hnb199 := NB305_300.out
                            have hnc199 := NB300_305.out
                            have hnb200 := NB305_301.out
                            have hnc200 := NB301_305.out
                            have hnb201 := NB305_303.out
                            have hnc201 := NB303_305.out
                            have hcz202_0 : wc.cell? ⟨gb305, 0, none⟩ = some (.int .i64 t304) := (blk_cell BK305.out 0).trans rfl
                            have hfz202_0 := blk_frozen BK305.out 0
                            have hnb203 := NB299_300.out
                            have hnc203 := NB300_299.out
                            have hnb204 := NB299_301.out
                            have hnc204 := NB301_299.out
                            have hnb205 := NB299_303.out
                            have hnc205 := NB303_299.out
                            have hcz206_0 : wc.cell? ⟨gb299, 0, none⟩ = some (.bool x300000_1) := (blk_cell BK299.out 0).trans rfl
                            have hfz206_0 := blk_frozen BK299.out 0
                            have hnb207 := NB303_300.out
                            have hnc207 := NB300_303.out
                            have hnb208 := NB303_301.out
                            have hnc208 := NB301_303.out
                            have hcz209_0 : wc.cell? ⟨gb303, 0, none⟩ = some (.int .i64 (rd l0 x17_1)) := (blk_cell BK303.out 0).trans rfl
                            have hfz209_0 := blk_frozen BK303.out 0
                            have hnb210 := NB300_301.out
                            have hnc210 := NB301_300.out
                            have hcz211_0 : wc.cell? ⟨gb300, 0, none⟩ = some (.bool x301000_1) := (blk_cell BK300.out 0).trans rfl
                            have hfz211_0 := blk_frozen BK300.out 0
                            have hcz212_0 : wc.cell? ⟨gb301, 0, none⟩ = some (.int .i64 x302000_1) := (blk_cell BK301.out 0).trans rfl
                            have hfz212_0 := blk_frozen BK301.out 0
                            go_wp2
                            go_roundg kj18
                            case measure => have := HK1.out; have := HJ18.out; omega
                            case rel => exact ⟨(x3_18), (wrap64 (x17_1 + 1)), ((t304 == 8)), (x301000_1), (wrap64 (x302000_1 + 1)), (by first | rfl | (simp; done) | (simp [*]; done)), H', ⟨by have := HK1.out; have := HJ18.out; omega⟩, ⟨by (with_reducible repeat (first | apply Kd.R_alloc | apply Kd.R_drewN | apply Kd.R_drew)); exact Kd.R_mono (Kd.R_far (p := ⟨gb301, 0, none⟩) (Kd.R_far (p := ⟨gb300, 0, none⟩) (Kd.R_far (p := ⟨gb299, 0, none⟩) (Kd.R_types (Kd.R_mono (Kd.R_mono HO_3.out (fun k_ hk => (⟨hk, hk.1⟩ : _ ∧ k_ ≠ gb299))) (fun k_ hk => (⟨hk, hk.1.2⟩ : _ ∧ k_ ≠ gb300))) BK301.out (by decide)) (fun _ hk => hk.1.1.2) (.bool (t304 == 8))) (fun _ hk => hk.1.2) (.bool x301000_1)) (fun _ hk => hk.2) (.int .i64 (wrap64 (x302000_1 + 1)))) (fun _ hk => ⟨hk.1.1.1.1, hk.1.1.1.2⟩)⟩, ⟨by (with_reducible repeat (first | refine blk_drewN ?_ _ | refine blk_drew ?_ | refine blk_alloc ?_ _)); refine blk_far ?_ NB299_301.out _; (with_reducible repeat (first | refine blk_drewN ?_ _ | refine blk_drew ?_ | refine blk_alloc ?_ _)); refine blk_far ?_ NB299_300.out _; (with_reducible repeat (first | refine blk_drewN ?_ _ | refine blk_drew ?_ | refine blk_alloc ?_ _)); refine blk_put (cs := #[.bool x300000_1]) ?_ 0 _ rfl; (with_reducible repeat (first | refine blk_drewN ?_ _ | refine blk_drew ?_ | refine blk_alloc ?_ _)); exact BK299.out⟩, ⟨by (with_reducible repeat (first | refine blk_drewN ?_ _ | refine blk_drew ?_ | refine blk_alloc ?_ _)); refine blk_far ?_ NB300_301.out _; (with_reducible repeat (first | refine blk_drewN ?_ _ | refine blk_drew ?_ | refine blk_alloc ?_ _)); refine blk_put (cs := #[.bool x301000_1]) ?_ 0 _ rfl; (with_reducible repeat (first | refine blk_drewN ?_ _ | refine blk_drew ?_ | refine blk_alloc ?_ _)); refine blk_far ?_ NB300_299.out _; (with_reducible repeat (first | refine blk_drewN ?_ _ | refine blk_drew ?_ | refine blk_alloc ?_ _)); exact BK300.out⟩, ⟨by (with_reducible repeat (first | refine blk_drewN ?_ _ | refine blk_drew ?_ | refine blk_alloc ?_ _)); refine blk_put (cs := #[.int .i64 x302000_1]) ?_ 0 _ rfl; (with_reducible repeat (first | refine blk_drewN ?_ _ | refine blk_drew ?_ | refine blk_alloc ?_ _)); refine blk_far ?_ NB301_300.out _; (with_reducible repeat (first | refine blk_drewN ?_ _ | refine blk_drew ?_ | refine blk_alloc ?_ _)); refine blk_far ?_ NB301_299.out _; (with_reducible repeat (first | refine blk_drewN ?_ _ | refine blk_drew ?_ | refine blk_alloc ?_ _)); exact BK301.out⟩, ⟨by repeat (first | (with_reducible first | exact HB.out | apply below_alloc | apply pw_below_drewN | apply below_drew1 | refine below_set ?_ GE299.out | refine below_set ?_ GE300.out | refine below_set ?_ GE301.out | refine below_set ?_ GE303.out | refine below_set ?_ GE305.out) | exact HB.out)⟩⟩
                          · rw [if_neg c197] at H
                            have c197b0 : (t304 == 9) = false := beq_eq_false_iff_ne.mpr c197
                            have c197b1 : (t304 != 9) = true := bne_iff_ne.mpr c197
                            have H' := Aside0.mk H
                            clear H
                            have hnb213 := NB305_299.out
                            have hnc213 := NB299_305.out
                            have hnb214 := NB305_300.out
                            have hnc214 := NB300_305.out
                            have hnb215 := NB305_301.out
                            have hnc215 := NB301_305.out
                            have hnb216 := NB305_303.out
                            have hnc216 := NB303_305.out
                            have hcz217_0 : wc.cell? ⟨gb305, 0, none⟩ = some (.int .i64 t304) := (blk_cell BK305.out 0).trans rfl
                            have hfz217_0 := blk_frozen BK305.out 0
                            have hnb218 := NB299_300.out
                            have hnc218 := NB300_299.out
                            have hnb219 := NB299_301.out
                            have hnc219 := NB301_299.out
                            have hnb220 := NB299_303.out
                            have hnc220 := NB303_299.out
                            have hcz221_0 : wc.cell? ⟨gb299, 0, none⟩ = some (.bool x300000_1) := (blk_cell BK299.out 0).trans rfl
                            have hfz221_0 := blk_frozen BK299.out 0
                            have hnb222 := NB303_300.out
                            have hnc222 := NB300_303.out
                            have hnb223 := NB303_301.out
                            have hnc223 := NB301_303.out
                            have hcz224_0 : wc.cell? ⟨gb303, 0, none⟩ = some (.int .i64 (rd l0 x17_1)) := (blk_cell BK303.out 0).trans rfl
                            have hfz224_0 := blk_frozen BK303.out 0
                            have hnb225 := NB300_301.out
                            have hnc225 := NB301_300.out
                            have hcz226_0 : wc.cell? ⟨gb300, 0, none⟩ = some (.bool x301000_1) := (blk_cell BK300.out 0).trans rfl
                            have hfz226_0 := blk_frozen BK300.out 0
                            have hcz227_0 : wc.cell? ⟨gb301, 0, none⟩ = some (.int .i64 x302000_1) := (blk_cell BK301.out 0).trans rfl
                            have hfz227_0 := blk_frozen BK301.out 0
                            go_wp2
                            go_roundg kj18
                            case measure => have := HK1.out; have := HJ18.out; omega
                            case rel => exact ⟨(x3_18), (wrap64 (x17_1 + 1)), ((t304 == 8)), (x301000_1), (0), (by first | rfl | (simp; done) | (simp [*]; done)), H', ⟨by have := HK1.out; have := HJ18.out; omega⟩, ⟨by (with_reducible repeat (first | apply Kd.R_alloc | apply Kd.R_drewN | apply Kd.R_drew)); exact Kd.R_mono (Kd.R_far (p := ⟨gb301, 0, none⟩) (Kd.R_far (p := ⟨gb300, 0, none⟩) (Kd.R_far (p := ⟨gb299, 0, none⟩) (Kd.R_types (Kd.R_mono (Kd.R_mono HO_3.out (fun k_ hk => (⟨hk, hk.1⟩ : _ ∧ k_ ≠ gb299))) (fun k_ hk => (⟨hk, hk.1.2⟩ : _ ∧ k_ ≠ gb300))) BK301.out (by decide)) (fun _ hk => hk.1.1.2) (.bool (t304 == 8))) (fun _ hk => hk.1.2) (.bool x301000_1)) (fun _ hk => hk.2) (.int .i64 0)) (fun _ hk => ⟨hk.1.1.1.1, hk.1.1.1.2⟩)⟩, ⟨by (with_reducible repeat (first | refine blk_drewN ?_ _ | refine blk_drew ?_ | refine blk_alloc ?_ _)); refine blk_far ?_ NB299_301.out _; (with_reducible repeat (first | refine blk_drewN ?_ _ | refine blk_drew ?_ | refine blk_alloc ?_ _)); refine blk_far ?_ NB299_300.out _; (with_reducible repeat (first | refine blk_drewN ?_ _ | refine blk_drew ?_ | refine blk_alloc ?_ _)); refine blk_put (cs := #[.bool x300000_1]) ?_ 0 _ rfl; (with_reducible repeat (first | refine blk_drewN ?_ _ | refine blk_drew ?_ | refine blk_alloc ?_ _)); exact BK299.out⟩, ⟨by (with_reducible repeat (first | refine blk_drewN ?_ _ | refine blk_drew ?_ | refine blk_alloc ?_ _)); refine blk_far ?_ NB300_301.out _; (with_reducible repeat (first | refine blk_drewN ?_ _ | refine blk_drew ?_ | refine blk_alloc ?_ _)); refine blk_put (cs := #[.bool x301000_1]) ?_ 0 _ rfl; (with_reducible repeat (first | refine blk_drewN ?_ _ | refine blk_drew ?_ | refine blk_alloc ?_ _)); refine blk_far ?_ NB300_299.out _; (with_reducible repeat (first | refine blk_drewN ?_ _ | refine blk_drew ?_ | refine blk_alloc ?_ _)); exact BK300.out⟩, ⟨by (with_reducible repeat (first | refine blk_drewN ?_ _ | refine blk_drew ?_ | refine blk_alloc ?_ _)); refine blk_put (cs := #[.int .i64 x302000_1]) ?_ 0 _ rfl; (with_reducible repeat (first | refine blk_drewN ?_ _ | refine blk_drew ?_ | refine blk_alloc ?_ _)); refine blk_far ?_ NB301_300.out _; (with_reducible repeat (first | refine blk_drewN ?_ _ | refine blk_drew ?_ | refine blk_alloc ?_ _)); refine blk_far ?_ NB301_299.out _; (with_reducible repeat (first | refine blk_drewN ?_ _ | refine blk_drew ?_ | refine blk_alloc ?_ _)); exact BK301.out⟩, ⟨by repeat (first | (with_reducible first | exact HB.out | apply below_alloc | apply pw_below_drewN | apply below_drew1 | refine below_set ?_ GE299.out | refine below_set ?_ GE300.out | refine below_set ?_ GE301.out | refine below_set ?_ GE303.out | refine below_set ?_ GE305.out) | exact HB.out)⟩⟩
                        · rw [if_neg c196] at H
                          have c196b0 : ((rd l0 x17_1) == 1585) = false := beq_eq_false_iff_ne.mpr c196
                          have c196b1 : ((rd l0 x17_1) != 1585) = true := bne_iff_ne.mpr c196
                          by_cases c228 : t304 = 9
                          · rw [if_pos c228] at H
                            have c228b0 : (t304 == 9) = true := beq_iff_eq.mpr c228
                            have c228b1 : (t304 != 9) = false := bne_eq_false_iff_eq.mpr c228
                            clear c228
                            have H' := Aside0.mk H
                            clear H
                            have hnb229 := NB305_299.out
                            have hnc229 := NB299_305.out
                            have hnb230 := NB305_300.out
                            have hnc230 := NB300_305.out
                            have hnb231 := NB305_301.out
                            have hnc231 := NB301_305.out
                            have hnb232 := NB305_303.out
                            have hnc232 := NB303_305.out
                            have hcz233_0 : wc.cell? ⟨gb305, 0, none⟩ = some (.int .i64 t304) := (blk_cell BK305.out 0).trans rfl
                            have hfz233_0 := blk_frozen BK305.out 0
                            have hnb234 := NB299_300.out
                            have hnc234 := NB300_299.out
                            have hnb235 := NB299_301.out
                            have hnc235 := NB301_299.out
                            have hnb236 := NB299_303.out
                            have hnc236 := NB303_299.out
                            have hcz237_0 : wc.cell? ⟨gb299, 0, none⟩ = some (.bool x300000_1) := (blk_cell BK299.out 0).trans rfl
                            have hfz237_0 := blk_frozen BK299.out 0
                            have hnb238 := NB303_300.out
                            have hnc238 := NB300_303.out
                            have hnb239 := NB303_301.out
                            have hnc239 := NB301_303.out
                            have hcz240_0 : wc.cell? ⟨gb303, 0, none⟩ = some (.int .i64 (rd l0 x17_1)) := (blk_cell BK303.out 0).trans rfl
                            have hfz240_0 := blk_frozen BK303.out 0
                            have hnb241 := NB300_301.out
                            have hnc241 := NB301_300.out
                            have hcz242_0 : wc.cell? ⟨gb300, 0, none⟩ = some (.bool x301000_1) := (blk_cell BK300.out 0).trans rfl
                            have hfz242_0 := blk_frozen BK300.out 0
                            have hcz243_0 : wc.cell? ⟨gb301, 0, none⟩ = some (.int .i64 x302000_1) := (blk_cell BK301.out 0).trans rfl
                            have hfz243_0 := blk_frozen BK301.out 0
                            go_wp2
                            go_roundg kj18
                            case measure => have := HK1.out; have := HJ18.out; omega
                            case rel => exact ⟨(x3_18), (wrap64 (x17_1 + 1)), ((t304 == 8)), (false), (wrap64 (x302000_1 + 1)), (by first | rfl | (simp; done) | (simp [*]; done)), H', ⟨by have := HK1.out; have := HJ18.out; omega⟩, ⟨by (with_reducible repeat (first | apply Kd.R_alloc | apply Kd.R_drewN | apply Kd.R_drew)); exact Kd.R_mono (Kd.R_far (p := ⟨gb301, 0, none⟩) (Kd.R_far (p := ⟨gb300, 0, none⟩) (Kd.R_far (p := ⟨gb299, 0, none⟩) (Kd.R_types (Kd.R_mono (Kd.R_mono HO_3.out (fun k_ hk => (⟨hk, hk.1⟩ : _ ∧ k_ ≠ gb299))) (fun k_ hk => (⟨hk, hk.1.2⟩ : _ ∧ k_ ≠ gb300))) BK301.out (by decide)) (fun _ hk => hk.1.1.2) (.bool (t304 == 8))) (fun _ hk => hk.1.2) (.bool false)) (fun _ hk => hk.2) (.int .i64 (wrap64 (x302000_1 + 1)))) (fun _ hk => ⟨hk.1.1.1.1, hk.1.1.1.2⟩)⟩, ⟨by (with_reducible repeat (first | refine blk_drewN ?_ _ | refine blk_drew ?_ | refine blk_alloc ?_ _)); refine blk_far ?_ NB299_301.out _; (with_reducible repeat (first | refine blk_drewN ?_ _ | refine blk_drew ?_ | refine blk_alloc ?_ _)); refine blk_far ?_ NB299_300.out _; (with_reducible repeat (first | refine blk_drewN ?_ _ | refine blk_drew ?_ | refine blk_alloc ?_ _)); refine blk_put (cs := #[.bool x300000_1]) ?_ 0 _ rfl; (with_reducible repeat (first | refine blk_drewN ?_ _ | refine blk_drew ?_ | refine blk_alloc ?_ _)); exact BK299.out⟩, ⟨by (with_reducible repeat (first | refine blk_drewN ?_ _ | refine blk_drew ?_ | refine blk_alloc ?_ _)); refine blk_far ?_ NB300_301.out _; (with_reducible repeat (first | refine blk_drewN ?_ _ | refine blk_drew ?_ | refine blk_alloc ?_ _)); refine blk_put (cs := #[.bool x301000_1]) ?_ 0 _ rfl; (with_reducible repeat (first | refine blk_drewN ?_ _ | refine blk_drew ?_ | refine blk_alloc ?_ _)); refine blk_far ?_ NB300_299.out _; (with_reducible repeat (first | refine blk_drewN ?_ _ | refine blk_drew ?_ | refine blk_alloc ?_ _)); exact BK300.out⟩, ⟨by (with_reducible repeat (first | refine blk_drewN ?_ _ | refine blk_drew ?_ | refine blk_alloc ?_ _)); refine blk_put (cs := #[.int .i64 x302000_1]) ?_ 0 _ rfl; (with_reducible repeat (first | refine blk_drewN ?_ _ | refine blk_drew ?_ | refine blk_alloc ?_ _)); refine blk_far ?_ NB301_300.out _; (with_reducible repeat (first | refine blk_drewN ?_ _ | refine blk_drew ?_ | refine blk_alloc ?_ _)); refine blk_far ?_ NB301_299.out _; (with_reducible repeat (first | refine blk_drewN ?_ _ | refine blk_drew ?_ | refine blk_alloc ?_ _)); exact BK301.out⟩, ⟨by repeat (first | (with_reducible first | exact HB.out | apply below_alloc | apply pw_below_drewN | apply below_drew1 | refine below_set ?_ GE299.out | refine below_set ?_ GE300.out | refine below_set ?_ GE301.out | refine below_set ?_ GE303.out | refine below_set ?_ GE305.out) | exact HB.out)⟩⟩
                          · rw [if_neg c228] at H
                            have c228b0 : (t304 == 9) = false := beq_eq_false_iff_ne.mpr c228
                            have c228b1 : (t304 != 9) = true := bne_iff_ne.mpr c228
                            have H' := Aside0.mk H
                            clear H
                            have hnb244 := NB305_299.out
                            have hnc244 := NB299_305.out
                            have hnb245 := NB305_300.out
                            have hnc245 := NB300_305.out
                            have hnb246 := NB305_301.out
                            have hnc246 := NB301_305.out
                            have hnb247 := NB305_303.out
                            have hnc247 := NB303_305.out
                            have hcz248_0 : wc.cell? ⟨gb305, 0, none⟩ = some (.int .i64 t304) := (blk_cell BK305.out 0).trans rfl
                            have hfz248_0 := blk_frozen BK305.out 0
                            have hnb249 := NB299_300.out
                            have hnc249 := NB300_299.out
                            have hnb250 := NB299_301.out
                            have hnc250 := NB301_299.out
                            have hnb251 := NB299_303.out
                            have hnc251 := NB303_299.out
                            have hcz252_0 : wc.cell? ⟨gb299, 0, none⟩ = some (.bool x300000_1) := (blk_cell BK299.out 0).trans rfl
                            have hfz252_0 := blk_frozen BK299.out 0
                            have hnb253 := NB303_300.out
                            have hnc253 := NB300_303.out
                            have hnb254 := NB303_301.out
                            have hnc254 := NB301_303.out
                            have hcz255_0 : wc.cell? ⟨gb303, 0, none⟩ = some (.int .i64 (rd l0 x17_1)) := (blk_cell BK303.out 0).trans rfl
                            have hfz255_0 := blk_frozen BK303.out 0
                            have hnb256 := NB300_301.out
                            have hnc256 := NB301_300.out
                            have hcz257_0 : wc.cell? ⟨gb300, 0, none⟩ = some (.bool x301000_1) := (blk_cell BK300.out 0).trans rfl
                            have hfz257_0 := blk_frozen BK300.out 0
                            have hcz258_0 : wc.cell? ⟨gb301, 0, none⟩ = some (.int .i64 x302000_1) := (blk_cell BK301.out 0).trans rfl
                            have hfz258_0 := blk_frozen BK301.out 0
                            go_wp2
                            go_roundg kj18
                            case measure => have := HK1.out; have := HJ18.out; omega
                            case rel => exact ⟨(x3_18), (wrap64 (x17_1 + 1)), ((t304 == 8)), (false), (0), (by first | rfl | (simp; done) | (simp [*]; done)), H', ⟨by have := HK1.out; have := HJ18.out; omega⟩, ⟨by (with_reducible repeat (first | apply Kd.R_alloc | apply Kd.R_drewN | apply Kd.R_drew)); exact Kd.R_mono (Kd.R_far (p := ⟨gb301, 0, none⟩) (Kd.R_far (p := ⟨gb300, 0, none⟩) (Kd.R_far (p := ⟨gb299, 0, none⟩) (Kd.R_types (Kd.R_mono (Kd.R_mono HO_3.out (fun k_ hk => (⟨hk, hk.1⟩ : _ ∧ k_ ≠ gb299))) (fun k_ hk => (⟨hk, hk.1.2⟩ : _ ∧ k_ ≠ gb300))) BK301.out (by decide)) (fun _ hk => hk.1.1.2) (.bool (t304 == 8))) (fun _ hk => hk.1.2) (.bool false)) (fun _ hk => hk.2) (.int .i64 0)) (fun _ hk => ⟨hk.1.1.1.1, hk.1.1.1.2⟩)⟩, ⟨by (with_reducible repeat (first | refine blk_drewN ?_ _ | refine blk_drew ?_ | refine blk_alloc ?_ _)); refine blk_far ?_ NB299_301.out _; (with_reducible repeat (first | refine blk_drewN ?_ _ | refine blk_drew ?_ | refine blk_alloc ?_ _)); refine blk_far ?_ NB299_300.out _; (with_reducible repeat (first | refine blk_drewN ?_ _ | refine blk_drew ?_ | refine blk_alloc ?_ _)); refine blk_put (cs := #[.bool x300000_1]) ?_ 0 _ rfl; (with_reducible repeat (first | refine blk_drewN ?_ _ | refine blk_drew ?_ | refine blk_alloc ?_ _)); exact BK299.out⟩, ⟨by (with_reducible repeat (first | refine blk_drewN ?_ _ | refine blk_drew ?_ | refine blk_alloc ?_ _)); refine blk_far ?_ NB300_301.out _; (with_reducible repeat (first | refine blk_drewN ?_ _ | refine blk_drew ?_ | refine blk_alloc ?_ _)); refine blk_put (cs := #[.bool x301000_1]) ?_ 0 _ rfl; (with_reducible repeat (first | refine blk_drewN ?_ _ | refine blk_drew ?_ | refine blk_alloc ?_ _)); refine blk_far ?_ NB300_299.out _; (with_reducible repeat (first | refine blk_drewN ?_ _ | refine blk_drew ?_ | refine blk_alloc ?_ _)); exact BK300.out⟩, ⟨by (with_reducible repeat (first | refine blk_drewN ?_ _ | refine blk_drew ?_ | refine blk_alloc ?_ _)); refine blk_put (cs := #[.int .i64 x302000_1]) ?_ 0 _ rfl; (with_reducible repeat (first | refine blk_drewN ?_ _ | refine blk_drew ?_ | refine blk_alloc ?_ _)); refine blk_far ?_ NB301_300.out _; (with_reducible repeat (first | refine blk_drewN ?_ _ | refine blk_drew ?_ | refine blk_alloc ?_ _)); refine blk_far ?_ NB301_299.out _; (with_reducible repeat (first | refine blk_drewN ?_ _ | refine blk_drew ?_ | refine blk_alloc ?_ _)); exact BK301.out⟩, ⟨by repeat (first | (with_reducible first | exact HB.out | apply below_alloc | apply pw_below_drewN | apply below_drew1 | refine below_set ?_ GE299.out | refine below_set ?_ GE300.out | refine below_set ?_ GE301.out | refine below_set ?_ GE303.out | refine below_set ?_ GE305.out) | exact HB.out)⟩⟩
              · rw [if_neg c17] at H
                exact absurd H (by simp)
            · rw [if_neg c16] at H
              exact absurd H (by simp)
          · rw [if_neg c15] at H
            have c15b0 : decide (x17_1 < (l0.length : Int)) = false := decide_eq_false c15
            clear c15
            obtain rfl := Option.some.inj H
            go_wp2
            go_ret
            exact ⟨_, by first | rfl | (simp [errW_none, errW_some] <;> rfl) | (simp [*, errW_none, errW_some] <;> rfl), by (with_reducible repeat (first | apply Kd.R_alloc | apply Kd.R_drewN | apply Kd.R_drew)); exact Kd.R_mono HO_3.out (fun _ hk => trivial), by repeat (first | (with_reducible first | exact HB.out | apply below_alloc | apply pw_below_drewN | apply below_drew1 | refine below_set ?_ GE299.out | refine below_set ?_ GE300.out | refine below_set ?_ GE301.out) | exact HB.out)⟩
    · rw [if_neg c3] at H
      exact absurd H (by simp)
  · rw [if_neg c2] at H
    exact absurd H (by simp)

end Go.Proofs.YtmlhnpggjkoinaaDoor.PFnExactChars

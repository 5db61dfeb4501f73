-- Written by a program of this session (wip/tools/myprint.py) that runs the kit's print with hooks of its own. Lean checks it.
import Derived.Test.YtmlhnpggjkoinaaDoorPFnExactCharCutsx0
import Derived.Test.YtmlhnpggjkoinaaDoorPFnExactCharCutsx8
import Derived.Test.YtmlhnpggjkoinaaDoorPFnExactCharCutsx9
namespace Go.Proofs.YtmlhnpggjkoinaaDoor.PFnExactCharCuts
open Go.RowKit Go.Proofs.YtmlhnpggjkoinaaDoorW.PrintWords Go.Proofs.YtmlhnpggjkoinaaDoorW.PrintLast Go.Proofs.YtmlhnpggjkoinaaDoorW.PrintMore
attribute [local go_sem] max2_int min2_int max_two min_two max_three min_three max_four min_four   -- for this text's walks alone
set_option linter.unusedVariables false
set_option linter.unusedSimpArgs false

/-! ### impl_charCuts: function 81 -/
mutual
def impl_charCuts.l0 : Nat → List Int → List Bool → List Int → Int → Int → Bool → Bool → Int → Option (List Bool)
  | 0, _, _, _, _, _, _, _, _ => none
  | k + 1, x0, x3, x15, x16, x17, x286000, x287000, x288000 => if x17 < x16 then (if 0 ≤ x17 then (if x17 < (x15.length : Int) then ((impl_charClass.f k (rd x15 x17)).bind fun t290 => (if x17 > 0 then (if 0 ≤ (wrap64 (x17 - 1)) then (if (wrap64 (x17 - 1)) < (x0.length : Int) then ((impl_charClass.f k (rd x0 (wrap64 (x17 - 1)))).bind fun t294 => ((impl_charCuts_1.f k (rd x0 (wrap64 (x17 - 1))) (rd x15 x17) t290 t294 x287000 x286000 x288000).bind fun t296 => (if x17 < (x3.length : Int) then (impl_charCuts.j1 k x0 (x3.set (x17 : Int).toNat t296) x15 x16 x17 x286000 x287000 x288000 (rd x15 x17) t290) else (none)))) else (none)) else (none)) else (impl_charCuts.j1 k x0 x3 x15 x16 x17 x286000 x287000 x288000 (rd x15 x17) t290))) else (none)) else (none)) else (some x3)
def impl_charCuts.j1 : Nat → List Int → List Bool → List Int → Int → Int → Bool → Bool → Int → Int → Int → Option (List Bool)
  | 0, _, _, _, _, _, _, _, _, _, _ => none
  | k + 1, x0, x3, x15, x16, x17, x286000, x287000, x288000, x290000, x292000 => if x292000 = 2 then (if x290000 = 1584 then (if x292000 = 9 then (impl_charCuts.l0 k x0 x3 x15 x16 (wrap64 (x17 + 1)) x286000 true (wrap64 (x288000 + 1))) else (impl_charCuts.l0 k x0 x3 x15 x16 (wrap64 (x17 + 1)) x286000 true 0)) else (if x290000 = 1585 then (if x292000 = 9 then (impl_charCuts.l0 k x0 x3 x15 x16 (wrap64 (x17 + 1)) x286000 x287000 (wrap64 (x288000 + 1))) else (impl_charCuts.l0 k x0 x3 x15 x16 (wrap64 (x17 + 1)) x286000 x287000 0)) else (if x292000 = 9 then (impl_charCuts.l0 k x0 x3 x15 x16 (wrap64 (x17 + 1)) x286000 false (wrap64 (x288000 + 1))) else (impl_charCuts.l0 k x0 x3 x15 x16 (wrap64 (x17 + 1)) x286000 false 0)))) else (if x290000 = 1584 then (if x292000 = 9 then (impl_charCuts.l0 k x0 x3 x15 x16 (wrap64 (x17 + 1)) (x292000 == 8) true (wrap64 (x288000 + 1))) else (impl_charCuts.l0 k x0 x3 x15 x16 (wrap64 (x17 + 1)) (x292000 == 8) true 0)) else (if x290000 = 1585 then (if x292000 = 9 then (impl_charCuts.l0 k x0 x3 x15 x16 (wrap64 (x17 + 1)) (x292000 == 8) x287000 (wrap64 (x288000 + 1))) else (impl_charCuts.l0 k x0 x3 x15 x16 (wrap64 (x17 + 1)) (x292000 == 8) x287000 0)) else (if x292000 = 9 then (impl_charCuts.l0 k x0 x3 x15 x16 (wrap64 (x17 + 1)) (x292000 == 8) false (wrap64 (x288000 + 1))) else (impl_charCuts.l0 k x0 x3 x15 x16 (wrap64 (x17 + 1)) (x292000 == 8) false 0))))
end
def impl_charCuts.f (k : Nat) (l0 : List Int) : Option (List Bool) := if 0 ≤ (l0.length : Int) then (if ((l0.length : Int) : Int).toNat ≤ 281474976710656 then (impl_charCuts.l0 k l0 (List.replicate ((l0.length : Int) : Int).toNat false) l0 (l0.length : Int) 0 false false 0) else (none)) else (none)
theorem impl_charCuts.mono_l : ∀ k, (∀ y0 y1 y2 y3 y4 y5 y6 y7, LeO (impl_charCuts.l0 k y0 y1 y2 y3 y4 y5 y6 y7) (impl_charCuts.l0 (k + 1) y0 y1 y2 y3 y4 y5 y6 y7)) ∧ (∀ y0 y1 y2 y3 y4 y5 y6 y7 y8 y9, LeO (impl_charCuts.j1 k y0 y1 y2 y3 y4 y5 y6 y7 y8 y9) (impl_charCuts.j1 (k + 1) y0 y1 y2 y3 y4 y5 y6 y7 y8 y9))
  | 0 => ⟨fun _ _ _ _ _ _ _ _ r h => by simp [impl_charCuts.l0] at h, fun _ _ _ _ _ _ _ _ _ _ r h => by simp [impl_charCuts.j1] at h⟩
  | k + 1 => by
    obtain ⟨ih0, ih1⟩ := impl_charCuts.mono_l k
    refine ⟨?_, ?_⟩
    · intro y0 y1 y2 y3 y4 y5 y6 y7
      unfold impl_charCuts.l0
      repeat' first
      | (with_reducible exact ih0 _ _ _ _ _ _ _ _)
      | (with_reducible exact ih1 _ _ _ _ _ _ _ _ _ _)
      | (with_reducible exact impl_charClass.mono _ _)
      | (with_reducible exact impl_charCuts_1.mono _ _ _ _ _ _ _ _)
      | (with_reducible exact LeO.refl _)
      | (with_reducible exact LeO.none _)
      | (with_reducible refine LeO.ite ?_ ?_)
      | (with_reducible refine LeO.bind ?_ (fun _ => ?_))
      | exact ih0 _ _ _ _ _ _ _ _
      | exact ih1 _ _ _ _ _ _ _ _ _ _
      | exact impl_charClass.mono _ _
      | exact impl_charCuts_1.mono _ _ _ _ _ _ _ _
      | exact LeO.none _
      | refine LeO.ite ?_ ?_
      | refine LeO.bind ?_ (fun _ => ?_)
    · intro y0 y1 y2 y3 y4 y5 y6 y7 y8 y9
      unfold impl_charCuts.j1
      repeat' first
      | (with_reducible exact ih0 _ _ _ _ _ _ _ _)
      | (with_reducible exact ih1 _ _ _ _ _ _ _ _ _ _)
      | (with_reducible exact impl_charClass.mono _ _)
      | (with_reducible exact impl_charCuts_1.mono _ _ _ _ _ _ _ _)
      | (with_reducible exact LeO.refl _)
      | (with_reducible exact LeO.none _)
      | (with_reducible refine LeO.ite ?_ ?_)
      | (with_reducible refine LeO.bind ?_ (fun _ => ?_))
      | exact ih0 _ _ _ _ _ _ _ _
      | exact ih1 _ _ _ _ _ _ _ _ _ _
      | exact impl_charClass.mono _ _
      | exact impl_charCuts_1.mono _ _ _ _ _ _ _ _
      | exact LeO.none _
      | refine LeO.ite ?_ ?_
      | refine LeO.bind ?_ (fun _ => ?_)
theorem impl_charCuts.mono : ∀ a0 k, LeO (impl_charCuts.f k a0) (impl_charCuts.f (k + 1) a0) := by
  intro a0 k
  obtain ⟨ih0, ih1⟩ := impl_charCuts.mono_l k
  unfold impl_charCuts.f
  repeat' first
      | (with_reducible exact ih0 _ _ _ _ _ _ _ _)
      | (with_reducible exact ih1 _ _ _ _ _ _ _ _ _ _)
      | (with_reducible exact impl_charClass.mono _ _)
      | (with_reducible exact impl_charCuts_1.mono _ _ _ _ _ _ _ _)
      | (with_reducible exact LeO.refl _)
      | (with_reducible exact LeO.none _)
      | (with_reducible refine LeO.ite ?_ ?_)
      | (with_reducible refine LeO.bind ?_ (fun _ => ?_))
      | exact ih0 _ _ _ _ _ _ _ _
      | exact ih1 _ _ _ _ _ _ _ _ _ _
      | exact impl_charClass.mono _ _
      | exact impl_charCuts_1.mono _ _ _ _ _ _ _ _
      | exact LeO.none _
      | refine LeO.ite ?_ ?_
      | refine LeO.bind ?_ (fun _ => ?_)
set_option maxHeartbeats 8000000 in
set_option maxRecDepth 100000 in
theorem impl_charCuts.calls (k : Nat) (A0 : Option Addr) (c0 : Nat) (l0 : List Int) (r : List Bool) (w : World) (hr0 : Kd.C (Kd.int .i64) w A0 l0.length l0) (hc0 : l0.length ≤ c0) (h : impl_charCuts.f k l0 = some r) :
    Calls Tryd.prog 81 #[.slice A0 l0.length c0] w fun e w' => ∃ v0_ : Value, e = .returned (v0_) ∧ Kd.R Kd.bool 4 w' w.heap.size (fun _ => True) v0_ r ∧ Below w.heap.size w w' := by
  have HR0 := Aside0.mk hr0
  have HC0 := Aside0.mk hc0
  clear hr0 hc0
  have HB := Aside0.mk (Below.refl w.heap.size w)
  have H : (if 0 ≤ (l0.length : Int) then (if ((l0.length : Int) : Int).toNat ≤ 281474976710656 then (impl_charCuts.l0 k l0 (List.replicate ((l0.length : Int) : Int).toNat false) l0 (l0.length : Int) 0 false false 0) else (none)) else (none)) = some r := h
  clear h
  by_cases c2 : 0 ≤ (l0.length : Int)
  · rw [if_pos c2] at H
    have c2b0 := eq_true c2
    have c2b1 : decide (0 ≤ (l0.length : Int)) = true := decide_eq_true c2
    clear c2
    by_cases c3 : ((l0.length : Int) : Int).toNat ≤ 281474976710656
    · rw [if_pos c3] at H
      have c3b0 := eq_true c3
      have c3b1 : decide (((l0.length : Int) : Int).toNat ≤ 281474976710656) = true := decide_eq_true c3
      clear c3
      obtain ⟨y282, hy282⟩ : ∃ y_ : List Bool, y_ = (List.replicate ((l0.length : Int) : Int).toNat false) := ⟨_, rfl⟩
      replace H : (impl_charCuts.l0 k l0 y282 l0 (l0.length : Int) 0 false false 0) = some r := by first | (rw [hy282]; with_reducible exact H) | (have H2_ := (Option.bind_some _ _).symm.trans H; rw [hy282]; with_reducible exact H2_) | (have H2_ := (Option.bind_some _ _).symm.trans H; with_reducible exact H2_) | with_reducible exact H | (rw [hy282]; exact H) | exact H
      have Ny282 := Aside0.mk hy282
      clear hy282
      have H' := Aside0.mk H
      clear H
      have hmf_ : ∀ (fn : Fn) (first cap : Array Value) (w : World), (Instr.makeFunc fn first cap).run Tryd.prog w = .ok (.func fn first cap) w := fun _ _ _ _ => rfl
      go_enter Tryd.func81, Tryd.ntmps81
      go_wp2_with (first | ((with_reducible refine gate_dst (N := 14) rfl ?_); refine Kd.R_make Kd.bool _ 4 rfl (N := 14) rfl 60 _ _ rfl (l0.length : Int) rfl rfl Tryd.underlying60 (.bool false) 1 info4 rfl (by decide) (by omega) false (ok := fun _ => True) (okp := fun _ => True) rfl (fun _ hk => hk) trivial (of_decide_eq_true (by first | (with_reducible assumption) | assumption)) (Nat.le_trans (Nat.mul_le_mul_right _ (of_decide_eq_true (by first | (with_reducible assumption) | assumption) : (l0.length : Int).toNat ≤ 281474976710656)) (by omega)) (Below.refl _ _) (Nat.le_refl _) ?_; intro v283 w4 ho5 hb hg_ hnew_; clear hg_ hnew_; (first | rw [← Ny282.out] at ho5 | (simp only [Int.reduceToNat] at ho5; rw [← Ny282.out] at ho5)); have n0_ := Aside0.mk (Kd.R_lower ho5 (below_size (by repeat (first | (with_reducible first | exact HB.out | apply below_alloc | apply pw_below_drewN | apply below_drew1) | exact HB.out)))); have n1_ := Aside0.mk (below_step (by repeat (first | (with_reducible first | exact HB.out | apply below_alloc | apply pw_below_drewN | apply below_drew1) | exact HB.out)) hb); clear HB; have HO284 := n0_; have HB := n1_; clear n0_ n1_; clear hb ho5) | ((with_reducible refine gate_dst (N := 4) rfl ?_); refine box_event ?hg (N := 4) ?hd (cs := #[.bool false]) (t := 4) ?hr ?_; (case hd => rfl); (case hg => rfl); (case hr => first | (go_simp; done) | (go_simp; rfl)); intro gb285 hg w6 hbox hb; have n0_ := Aside0.mk (Kd.R_below (Kd.R_elderB (by (with_reducible repeat (first | apply Kd.R_alloc | apply Kd.R_drewN | apply Kd.R_drew)); exact HO284.out) gb285 (Nat.le_of_eq hg.symm)) hb); have n1_ := Aside0.mk (below_step (by repeat (first | (with_reducible first | exact HB.out | apply below_alloc | apply pw_below_drewN | apply below_drew1) | exact HB.out)) hb); have n2_ := Aside0.mk (hbox); have n3_ := Aside0.mk ((by rw [hg]; exact (below_size (by repeat (first | (with_reducible first | exact HB.out | apply below_alloc | apply pw_below_drewN | apply below_drew1) | exact HB.out))) : w.heap.size ≤ gb285)); have n4_ := Aside0.mk ((by rw [hg]; exact (below_size (by repeat (first | (with_reducible first | exact HB.out | apply below_alloc | apply pw_below_drewN | apply below_drew1) | exact HB.out))) : w.heap.size ≤ gb285)); clear HO284; clear HB; have HO284 := n0_; have HB := n1_; have BK285 := n2_; have GW285 := n3_; have GE285 := n4_; clear n0_ n1_ n2_ n3_ n4_; clear hb hbox hg) | ((with_reducible refine gate_dst (N := 5) rfl ?_); refine box_event ?hg (N := 5) ?hd (cs := #[.bool false]) (t := 4) ?hr ?_; (case hd => rfl); (case hg => rfl); (case hr => first | (go_simp; done) | (go_simp; rfl)); intro gb286 hg w7 hbox hb; have n0_ := Aside0.mk (Kd.R_below (Kd.R_elderB (by (with_reducible repeat (first | apply Kd.R_alloc | apply Kd.R_drewN | apply Kd.R_drew)); exact HO284.out) gb286 (Nat.le_of_eq hg.symm)) hb); have n1_ := Aside0.mk (blk_below (g := gb285) (o := .cells #[.bool false] 4 (0, 0)) (by (with_reducible repeat (first | refine blk_drewN ?_ _ | refine blk_drew ?_ | refine blk_alloc ?_ _)); exact BK285.out) hb); have n2_ := Aside0.mk (below_step (by repeat (first | (with_reducible first | exact HB.out | apply below_alloc | apply pw_below_drewN | apply below_drew1 | refine below_set ?_ GE285.out) | exact HB.out)) hb); have n3_ := Aside0.mk (hbox); have n4_ := Aside0.mk ((by rw [hg]; exact (below_size (by repeat (first | (with_reducible first | exact HB.out | apply below_alloc | apply pw_below_drewN | apply below_drew1 | refine below_set ?_ GE285.out) | exact HB.out))) : w.heap.size ≤ gb286)); have n5_ := Aside0.mk ((by rw [hg]; exact (below_size (by repeat (first | (with_reducible first | exact HB.out | apply below_alloc | apply pw_below_drewN | apply below_drew1 | refine below_set ?_ GE285.out) | exact HB.out))) : w.heap.size ≤ gb286)); have n6_ := Aside0.mk ((by rw [hg]; exact Nat.ne_of_lt (blk_lt (g := gb285) (o := .cells #[.bool false] 4 (0, 0)) (by (with_reducible repeat (first | refine blk_drewN ?_ _ | refine blk_drew ?_ | refine blk_alloc ?_ _)); exact BK285.out)) : gb285 ≠ gb286)); have n7_ := Aside0.mk ((by rw [hg]; exact Nat.ne_of_gt (blk_lt (g := gb285) (o := .cells #[.bool false] 4 (0, 0)) (by (with_reducible repeat (first | refine blk_drewN ?_ _ | refine blk_drew ?_ | refine blk_alloc ?_ _)); exact BK285.out)) : gb286 ≠ gb285)); clear HO284; clear BK285; clear HB; have HO284 := n0_; have BK285 := n1_; have HB := n2_; have BK286 := n3_; have GW286 := n4_; have GE286 := n5_; have NB285_286 := n6_; have NB286_285 := n7_; clear n0_ n1_ n2_ n3_ n4_ n5_ n6_ n7_; clear hb hbox hg) | ((with_reducible refine gate_dst (N := 6) rfl ?_); refine box_event ?hg (N := 6) ?hd (cs := #[.int .i64 0]) (t := 3) ?hr ?_; (case hd => rfl); (case hg => rfl); (case hr => first | (go_simp; done) | (go_simp; rfl)); intro gb287 hg w8 hbox hb; have n0_ := Aside0.mk (Kd.R_below (by (with_reducible repeat (first | apply Kd.R_alloc | apply Kd.R_drewN | apply Kd.R_drew)); exact HO284.out) hb); have n1_ := Aside0.mk (blk_below (g := gb285) (o := .cells #[.bool false] 4 (0, 0)) (by (with_reducible repeat (first | refine blk_drewN ?_ _ | refine blk_drew ?_ | refine blk_alloc ?_ _)); exact BK285.out) hb); have n2_ := Aside0.mk (blk_below (g := gb286) (o := .cells #[.bool false] 4 (0, 0)) (by (with_reducible repeat (first | refine blk_drewN ?_ _ | refine blk_drew ?_ | refine blk_alloc ?_ _)); exact BK286.out) hb); have n3_ := Aside0.mk (below_step (by repeat (first | (with_reducible first | exact HB.out | apply below_alloc | apply pw_below_drewN | apply below_drew1 | refine below_set ?_ GE285.out | refine below_set ?_ GE286.out) | exact HB.out)) hb); have n4_ := Aside0.mk (hbox); have n5_ := Aside0.mk ((by rw [hg]; exact (below_size (by repeat (first | (with_reducible first | exact HB.out | apply below_alloc | apply pw_below_drewN | apply below_drew1 | refine below_set ?_ GE285.out | refine below_set ?_ GE286.out) | exact HB.out))) : w.heap.size ≤ gb287)); have n6_ := Aside0.mk ((by rw [hg]; exact (below_size (by repeat (first | (with_reducible first | exact HB.out | apply below_alloc | apply pw_below_drewN | apply below_drew1 | refine below_set ?_ GE285.out | refine below_set ?_ GE286.out) | exact HB.out))) : w.heap.size ≤ gb287)); have n7_ := Aside0.mk ((by rw [hg]; exact Nat.ne_of_lt (blk_lt (g := gb285) (o := .cells #[.bool false] 4 (0, 0)) (by (with_reducible repeat (first | refine blk_drewN ?_ _ | refine blk_drew ?_ | refine blk_alloc ?_ _)); exact BK285.out)) : gb285 ≠ gb287)); have n8_ := Aside0.mk ((by rw [hg]; exact Nat.ne_of_gt (blk_lt (g := gb285) (o := .cells #[.bool false] 4 (0, 0)) (by (with_reducible repeat (first | refine blk_drewN ?_ _ | refine blk_drew ?_ | refine blk_alloc ?_ _)); exact BK285.out)) : gb287 ≠ gb285)); have n9_ := Aside0.mk ((by rw [hg]; exact Nat.ne_of_lt (blk_lt (g := gb286) (o := .cells #[.bool false] 4 (0, 0)) (by (with_reducible repeat (first | refine blk_drewN ?_ _ | refine blk_drew ?_ | refine blk_alloc ?_ _)); exact BK286.out)) : gb286 ≠ gb287)); have n10_ := Aside0.mk ((by rw [hg]; exact Nat.ne_of_gt (blk_lt (g := gb286) (o := .cells #[.bool false] 4 (0, 0)) (by (with_reducible repeat (first | refine blk_drewN ?_ _ | refine blk_drew ?_ | refine blk_alloc ?_ _)); exact BK286.out)) : gb287 ≠ gb286)); clear HO284; clear BK285; clear BK286; clear HB; have HO284 := n0_; have BK285 := n1_; have BK286 := n2_; have HB := n3_; have BK287 := n4_; have GW287 := n5_; have GE287 := n6_; have NB285_287 := n7_; have NB287_285 := n8_; have NB286_287 := n9_; have NB287_286 := n10_; clear n0_ n1_ n2_ n3_ n4_ n5_ n6_ n7_ n8_ n9_ n10_; clear hb hbox hg; have hnb9 := NB285_286.out; have hnc9 := NB286_285.out; have hnb10 := NB285_287.out; have hnc10 := NB287_285.out; have hcz11_0 : w8.cell? ⟨gb285, 0, none⟩ = some (.bool false) := (blk_cell BK285.out 0).trans rfl; have hfz11_0 := blk_frozen BK285.out 0; have hnb12 := NB286_287.out; have hnc12 := NB287_286.out; have hcz13_0 : w8.cell? ⟨gb286, 0, none⟩ = some (.bool false) := (blk_cell BK286.out 0).trans rfl; have hfz13_0 := blk_frozen BK286.out 0; have hcz14_0 : w8.cell? ⟨gb287, 0, none⟩ = some (.int .i64 0) := (blk_cell BK287.out 0).trans rfl; have hfz14_0 := blk_frozen BK287.out 0))
      go_loopg [17] k (fun kq v17 w' => ∃ (x3_1 : List Bool) (x17_1 : Int) (x286000_1 : Bool) (x287000_1 : Bool) (x288000_1 : Int), v17 = .int .i64 x17_1 ∧ Aside0 (impl_charCuts.l0 kq l0 x3_1 l0 (l0.length : Int) x17_1 x286000_1 x287000_1 x288000_1 = some r) ∧ Aside0 (kq ≤ k) ∧ Aside0 (Kd.R Kd.bool 4 w' w.heap.size (fun k_ => k_ ≠ gb285 ∧ k_ ≠ gb286) v283 x3_1) ∧ Aside0 (w'.heap[gb285]? = some (.cells #[.bool x286000_1] 4 (0, 0))) ∧ Aside0 (w'.heap[gb286]? = some (.cells #[.bool x287000_1] 4 (0, 0))) ∧ Aside0 (w'.heap[gb287]? = some (.cells #[.int .i64 x288000_1] 3 (0, 0))) ∧ Aside0 (Below w.heap.size w w'))
      case atStart => exact ⟨(y282), (0), (false), (false), (0), (by first | rfl | (simp; done) | (simp [*]; done)), H', ⟨Nat.le_refl _⟩, ⟨by (with_reducible repeat (first | apply Kd.R_alloc | apply Kd.R_drewN | apply Kd.R_drew)); exact Kd.R_mono (Kd.R_far (p := ⟨gb287, 0, none⟩) (Kd.R_far (p := ⟨gb286, 0, none⟩) (Kd.R_far (p := ⟨gb285, 0, none⟩) (Kd.R_types (Kd.R_mono (Kd.R_mono HO284.out (fun k_ hk => (⟨hk, hk.1.2⟩ : _ ∧ k_ ≠ gb285))) (fun k_ hk => (⟨hk, hk.1.2⟩ : _ ∧ k_ ≠ gb286))) BK287.out (by decide)) (fun _ hk => hk.1.1.2) (.bool false)) (fun _ hk => hk.1.2) (.bool false)) (fun _ hk => hk.2) (.int .i64 0)) (fun _ hk => ⟨hk.1.1.1.1.2, hk.1.1.1.2⟩)⟩, ⟨by (with_reducible repeat (first | refine blk_drewN ?_ _ | refine blk_drew ?_ | refine blk_alloc ?_ _)); refine blk_far ?_ NB285_287.out _; (with_reducible repeat (first | refine blk_drewN ?_ _ | refine blk_drew ?_ | refine blk_alloc ?_ _)); refine blk_far ?_ NB285_286.out _; (with_reducible repeat (first | refine blk_drewN ?_ _ | refine blk_drew ?_ | refine blk_alloc ?_ _)); refine blk_put (cs := #[.bool false]) ?_ 0 _ rfl; (with_reducible repeat (first | refine blk_drewN ?_ _ | refine blk_drew ?_ | refine blk_alloc ?_ _)); exact BK285.out⟩, ⟨by (with_reducible repeat (first | refine blk_drewN ?_ _ | refine blk_drew ?_ | refine blk_alloc ?_ _)); refine blk_far ?_ NB286_287.out _; (with_reducible repeat (first | refine blk_drewN ?_ _ | refine blk_drew ?_ | refine blk_alloc ?_ _)); refine blk_put (cs := #[.bool false]) ?_ 0 _ rfl; (with_reducible repeat (first | refine blk_drewN ?_ _ | refine blk_drew ?_ | refine blk_alloc ?_ _)); refine blk_far ?_ NB286_285.out _; (with_reducible repeat (first | refine blk_drewN ?_ _ | refine blk_drew ?_ | refine blk_alloc ?_ _)); exact BK286.out⟩, ⟨by (with_reducible repeat (first | refine blk_drewN ?_ _ | refine blk_drew ?_ | refine blk_alloc ?_ _)); refine blk_put (cs := #[.int .i64 0]) ?_ 0 _ rfl; (with_reducible repeat (first | refine blk_drewN ?_ _ | refine blk_drew ?_ | refine blk_alloc ?_ _)); refine blk_far ?_ NB287_286.out _; (with_reducible repeat (first | refine blk_drewN ?_ _ | refine blk_drew ?_ | refine blk_alloc ?_ _)); refine blk_far ?_ NB287_285.out _; (with_reducible repeat (first | refine blk_drewN ?_ _ | refine blk_drew ?_ | refine blk_alloc ?_ _)); exact BK287.out⟩, ⟨by repeat (first | (with_reducible first | exact HB.out | apply below_alloc | apply pw_below_drewN | apply below_drew1 | refine below_set ?_ GE285.out | refine below_set ?_ GE286.out | refine below_set ?_ GE287.out) | exact HB.out)⟩⟩
      case round =>
        clear H'
        try clear c1
        try clear c2
        try clear c2b0
        try clear c2b1
        try clear p2
        try clear c3
        try clear c3b0
        try clear c3b1
        try clear c8
        try clear c9
        try clear c10
        try clear c12
        try clear hcz11_0
        try clear hcz13_0
        try clear hcz14_0
        try clear hfz11_0
        try clear hfz13_0
        try clear hfz14_0
        obtain ⟨x3_1, x17_1, x286000_1, x287000_1, x288000_1, rfl, HA, HK1, HO_3, BK285, BK286, BK287, HB⟩ := hrel
        cases gk with
        | zero => exact absurd HA.out (by simp [impl_charCuts.l0])
        | succ k1 =>
          have H := HA.out
          clear HA
          simp only [impl_charCuts.l0] at H
          by_cases c15 : x17_1 < (l0.length : Int)
          · rw [if_pos c15] at H
            have c15b0 : decide (x17_1 < (l0.length : Int)) = true := decide_eq_true c15
            clear c15
            by_cases c16 : 0 ≤ x17_1
            · rw [if_pos c16] at H
              have c16b0 : decide (0 ≤ x17_1) = true := decide_eq_true c16
              clear c16
              by_cases c17 : x17_1 < (l0.length : Int)
              · rw [if_pos c17] at H
                have c17b0 : decide (x17_1 < (l0.length : Int)) = true := decide_eq_true c17
                clear c17
                replace H := Option.bind_eq_some_iff.mp H
                obtain ⟨t290, A180, H⟩ := H
                replace H : (if x17_1 > 0 then (if 0 ≤ (wrap64 (x17_1 - 1)) then (if (wrap64 (x17_1 - 1)) < (l0.length : Int) then ((impl_charClass.f k1 (rd l0 (wrap64 (x17_1 - 1)))).bind fun t294 => ((impl_charCuts_1.f k1 (rd l0 (wrap64 (x17_1 - 1))) (rd l0 x17_1) t290 t294 x287000_1 x286000_1 x288000_1).bind fun t296 => (if x17_1 < (x3_1.length : Int) then (impl_charCuts.j1 k1 l0 (x3_1.set (x17_1 : Int).toNat t296) l0 (l0.length : Int) x17_1 x286000_1 x287000_1 x288000_1 (rd l0 x17_1) t290) else (none)))) else (none)) else (none)) else (impl_charCuts.j1 k1 l0 x3_1 l0 (l0.length : Int) x17_1 x286000_1 x287000_1 x288000_1 (rd l0 x17_1) t290)) = some r := H
                have A18 := Aside0.mk A180
                clear A180
                have HC19 := Aside0.mk H
                clear H
                have p288 : 0 ≤ (x17_1 : Int) := of_decide_eq_true (by first | (with_reducible assumption) | assumption)
                have q288 : x17_1 < (l0.length : Int) := of_decide_eq_true (by first | (with_reducible assumption) | assumption)
                obtain ⟨ad288, e288, hx288_0⟩ := Kd.at_int HR0.out x17_1 p288 q288
                cases e288
                replace hx288_0 := (HB.out.cell (World.block_lt_of_cell? w _ hx288_0)).trans hx288_0
                replace p288 := eq_true p288
                replace q288 := eq_true q288
                go_upto_if 25 with (first | ((with_reducible refine gate_dst (N := 8) rfl ?_); refine box_event ?hg (N := 8) ?hd (cs := #[.int .i64 0]) (t := 2) ?hr ?_; (case hd => rfl); (case hg => rfl); (case hr => first | (go_simp; done) | (go_simp; rfl)); intro gb289 hg w20 hbox hb; have n0_ := Aside0.mk (Kd.R_below (by (with_reducible repeat (first | apply Kd.R_alloc | apply Kd.R_drewN | apply Kd.R_drew)); exact HO_3.out) hb); have n1_ := Aside0.mk (blk_below (g := gb285) (o := .cells #[.bool x286000_1] 4 (0, 0)) (by (with_reducible repeat (first | refine blk_drewN ?_ _ | refine blk_drew ?_ | refine blk_alloc ?_ _)); exact BK285.out) hb); have n2_ := Aside0.mk (blk_below (g := gb286) (o := .cells #[.bool x287000_1] 4 (0, 0)) (by (with_reducible repeat (first | refine blk_drewN ?_ _ | refine blk_drew ?_ | refine blk_alloc ?_ _)); exact BK286.out) hb); have n3_ := Aside0.mk (blk_below (g := gb287) (o := .cells #[.int .i64 x288000_1] 3 (0, 0)) (by (with_reducible repeat (first | refine blk_drewN ?_ _ | refine blk_drew ?_ | refine blk_alloc ?_ _)); exact BK287.out) hb); have n4_ := Aside0.mk (below_step (by repeat (first | (with_reducible first | exact HB.out | apply below_alloc | apply pw_below_drewN | apply below_drew1 | refine below_set ?_ GE285.out | refine below_set ?_ GE286.out | refine below_set ?_ GE287.out) | exact HB.out)) hb); have n5_ := Aside0.mk (hbox); have n6_ := Aside0.mk ((by rw [hg]; exact (below_size (by repeat (first | (with_reducible first | exact HB.out | apply below_alloc | apply pw_below_drewN | apply below_drew1 | refine below_set ?_ GE285.out | refine below_set ?_ GE286.out | refine below_set ?_ GE287.out) | exact HB.out))) : w.heap.size ≤ gb289)); have n7_ := Aside0.mk ((by rw [hg]; exact (below_size (by repeat (first | (with_reducible first | exact HB.out | apply below_alloc | apply pw_below_drewN | apply below_drew1 | refine below_set ?_ GE285.out | refine below_set ?_ GE286.out | refine below_set ?_ GE287.out) | exact HB.out))) : w.heap.size ≤ gb289)); have n8_ := Aside0.mk ((by rw [hg]; exact Nat.ne_of_lt (blk_lt (g := gb285) (o := .cells #[.bool x286000_1] 4 (0, 0)) (by (with_reducible repeat (first | refine blk_drewN ?_ _ | refine blk_drew ?_ | refine blk_alloc ?_ _)); exact BK285.out)) : gb285 ≠ gb289)); have n9_ := Aside0.mk ((by rw [hg]; exact Nat.ne_of_gt (blk_lt (g := gb285) (o := .cells #[.bool x286000_1] 4 (0, 0)) (by (with_reducible repeat (first | refine blk_drewN ?_ _ | refine blk_drew ?_ | refine blk_alloc ?_ _)); exact BK285.out)) : gb289 ≠ gb285)); have n10_ := Aside0.mk ((by rw [hg]; exact Nat.ne_of_lt (blk_lt (g := gb286) (o := .cells #[.bool x287000_1] 4 (0, 0)) (by (with_reducible repeat (first | refine blk_drewN ?_ _ | refine blk_drew ?_ | refine blk_alloc ?_ _)); exact BK286.out)) : gb286 ≠ gb289)); have n11_ := Aside0.mk ((by rw [hg]; exact Nat.ne_of_gt (blk_lt (g := gb286) (o := .cells #[.bool x287000_1] 4 (0, 0)) (by (with_reducible repeat (first | refine blk_drewN ?_ _ | refine blk_drew ?_ | refine blk_alloc ?_ _)); exact BK286.out)) : gb289 ≠ gb286)); have n12_ := Aside0.mk ((by rw [hg]; exact Nat.ne_of_lt (blk_lt (g := gb287) (o := .cells #[.int .i64 x288000_1] 3 (0, 0)) (by (with_reducible repeat (first | refine blk_drewN ?_ _ | refine blk_drew ?_ | refine blk_alloc ?_ _)); exact BK287.out)) : gb287 ≠ gb289)); have n13_ := Aside0.mk ((by rw [hg]; exact Nat.ne_of_gt (blk_lt (g := gb287) (o := .cells #[.int .i64 x288000_1] 3 (0, 0)) (by (with_reducible repeat (first | refine blk_drewN ?_ _ | refine blk_drew ?_ | refine blk_alloc ?_ _)); exact BK287.out)) : gb289 ≠ gb287)); clear HO_3; clear BK285; clear BK286; clear BK287; clear HB; have HO_3 := n0_; have BK285 := n1_; have BK286 := n2_; have BK287 := n3_; have HB := n4_; have BK289 := n5_; have GW289 := n6_; have GE289 := n7_; have NB285_289 := n8_; have NB289_285 := n9_; have NB286_289 := n10_; have NB289_286 := n11_; have NB287_289 := n12_; have NB289_287 := n13_; clear n0_ n1_ n2_ n3_ n4_ n5_ n6_ n7_ n8_ n9_ n10_ n11_ n12_ n13_; clear hb hbox hg; have hnb21 := NB289_285.out; have hnc21 := NB285_289.out; have hnb22 := NB289_286.out; have hnc22 := NB286_289.out; have hnb23 := NB289_287.out; have hnc23 := NB287_289.out; have hcz24_0 : w20.cell? ⟨gb289, 0, none⟩ = some (.int .i64 0) := (blk_cell BK289.out 0).trans rfl; have hfz24_0 := blk_frozen BK289.out 0) | ((with_reducible refine gate_callee (f := 86) rfl ?_); refine goesL_ (some 23) rfl rfl Tryd.func86 (by kernel_rfl) rfl #[.int .i64 (rd l0 x17_1)] rfl (by (try simp only [List.map_toArray, List.map_cons, List.map_nil]); first | done | rfl | (simp only [List.length_drop, List.length_take]; rfl)) ?_; (with_reducible refine (impl_charClass.calls k1 (rd l0 x17_1) t290 _ A18.out).mono ?_); rintro e w' ⟨rfl, ⟨nd, rfl⟩⟩; refine ⟨_, rfl, ?_⟩) | ((with_reducible refine gate_dst (N := 9) rfl ?_); refine box_event ?hg (N := 9) ?hd (cs := #[.int .i64 0]) (t := 3) ?hr ?_; (case hd => rfl); (case hg => rfl); (case hr => first | (go_simp; done) | (go_simp; rfl)); intro gb291 hg w25 hbox hb; have n0_ := Aside0.mk (Kd.R_below (by (with_reducible repeat (first | apply Kd.R_alloc | apply Kd.R_drewN | apply Kd.R_drew)); exact (Kd.R_mono (Kd.R_far (p := ⟨gb289, 0, none⟩) (Kd.R_types HO_3.out BK289.out (by decide)) (fun _ hk => hk.2) (.int .i64 (rd l0 x17_1))) (fun _ h_ => h_.1))) hb); have n1_ := Aside0.mk (blk_below (g := gb285) (o := .cells #[.bool x286000_1] 4 (0, 0)) (by (with_reducible repeat (first | refine blk_drewN ?_ _ | refine blk_drew ?_ | refine blk_alloc ?_ _)); refine blk_far ?_ NB285_289.out _; (with_reducible repeat (first | refine blk_drewN ?_ _ | refine blk_drew ?_ | refine blk_alloc ?_ _)); exact BK285.out) hb); have n2_ := Aside0.mk (blk_below (g := gb286) (o := .cells #[.bool x287000_1] 4 (0, 0)) (by (with_reducible repeat (first | refine blk_drewN ?_ _ | refine blk_drew ?_ | refine blk_alloc ?_ _)); refine blk_far ?_ NB286_289.out _; (with_reducible repeat (first | refine blk_drewN ?_ _ | refine blk_drew ?_ | refine blk_alloc ?_ _)); exact BK286.out) hb); have n3_ := Aside0.mk (blk_below (g := gb287) (o := .cells #[.int .i64 x288000_1] 3 (0, 0)) (by (with_reducible repeat (first | refine blk_drewN ?_ _ | refine blk_drew ?_ | refine blk_alloc ?_ _)); refine blk_far ?_ NB287_289.out _; (with_reducible repeat (first | refine blk_drewN ?_ _ | refine blk_drew ?_ | refine blk_alloc ?_ _)); exact BK287.out) hb); have n4_ := Aside0.mk (blk_below (g := gb289) (o := .cells #[.int .i64 (rd l0 x17_1)] 2 (0, 0)) (by (with_reducible repeat (first | refine blk_drewN ?_ _ | refine blk_drew ?_ | refine blk_alloc ?_ _)); refine blk_put (cs := #[.int .i64 0]) ?_ 0 _ rfl; (with_reducible repeat (first | refine blk_drewN ?_ _ | refine blk_drew ?_ | refine blk_alloc ?_ _)); exact BK289.out) hb); have n5_ := Aside0.mk (below_step (by repeat (first | (with_reducible first | exact HB.out | apply below_alloc | apply pw_below_drewN | apply below_drew1 | refine below_set ?_ GE285.out | refine below_set ?_ GE286.out | refine below_set ?_ GE287.out | refine below_set ?_ GE289.out) | exact HB.out)) hb); have n6_ := Aside0.mk (hbox); have n7_ := Aside0.mk ((by rw [hg]; exact (below_size (by repeat (first | (with_reducible first | exact HB.out | apply below_alloc | apply pw_below_drewN | apply below_drew1 | refine below_set ?_ GE285.out | refine below_set ?_ GE286.out | refine below_set ?_ GE287.out | refine below_set ?_ GE289.out) | exact HB.out))) : w.heap.size ≤ gb291)); have n8_ := Aside0.mk ((by rw [hg]; exact (below_size (by repeat (first | (with_reducible first | exact HB.out | apply below_alloc | apply pw_below_drewN | apply below_drew1 | refine below_set ?_ GE285.out | refine below_set ?_ GE286.out | refine below_set ?_ GE287.out | refine below_set ?_ GE289.out) | exact HB.out))) : w.heap.size ≤ gb291)); have n9_ := Aside0.mk ((by rw [hg]; exact Nat.ne_of_lt (blk_lt (g := gb285) (o := .cells #[.bool x286000_1] 4 (0, 0)) (by (with_reducible repeat (first | refine blk_drewN ?_ _ | refine blk_drew ?_ | refine blk_alloc ?_ _)); refine blk_far ?_ NB285_289.out _; (with_reducible repeat (first | refine blk_drewN ?_ _ | refine blk_drew ?_ | refine blk_alloc ?_ _)); exact BK285.out)) : gb285 ≠ gb291)); have n10_ := Aside0.mk ((by rw [hg]; exact Nat.ne_of_gt (blk_lt (g := gb285) (o := .cells #[.bool x286000_1] 4 (0, 0)) (by (with_reducible repeat (first | refine blk_drewN ?_ _ | refine blk_drew ?_ | refine blk_alloc ?_ _)); refine blk_far ?_ NB285_289.out _; (with_reducible repeat (first | refine blk_drewN ?_ _ | refine blk_drew ?_ | refine blk_alloc ?_ _)); exact BK285.out)) : gb291 ≠ gb285)); have n11_ := Aside0.mk ((by rw [hg]; exact Nat.ne_of_lt (blk_lt (g := gb286) (o := .cells #[.bool x287000_1] 4 (0, 0)) (by (with_reducible repeat (first | refine blk_drewN ?_ _ | refine blk_drew ?_ | refine blk_alloc ?_ _)); refine blk_far ?_ NB286_289.out _; (with_reducible repeat (first | refine blk_drewN ?_ _ | refine blk_drew ?_ | refine blk_alloc ?_ _)); exact BK286.out)) : gb286 ≠ gb291)); have n12_ := Aside0.mk ((by rw [hg]; exact Nat.ne_of_gt (blk_lt (g := gb286) (o := .cells #[.bool x287000_1] 4 (0, 0)) (by (with_reducible repeat (first | refine blk_drewN ?_ _ | refine blk_drew ?_ | refine blk_alloc ?_ _)); refine blk_far ?_ NB286_289.out _; (with_reducible repeat (first | refine blk_drewN ?_ _ | refine blk_drew ?_ | refine blk_alloc ?_ _)); exact BK286.out)) : gb291 ≠ gb286)); have n13_ := Aside0.mk ((by rw [hg]; exact Nat.ne_of_lt (blk_lt (g := gb287) (o := .cells #[.int .i64 x288000_1] 3 (0, 0)) (by (with_reducible repeat (first | refine blk_drewN ?_ _ | refine blk_drew ?_ | refine blk_alloc ?_ _)); refine blk_far ?_ NB287_289.out _; (with_reducible repeat (first | refine blk_drewN ?_ _ | refine blk_drew ?_ | refine blk_alloc ?_ _)); exact BK287.out)) : gb287 ≠ gb291)); have n14_ := Aside0.mk ((by rw [hg]; exact Nat.ne_of_gt (blk_lt (g := gb287) (o := .cells #[.int .i64 x288000_1] 3 (0, 0)) (by (with_reducible repeat (first | refine blk_drewN ?_ _ | refine blk_drew ?_ | refine blk_alloc ?_ _)); refine blk_far ?_ NB287_289.out _; (with_reducible repeat (first | refine blk_drewN ?_ _ | refine blk_drew ?_ | refine blk_alloc ?_ _)); exact BK287.out)) : gb291 ≠ gb287)); have n15_ := Aside0.mk ((by rw [hg]; exact Nat.ne_of_lt (blk_lt (g := gb289) (o := .cells #[.int .i64 (rd l0 x17_1)] 2 (0, 0)) (by (with_reducible repeat (first | refine blk_drewN ?_ _ | refine blk_drew ?_ | refine blk_alloc ?_ _)); refine blk_put (cs := #[.int .i64 0]) ?_ 0 _ rfl; (with_reducible repeat (first | refine blk_drewN ?_ _ | refine blk_drew ?_ | refine blk_alloc ?_ _)); exact BK289.out)) : gb289 ≠ gb291)); have n16_ := Aside0.mk ((by rw [hg]; exact Nat.ne_of_gt (blk_lt (g := gb289) (o := .cells #[.int .i64 (rd l0 x17_1)] 2 (0, 0)) (by (with_reducible repeat (first | refine blk_drewN ?_ _ | refine blk_drew ?_ | refine blk_alloc ?_ _)); refine blk_put (cs := #[.int .i64 0]) ?_ 0 _ rfl; (with_reducible repeat (first | refine blk_drewN ?_ _ | refine blk_drew ?_ | refine blk_alloc ?_ _)); exact BK289.out)) : gb291 ≠ gb289)); clear HO_3; clear BK285; clear BK286; clear BK287; clear BK289; clear HB; have HO_3 := n0_; have BK285 := n1_; have BK286 := n2_; have BK287 := n3_; have BK289 := n4_; have HB := n5_; have BK291 := n6_; have GW291 := n7_; have GE291 := n8_; have NB285_291 := n9_; have NB291_285 := n10_; have NB286_291 := n11_; have NB291_286 := n12_; have NB287_291 := n13_; have NB291_287 := n14_; have NB289_291 := n15_; have NB291_289 := n16_; clear n0_ n1_ n2_ n3_ n4_ n5_ n6_ n7_ n8_ n9_ n10_ n11_ n12_ n13_ n14_ n15_ n16_; clear hb hbox hg; have hnb26 := NB291_285.out; have hnc26 := NB285_291.out; have hnb27 := NB291_286.out; have hnc27 := NB286_291.out; have hnb28 := NB291_287.out; have hnc28 := NB287_291.out; have hnb29 := NB291_289.out; have hnc29 := NB289_291.out; have hcz30_0 : w25.cell? ⟨gb291, 0, none⟩ = some (.int .i64 0) := (blk_cell BK291.out 0).trans rfl; have hfz30_0 := blk_frozen BK291.out 0))
                (try simp only [Act.put, List.setIfInBounds_toArray, List.set_cons_zero, List.set_cons_succ])
                go_cut [] (fun wc => ∃ (kq : Nat) (x3_18 : List Bool), Aside0 (impl_charCuts.j1 kq l0 x3_18 l0 (l0.length : Int) x17_1 x286000_1 x287000_1 x288000_1 (rd l0 x17_1) t290 = some r) ∧ Aside0 (kq ≤ k1) ∧ Aside0 (Kd.R Kd.bool 4 wc w.heap.size (fun k_ => k_ ≠ gb285 ∧ k_ ≠ gb286) v283 x3_18) ∧ Aside0 (wc.heap[gb285]? = some (.cells #[.bool x286000_1] 4 (0, 0))) ∧ Aside0 (wc.heap[gb286]? = some (.cells #[.bool x287000_1] 4 (0, 0))) ∧ Aside0 (wc.heap[gb287]? = some (.cells #[.int .i64 x288000_1] 3 (0, 0))) ∧ Aside0 (wc.heap[gb289]? = some (.cells #[.int .i64 (rd l0 x17_1)] 2 (0, 0))) ∧ Aside0 (wc.heap[gb291]? = some (.cells #[.int .i64 t290] 3 (0, 0))) ∧ Aside0 (Below w.heap.size w wc))
                case first =>
                  have H := HC19.out
                  clear HC19
                  by_cases c31 : x17_1 > 0
                  · rw [if_pos c31] at H
                    have c31b0 : decide (0 < x17_1) = true := decide_eq_true c31
                    clear c31
                    (first | rw [c31b0] | (simp only [i64_w, i32_w]; rw [c31b0]) | skip)
                    obtain ⟨ji32, hji32⟩ : ∃ j_ : Int, (wrap64 (x17_1 - 1)) = j_ := ⟨_, rfl⟩
                    replace H : (if 0 ≤ (ji32) then (if (ji32) < (l0.length : Int) then ((impl_charClass.f k1 (rd l0 (ji32))).bind fun t294 => ((impl_charCuts_1.f k1 (rd l0 (ji32)) (rd l0 x17_1) t290 t294 x287000_1 x286000_1 x288000_1).bind fun t296 => (if x17_1 < (x3_1.length : Int) then (impl_charCuts.j1 k1 l0 (x3_1.set (x17_1 : Int).toNat t296) l0 (l0.length : Int) x17_1 x286000_1 x287000_1 x288000_1 (rd l0 x17_1) t290) else (none)))) else (none)) else (none)) = some r := by first | (rw [hji32] at H; exact H) | (simp only [hji32] at H ⊢; exact H)
                    have hji32w : (IntKind.i64.wrap (x17_1 - 1)) = ji32 := (i64_w _).trans hji32
                    by_cases c33 : 0 ≤ (ji32)
                    · rw [if_pos c33] at H
                      have c33b0 : decide (0 ≤ (ji32)) = true := decide_eq_true c33
                      clear c33
                      by_cases c34 : (ji32) < (l0.length : Int)
                      · rw [if_pos c34] at H
                        have c34b0 : decide ((ji32) < (l0.length : Int)) = true := decide_eq_true c34
                        clear c34
                        replace H := Option.bind_eq_some_iff.mp H
                        obtain ⟨t294, A350, H⟩ := H
                        replace H : ((impl_charCuts_1.f k1 (rd l0 (ji32)) (rd l0 x17_1) t290 t294 x287000_1 x286000_1 x288000_1).bind fun t296 => (if x17_1 < (x3_1.length : Int) then (impl_charCuts.j1 k1 l0 (x3_1.set (x17_1 : Int).toNat t296) l0 (l0.length : Int) x17_1 x286000_1 x287000_1 x288000_1 (rd l0 x17_1) t290) else (none))) = some r := H
                        have A35 := Aside0.mk A350
                        clear A350
                        replace H := Option.bind_eq_some_iff.mp H
                        obtain ⟨t296, A360, H⟩ := H
                        replace H : (if x17_1 < (x3_1.length : Int) then (impl_charCuts.j1 k1 l0 (x3_1.set (x17_1 : Int).toNat t296) l0 (l0.length : Int) x17_1 x286000_1 x287000_1 x288000_1 (rd l0 x17_1) t290) else (none)) = some r := H
                        have A36 := Aside0.mk A360
                        clear A360
                        by_cases c37 : x17_1 < (x3_1.length : Int)
                        · rw [if_pos c37] at H
                          have c37b0 : decide (x17_1 < (x3_1.length : Int)) = true := decide_eq_true c37
                          clear c37
                          obtain ⟨y297, hy297⟩ : ∃ y_ : List Bool, y_ = (x3_1.set (x17_1 : Int).toNat t296) := ⟨_, rfl⟩
                          replace H : (impl_charCuts.j1 k1 l0 y297 l0 (l0.length : Int) x17_1 x286000_1 x287000_1 x288000_1 (rd l0 x17_1) t290) = some r := by first | (rw [hy297]; with_reducible exact H) | (have H2_ := (Option.bind_some _ _).symm.trans H; rw [hy297]; with_reducible exact H2_) | (have H2_ := (Option.bind_some _ _).symm.trans H; with_reducible exact H2_) | with_reducible exact H | (rw [hy297]; exact H) | exact H
                          have Ny297 := Aside0.mk hy297
                          clear hy297
                          have H' := Aside0.mk H
                          clear H
                          have p292 : 0 ≤ ((ji32) : Int) := of_decide_eq_true (by first | (with_reducible assumption) | assumption)
                          have q292 : (ji32) < (l0.length : Int) := of_decide_eq_true (by first | (with_reducible assumption) | assumption)
                          obtain ⟨ad292, e292, hx292_0⟩ := Kd.at_int HR0.out (ji32) p292 q292
                          obtain rfl : ad288 = ad292 := (by injection e292)
                          have hn292_0 : ad288.block ≠ gb291 := Nat.ne_of_lt (Nat.lt_of_lt_of_le (by have := World.block_lt_of_cell? _ _ hx292_0; first | rwa [add_block] at this | exact this) GW291.out)
                          replace hx292_0 := (HB.out.cell (World.block_lt_of_cell? w _ hx292_0)).trans hx292_0
                          replace hx292_0 := (cell_far (p := ⟨gb291, 0, none⟩) (by first | (rw [add_block]; exact hn292_0) | (show (Addr.add _ _).block ≠ _; rw [add_block]; exact hn292_0) | exact hn292_0) (.int .i64 t290)).trans hx292_0
                          clear hn292_0
                          replace p292 := eq_true p292
                          replace q292 := eq_true q292
                          go_wp2_with (first | ((with_reducible refine gate_dst (N := 10) rfl ?_); refine box_event ?hg (N := 10) ?hd (cs := #[.int .i64 0]) (t := 2) ?hr ?_; (case hd => rfl); (case hg => rfl); (case hr => first | (go_simp; done) | (go_simp; rfl)); intro gb293 hg w39 hbox hb; have n0_ := Aside0.mk (Kd.R_below (by (with_reducible repeat (first | apply Kd.R_alloc | apply Kd.R_drewN | apply Kd.R_drew)); exact (Kd.R_mono (Kd.R_far (p := ⟨gb291, 0, none⟩) (Kd.R_types HO_3.out BK291.out (by decide)) (fun _ hk => hk.2) (.int .i64 t290)) (fun _ h_ => h_.1))) hb); have n1_ := Aside0.mk (blk_below (g := gb285) (o := .cells #[.bool x286000_1] 4 (0, 0)) (by (with_reducible repeat (first | refine blk_drewN ?_ _ | refine blk_drew ?_ | refine blk_alloc ?_ _)); refine blk_far ?_ NB285_291.out _; (with_reducible repeat (first | refine blk_drewN ?_ _ | refine blk_drew ?_ | refine blk_alloc ?_ _)); exact BK285.out) hb); have n2_ := Aside0.mk (blk_below (g := gb286) (o := .cells #[.bool x287000_1] 4 (0, 0)) (by (with_reducible repeat (first | refine blk_drewN ?_ _ | refine blk_drew ?_ | refine blk_alloc ?_ _)); refine blk_far ?_ NB286_291.out _; (with_reducible repeat (first | refine blk_drewN ?_ _ | refine blk_drew ?_ | refine blk_alloc ?_ _)); exact BK286.out) hb); have n3_ := Aside0.mk (blk_below (g := gb287) (o := .cells #[.int .i64 x288000_1] 3 (0, 0)) (by (with_reducible repeat (first | refine blk_drewN ?_ _ | refine blk_drew ?_ | refine blk_alloc ?_ _)); refine blk_far ?_ NB287_291.out _; (with_reducible repeat (first | refine blk_drewN ?_ _ | refine blk_drew ?_ | refine blk_alloc ?_ _)); exact BK287.out) hb); have n4_ := Aside0.mk (blk_below (g := gb289) (o := .cells #[.int .i64 (rd l0 x17_1)] 2 (0, 0)) (by (with_reducible repeat (first | refine blk_drewN ?_ _ | refine blk_drew ?_ | refine blk_alloc ?_ _)); refine blk_far ?_ NB289_291.out _; (with_reducible repeat (first | refine blk_drewN ?_ _ | refine blk_drew ?_ | refine blk_alloc ?_ _)); exact BK289.out) hb); have n5_ := Aside0.mk (blk_below (g := gb291) (o := .cells #[.int .i64 t290] 3 (0, 0)) (by (with_reducible repeat (first | refine blk_drewN ?_ _ | refine blk_drew ?_ | refine blk_alloc ?_ _)); refine blk_put (cs := #[.int .i64 0]) ?_ 0 _ rfl; (with_reducible repeat (first | refine blk_drewN ?_ _ | refine blk_drew ?_ | refine blk_alloc ?_ _)); exact BK291.out) hb); have n6_ := Aside0.mk (below_step (by repeat (first | (with_reducible first | exact HB.out | apply below_alloc | apply pw_below_drewN | apply below_drew1 | refine below_set ?_ GE285.out | refine below_set ?_ GE286.out | refine below_set ?_ GE287.out | refine below_set ?_ GE289.out | refine below_set ?_ GE291.out) | exact HB.out)) hb); have n7_ := Aside0.mk (hbox); have n8_ := Aside0.mk ((by rw [hg]; exact (below_size (by repeat (first | (with_reducible first | exact HB.out | apply below_alloc | apply pw_below_drewN | apply below_drew1 | refine below_set ?_ GE285.out | refine below_set ?_ GE286.out | refine below_set ?_ GE287.out | refine below_set ?_ GE289.out | refine below_set ?_ GE291.out) | exact HB.out))) : w.heap.size ≤ gb293)); have n9_ := Aside0.mk ((by rw [hg]; exact (below_size (by repeat (first | (with_reducible first | exact HB.out | apply below_alloc | apply pw_below_drewN | apply below_drew1 | refine below_set ?_ GE285.out | refine below_set ?_ GE286.out | refine below_set ?_ GE287.out | refine below_set ?_ GE289.out | refine below_set ?_ GE291.out) | exact HB.out))) : w.heap.size ≤ gb293)); have n10_ := Aside0.mk ((by rw [hg]; exact Nat.ne_of_lt (blk_lt (g := gb285) (o := .cells #[.bool x286000_1] 4 (0, 0)) (by (with_reducible repeat (first | refine blk_drewN ?_ _ | refine blk_drew ?_ | refine blk_alloc ?_ _)); refine blk_far ?_ NB285_291.out _; (with_reducible repeat (first | refine blk_drewN ?_ _ | refine blk_drew ?_ | refine blk_alloc ?_ _)); exact BK285.out)) : gb285 ≠ gb293)); have n11_ := Aside0.mk ((by rw [hg]; exact Nat.ne_of_gt (blk_lt (g := gb285) (o := .cells #[.bool x286000_1] 4 (0, 0)) (by (with_reducible repeat (first | refine blk_drewN ?_ _ | refine blk_drew ?_ | refine blk_alloc ?_ _)); refine blk_far ?_ NB285_291.out _; (with_reducible repeat (first | refine blk_drewN ?_ _ | refine blk_drew ?_ | refine blk_alloc ?_ _)); exact BK285.out)) : gb293 ≠ gb285)); have n12_ := Aside0.mk ((by rw [hg]; exact Nat.ne_of_lt (blk_lt (g := gb286) (o := .cells #[.bool x287000_1] 4 (0, 0)) (by (with_reducible repeat (first | refine blk_drewN ?_ _ | refine blk_drew ?_ | refine blk_alloc ?_ _)); refine blk_far ?_ NB286_291.out _; (with_reducible repeat (first | refine blk_drewN ?_ _ | refine blk_drew ?_ | refine blk_alloc ?_ _)); exact BK286.out)) : gb286 ≠ gb293)); have n13_ := Aside0.mk ((by rw [hg]; exact Nat.ne_of_gt (blk_lt (g := gb286) (o := .cells #[.bool x287000_1] 4 (0, 0)) (by (with_reducible repeat (first | refine blk_drewN ?_ _ | refine blk_drew ?_ | refine blk_alloc ?_ _)); refine blk_far ?_ NB286_291.out _; (with_reducible repeat (first | refine blk_drewN ?_ _ | refine blk_drew ?_ | refine blk_alloc ?_ _)); exact BK286.out)) : gb293 ≠ gb286)); have n14_ := Aside0.mk ((by rw [hg]; exact Nat.ne_of_lt (blk_lt (g := gb287) (o := .cells #[.int .i64 x288000_1] 3 (0, 0)) (by (with_reducible repeat (first | refine blk_drewN ?_ _ | refine blk_drew ?_ | refine blk_alloc ?_ _)); refine blk_far ?_ NB287_291.out _; (with_reducible repeat (first | refine blk_drewN ?_ _ | refine blk_drew ?_ | refine blk_alloc ?_ _)); exact BK287.out)) : gb287 ≠ gb293)); have n15_ := Aside0.mk ((by rw [hg]; exact Nat.ne_of_gt (blk_lt (g := gb287) (o := .cells #[.int .i64 x288000_1] 3 (0, 0)) (by (with_reducible repeat (first | refine blk_drewN ?_ _ | refine blk_drew ?_ | refine blk_alloc ?_ _)); refine blk_far ?_ NB287_291.out _; (with_reducible repeat (first | refine blk_drewN ?_ _ | refine blk_drew ?_ | refine blk_alloc ?_ _)); exact BK287.out)) : gb293 ≠ gb287)); have n16_ := Aside0.mk ((by rw [hg]; exact Nat.ne_of_lt (blk_lt (g := gb289) (o := .cells #[.int .i64 (rd l0 x17_1)] 2 (0, 0)) (by (with_reducible repeat (first | refine blk_drewN ?_ _ | refine blk_drew ?_ | refine blk_alloc ?_ _)); refine blk_far ?_ NB289_291.out _; (with_reducible repeat (first | refine blk_drewN ?_ _ | refine blk_drew ?_ | refine blk_alloc ?_ _)); exact BK289.out)) : gb289 ≠ gb293)); have n17_ := Aside0.mk ((by rw [hg]; exact Nat.ne_of_gt (blk_lt (g := gb289) (o := .cells #[.int .i64 (rd l0 x17_1)] 2 (0, 0)) (by (with_reducible repeat (first | refine blk_drewN ?_ _ | refine blk_drew ?_ | refine blk_alloc ?_ _)); refine blk_far ?_ NB289_291.out _; (with_reducible repeat (first | refine blk_drewN ?_ _ | refine blk_drew ?_ | refine blk_alloc ?_ _)); exact BK289.out)) : gb293 ≠ gb289)); have n18_ := Aside0.mk ((by rw [hg]; exact Nat.ne_of_lt (blk_lt (g := gb291) (o := .cells #[.int .i64 t290] 3 (0, 0)) (by (with_reducible repeat (first | refine blk_drewN ?_ _ | refine blk_drew ?_ | refine blk_alloc ?_ _)); refine blk_put (cs := #[.int .i64 0]) ?_ 0 _ rfl; (with_reducible repeat (first | refine blk_drewN ?_ _ | refine blk_drew ?_ | refine blk_alloc ?_ _)); exact BK291.out)) : gb291 ≠ gb293)); have n19_ := Aside0.mk ((by rw [hg]; exact Nat.ne_of_gt (blk_lt (g := gb291) (o := .cells #[.int .i64 t290] 3 (0, 0)) (by (with_reducible repeat (first | refine blk_drewN ?_ _ | refine blk_drew ?_ | refine blk_alloc ?_ _)); refine blk_put (cs := #[.int .i64 0]) ?_ 0 _ rfl; (with_reducible repeat (first | refine blk_drewN ?_ _ | refine blk_drew ?_ | refine blk_alloc ?_ _)); exact BK291.out)) : gb293 ≠ gb291)); clear HO_3; clear BK285; clear BK286; clear BK287; clear BK289; clear BK291; clear HB; have HO_3 := n0_; have BK285 := n1_; have BK286 := n2_; have BK287 := n3_; have BK289 := n4_; have BK291 := n5_; have HB := n6_; have BK293 := n7_; have GW293 := n8_; have GE293 := n9_; have NB285_293 := n10_; have NB293_285 := n11_; have NB286_293 := n12_; have NB293_286 := n13_; have NB287_293 := n14_; have NB293_287 := n15_; have NB289_293 := n16_; have NB293_289 := n17_; have NB291_293 := n18_; have NB293_291 := n19_; clear n0_ n1_ n2_ n3_ n4_ n5_ n6_ n7_ n8_ n9_ n10_ n11_ n12_ n13_ n14_ n15_ n16_ n17_ n18_ n19_; clear hb hbox hg; have hnb40 := NB293_285.out; have hnc40 := NB285_293.out; have hnb41 := NB293_286.out; have hnc41 := NB286_293.out; have hnb42 := NB293_287.out; have hnc42 := NB287_293.out; have hnb43 := NB293_289.out; have hnc43 := NB289_293.out; have hnb44 := NB293_291.out; have hnc44 := NB291_293.out; have hcz45_0 : w39.cell? ⟨gb293, 0, none⟩ = some (.int .i64 0) := (blk_cell BK293.out 0).trans rfl; have hfz45_0 := blk_frozen BK293.out 0) | ((with_reducible refine gate_callee (f := 86) rfl ?_); refine goesL_ (some 32) rfl rfl Tryd.func86 (by kernel_rfl) rfl #[.int .i64 (rd l0 (ji32))] rfl (by (try simp only [List.map_toArray, List.map_cons, List.map_nil]); first | done | (simp only [hji32]; rfl) | rfl | (simp only [List.length_drop, List.length_take]; rfl)) ?_; (with_reducible refine (impl_charClass.calls k1 (rd l0 (ji32)) t294 _ A35.out).mono ?_); rintro e w' ⟨rfl, ⟨nd, rfl⟩⟩; refine ⟨_, rfl, ?_⟩) | ((with_reducible refine gate_dst (N := 11) rfl ?_); refine box_event ?hg (N := 11) ?hd (cs := #[.int .i64 0]) (t := 3) ?hr ?_; (case hd => rfl); (case hg => rfl); (case hr => first | (go_simp; done) | (go_simp; rfl)); intro gb295 hg w46 hbox hb; have n0_ := Aside0.mk (Kd.R_below (by (with_reducible repeat (first | apply Kd.R_alloc | apply Kd.R_drewN | apply Kd.R_drew)); exact (Kd.R_mono (Kd.R_far (p := ⟨gb293, 0, none⟩) (Kd.R_types HO_3.out BK293.out (by decide)) (fun _ hk => hk.2) (.int .i64 (rd l0 (ji32)))) (fun _ h_ => h_.1))) hb); have n1_ := Aside0.mk (blk_below (g := gb285) (o := .cells #[.bool x286000_1] 4 (0, 0)) (by (with_reducible repeat (first | refine blk_drewN ?_ _ | refine blk_drew ?_ | refine blk_alloc ?_ _)); refine blk_far ?_ NB285_293.out _; (with_reducible repeat (first | refine blk_drewN ?_ _ | refine blk_drew ?_ | refine blk_alloc ?_ _)); exact BK285.out) hb); have n2_ := Aside0.mk (blk_below (g := gb286) (o := .cells #[.bool x287000_1] 4 (0, 0)) (by (with_reducible repeat (first | refine blk_drewN ?_ _ | refine blk_drew ?_ | refine blk_alloc ?_ _)); refine blk_far ?_ NB286_293.out _; (with_reducible repeat (first | refine blk_drewN ?_ _ | refine blk_drew ?_ | refine blk_alloc ?_ _)); exact BK286.out) hb); have n3_ := Aside0.mk (blk_below (g := gb287) (o := .cells #[.int .i64 x288000_1] 3 (0, 0)) (by (with_reducible repeat (first | refine blk_drewN ?_ _ | refine blk_drew ?_ | refine blk_alloc ?_ _)); refine blk_far ?_ NB287_293.out _; (with_reducible repeat (first | refine blk_drewN ?_ _ | refine blk_drew ?_ | refine blk_alloc ?_ _)); exact BK287.out) hb); have n4_ := Aside0.mk (blk_below (g := gb289) (o := .cells #[.int .i64 (rd l0 x17_1)] 2 (0, 0)) (by (with_reducible repeat (first | refine blk_drewN ?_ _ | refine blk_drew ?_ | refine blk_alloc ?_ _)); refine blk_far ?_ NB289_293.out _; (with_reducible repeat (first | refine blk_drewN ?_ _ | refine blk_drew ?_ | refine blk_alloc ?_ _)); exact BK289.out) hb); have n5_ := Aside0.mk (blk_below (g := gb291) (o := .cells #[.int .i64 t290] 3 (0, 0)) (by (with_reducible repeat (first | refine blk_drewN ?_ _ | refine blk_drew ?_ | refine blk_alloc ?_ _)); refine blk_far ?_ NB291_293.out _; (with_reducible repeat (first | refine blk_drewN ?_ _ | refine blk_drew ?_ | refine blk_alloc ?_ _)); exact BK291.out) hb); have n6_ := Aside0.mk (blk_below (g := gb293) (o := .cells #[.int .i64 (rd l0 (ji32))] 2 (0, 0)) (by (with_reducible repeat (first | refine blk_drewN ?_ _ | refine blk_drew ?_ | refine blk_alloc ?_ _)); refine blk_put (cs := #[.int .i64 0]) ?_ 0 _ rfl; (with_reducible repeat (first | refine blk_drewN ?_ _ | refine blk_drew ?_ | refine blk_alloc ?_ _)); exact BK293.out) hb); have n7_ := Aside0.mk (below_step (by repeat (first | (with_reducible first | exact HB.out | apply below_alloc | apply pw_below_drewN | apply below_drew1 | refine below_set ?_ GE285.out | refine below_set ?_ GE286.out | refine below_set ?_ GE287.out | refine below_set ?_ GE289.out | refine below_set ?_ GE291.out | refine below_set ?_ GE293.out) | exact HB.out)) hb); have n8_ := Aside0.mk (hbox); have n9_ := Aside0.mk ((by rw [hg]; exact (below_size (by repeat (first | (with_reducible first | exact HB.out | apply below_alloc | apply pw_below_drewN | apply below_drew1 | refine below_set ?_ GE285.out | refine below_set ?_ GE286.out | refine below_set ?_ GE287.out | refine below_set ?_ GE289.out | refine below_set ?_ GE291.out | refine below_set ?_ GE293.out) | exact HB.out))) : w.heap.size ≤ gb295)); have n10_ := Aside0.mk ((by rw [hg]; exact (below_size (by repeat (first | (with_reducible first | exact HB.out | apply below_alloc | apply pw_below_drewN | apply below_drew1 | refine below_set ?_ GE285.out | refine below_set ?_ GE286.out | refine below_set ?_ GE287.out | refine below_set ?_ GE289.out | refine below_set ?_ GE291.out | refine below_set ?_ GE293.out) | exact HB.out))) : w.heap.size ≤ gb295)); have n11_ := Aside0.mk ((by rw [hg]; exact Nat.ne_of_lt (blk_lt (g := gb285) (o := .cells #[.bool x286000_1] 4 (0, 0)) (by (with_reducible repeat (first | refine blk_drewN ?_ _ | refine blk_drew ?_ | refine blk_alloc ?_ _)); refine blk_far ?_ NB285_293.out _; (with_reducible repeat (first | refine blk_drewN ?_ _ | refine blk_drew ?_ | refine blk_alloc ?_ _)); exact BK285.out)) : gb285 ≠ gb295)); have n12_ := Aside0.mk ((by rw [hg]; exact Nat.ne_of_gt (blk_lt (g := gb285) (o := .cells #[.bool x286000_1] 4 (0, 0)) (by (with_reducible repeat (first | refine blk_drewN ?_ _ | refine blk_drew ?_ | refine blk_alloc ?_ _)); refine blk_far ?_ NB285_293.out _; (with_reducible repeat (first | refine blk_drewN ?_ _ | refine blk_drew ?_ | refine blk_alloc ?_ _)); exact BK285.out)) : gb295 ≠ gb285)); have n13_ := Aside0.mk ((by rw [hg]; exact Nat.ne_of_lt (blk_lt (g := gb286) (o := .cells #[.bool x287000_1] 4 (0, 0)) (by (with_reducible repeat (first | refine blk_drewN ?_ _ | refine blk_drew ?_ | refine blk_alloc ?_ _)); refine blk_far ?_ NB286_293.out _; (with_reducible repeat (first | refine blk_drewN ?_ _ | refine blk_drew ?_ | refine blk_alloc ?_ _)); exact BK286.out)) : gb286 ≠ gb295)); have n14_ := Aside0.mk ((by rw [hg]; exact Nat.ne_of_gt (blk_lt (g := gb286) (o := .cells #[.bool x287000_1] 4 (0, 0)) (by (with_reducible repeat (first | refine blk_drewN ?_ _ | refine blk_drew ?_ | refine blk_alloc ?_ _)); refine blk_far ?_ NB286_293.out _; (with_reducible repeat (first | refine blk_drewN ?_ _ | refine blk_drew ?_ | refine blk_alloc ?_ _)); exact BK286.out)) : gb295 ≠ gb286)); have n15_ := Aside0.mk ((by rw [hg]; exact Nat.ne_of_lt (blk_lt (g := gb287) (o := .cells #[.int .i64 x288000_1] 3 (0, 0)) (by (with_reducible repeat (first | refine blk_drewN ?_ _ | refine blk_drew ?_ | refine blk_alloc ?_ _)); refine blk_far ?_ NB287_293.out _; (with_reducible repeat (first | refine blk_drewN ?_ _ | refine blk_drew ?_ | refine blk_alloc ?_ _)); exact BK287.out)) : gb287 ≠ gb295)); have n16_ := Aside0.mk ((by rw [hg]; exact Nat.ne_of_gt (blk_lt (g := gb287) (o := .cells #[.int .i64 x288000_1] 3 (0, 0)) (by (with_reducible repeat (first | refine blk_drewN ?_ _ | refine blk_drew ?_ | refine blk_alloc ?_ _)); refine blk_far ?_ NB287_293.out _; (with_reducible repeat (first | refine blk_drewN ?_ _ | refine blk_drew ?_ | refine blk_alloc ?_ _)); exact BK287.out)) : gb295 ≠ gb287)); have n17_ := Aside0.mk ((by rw [hg]; exact Nat.ne_of_lt (blk_lt (g := gb289) (o := .cells #[.int .i64 (rd l0 x17_1)] 2 (0, 0)) (by (with_reducible repeat (first | refine blk_drewN ?_ _ | refine blk_drew ?_ | refine blk_alloc ?_ _)); refine blk_far ?_ NB289_293.out _; (with_reducible repeat (first | refine blk_drewN ?_ _ | refine blk_drew ?_ | refine blk_alloc ?_ _)); exact BK289.out)) : gb289 ≠ gb295)); have n18_ := Aside0.mk ((by rw [hg]; exact Nat.ne_of_gt (blk_lt (g := gb289) (o := .cells #[.int .i64 (rd l0 x17_1)] 2 (0, 0)) (by (with_reducible repeat (first | refine blk_drewN ?_ _ | refine blk_drew ?_ | refine blk_alloc ?_ _)); refine blk_far ?_ NB289_293.out _; (with_reducible repeat (first | refine blk_drewN ?_ _ | refine blk_drew ?_ | refine blk_alloc ?_ _)); exact BK289.out)) : gb295 ≠ gb289)); have n19_ := Aside0.mk ((by rw [hg]; exact Nat.ne_of_lt (blk_lt (g := gb291) (o := .cells #[.int .i64 t290] 3 (0, 0)) (by (with_reducible repeat (first | refine blk_drewN ?_ _ | refine blk_drew ?_ | refine blk_alloc ?_ _)); refine blk_far ?_ NB291_293.out _; (with_reducible repeat (first | refine blk_drewN ?_ _ | refine blk_drew ?_ | refine blk_alloc ?_ _)); exact BK291.out)) : gb291 ≠ gb295)); have n20_ := Aside0.mk ((by rw [hg]; exact Nat.ne_of_gt (blk_lt (g := gb291) (o := .cells #[.int .i64 t290] 3 (0, 0)) (by (with_reducible repeat (first | refine blk_drewN ?_ _ | refine blk_drew ?_ | refine blk_alloc ?_ _)); refine blk_far ?_ NB291_293.out _; (with_reducible repeat (first | refine blk_drewN ?_ _ | refine blk_drew ?_ | refine blk_alloc ?_ _)); exact BK291.out)) : gb295 ≠ gb291)); have n21_ := Aside0.mk ((by rw [hg]; exact Nat.ne_of_lt (blk_lt (g := gb293) (o := .cells #[.int .i64 (rd l0 (ji32))] 2 (0, 0)) (by (with_reducible repeat (first | refine blk_drewN ?_ _ | refine blk_drew ?_ | refine blk_alloc ?_ _)); refine blk_put (cs := #[.int .i64 0]) ?_ 0 _ rfl; (with_reducible repeat (first | refine blk_drewN ?_ _ | refine blk_drew ?_ | refine blk_alloc ?_ _)); exact BK293.out)) : gb293 ≠ gb295)); have n22_ := Aside0.mk ((by rw [hg]; exact Nat.ne_of_gt (blk_lt (g := gb293) (o := .cells #[.int .i64 (rd l0 (ji32))] 2 (0, 0)) (by (with_reducible repeat (first | refine blk_drewN ?_ _ | refine blk_drew ?_ | refine blk_alloc ?_ _)); refine blk_put (cs := #[.int .i64 0]) ?_ 0 _ rfl; (with_reducible repeat (first | refine blk_drewN ?_ _ | refine blk_drew ?_ | refine blk_alloc ?_ _)); exact BK293.out)) : gb295 ≠ gb293)); clear HO_3; clear BK285; clear BK286; clear BK287; clear BK289; clear BK291; clear BK293; clear HB; have HO_3 := n0_; have BK285 := n1_; have BK286 := n2_; have BK287 := n3_; have BK289 := n4_; have BK291 := n5_; have BK293 := n6_; have HB := n7_; have BK295 := n8_; have GW295 := n9_; have GE295 := n10_; have NB285_295 := n11_; have NB295_285 := n12_; have NB286_295 := n13_; have NB295_286 := n14_; have NB287_295 := n15_; have NB295_287 := n16_; have NB289_295 := n17_; have NB295_289 := n18_; have NB291_295 := n19_; have NB295_291 := n20_; have NB293_295 := n21_; have NB295_293 := n22_; clear n0_ n1_ n2_ n3_ n4_ n5_ n6_ n7_ n8_ n9_ n10_ n11_ n12_ n13_ n14_ n15_ n16_ n17_ n18_ n19_ n20_ n21_ n22_; clear hb hbox hg; have hnb47 := NB295_285.out; have hnc47 := NB285_295.out; have hnb48 := NB295_286.out; have hnc48 := NB286_295.out; have hnb49 := NB295_287.out; have hnc49 := NB287_295.out; have hnb50 := NB295_289.out; have hnc50 := NB289_295.out; have hnb51 := NB295_291.out; have hnc51 := NB291_295.out; have hnb52 := NB295_293.out; have hnc52 := NB293_295.out; have hcz53_0 : w46.cell? ⟨gb295, 0, none⟩ = some (.int .i64 0) := (blk_cell BK295.out 0).trans rfl; have hfz53_0 := blk_frozen BK295.out 0) | ((with_reducible refine gate_store (t := 3) (p := 11) rfl ?_); refine store_event (t := 3) (p := 11) (v := ?vo_w54) (w1 := (w46.setCell ⟨gb295, 0, none⟩ (.int .i64 t294))) ?hg ?ho ?hn ?hr ?_; (case ho => rfl); (case hg => rfl); (case hn => rfl); (case hr => first | (go_simp; done) | (go_simp; rfl)); intro w54 hw; have n0_ : Aside0 (Kd.R Kd.bool 4 w54 w.heap.size (fun k_ => k_ ≠ gb285 ∧ k_ ≠ gb286) v283 x3_1) := ⟨(by rw [hw]; exact (by (with_reducible repeat (first | apply Kd.R_alloc | apply Kd.R_drewN | apply Kd.R_drew)); exact Kd.R_mono (Kd.R_far (p := ⟨gb295, 0, none⟩) (Kd.R_types HO_3.out BK295.out (by decide)) (fun _ hk => hk.2) (.int .i64 t294)) (fun _ hk => ⟨hk.1.1, hk.1.2⟩)))⟩; have n1_ : Aside0 (w54.heap[gb285]? = some (.cells #[.bool x286000_1] 4 (0, 0))) := ⟨(by rw [hw]; exact (by (with_reducible repeat (first | refine blk_drewN ?_ _ | refine blk_drew ?_ | refine blk_alloc ?_ _)); refine blk_far ?_ NB285_295.out _; (with_reducible repeat (first | refine blk_drewN ?_ _ | refine blk_drew ?_ | refine blk_alloc ?_ _)); exact BK285.out))⟩; have n2_ : Aside0 (w54.heap[gb286]? = some (.cells #[.bool x287000_1] 4 (0, 0))) := ⟨(by rw [hw]; exact (by (with_reducible repeat (first | refine blk_drewN ?_ _ | refine blk_drew ?_ | refine blk_alloc ?_ _)); refine blk_far ?_ NB286_295.out _; (with_reducible repeat (first | refine blk_drewN ?_ _ | refine blk_drew ?_ | refine blk_alloc ?_ _)); exact BK286.out))⟩; have n3_ : Aside0 (w54.heap[gb287]? = some (.cells #[.int .i64 x288000_1] 3 (0, 0))) := ⟨(by rw [hw]; exact (by (with_reducible repeat (first | refine blk_drewN ?_ _ | refine blk_drew ?_ | refine blk_alloc ?_ _)); refine blk_far ?_ NB287_295.out _; (with_reducible repeat (first | refine blk_drewN ?_ _ | refine blk_drew ?_ | refine blk_alloc ?_ _)); exact BK287.out))⟩; have n4_ : Aside0 (w54.heap[gb289]? = some (.cells #[.int .i64 (rd l0 x17_1)] 2 (0, 0))) := ⟨(by rw [hw]; exact (by (with_reducible repeat (first | refine blk_drewN ?_ _ | refine blk_drew ?_ | refine blk_alloc ?_ _)); refine blk_far ?_ NB289_295.out _; (with_reducible repeat (first | refine blk_drewN ?_ _ | refine blk_drew ?_ | refine blk_alloc ?_ _)); exact BK289.out))⟩; have n5_ : Aside0 (w54.heap[gb291]? = some (.cells #[.int .i64 t290] 3 (0, 0))) := ⟨(by rw [hw]; exact (by (with_reducible repeat (first | refine blk_drewN ?_ _ | refine blk_drew ?_ | refine blk_alloc ?_ _)); refine blk_far ?_ NB291_295.out _; (with_reducible repeat (first | refine blk_drewN ?_ _ | refine blk_drew ?_ | refine blk_alloc ?_ _)); exact BK291.out))⟩; have n6_ : Aside0 (w54.heap[gb293]? = some (.cells #[.int .i64 (rd l0 (ji32))] 2 (0, 0))) := ⟨(by rw [hw]; exact (by (with_reducible repeat (first | refine blk_drewN ?_ _ | refine blk_drew ?_ | refine blk_alloc ?_ _)); refine blk_far ?_ NB293_295.out _; (with_reducible repeat (first | refine blk_drewN ?_ _ | refine blk_drew ?_ | refine blk_alloc ?_ _)); exact BK293.out))⟩; have n7_ : Aside0 (w54.heap[gb295]? = some (.cells #[.int .i64 t294] 3 (0, 0))) := ⟨(by rw [hw]; exact (by (with_reducible repeat (first | refine blk_drewN ?_ _ | refine blk_drew ?_ | refine blk_alloc ?_ _)); refine blk_put (cs := #[.int .i64 0]) ?_ 0 _ rfl; (with_reducible repeat (first | refine blk_drewN ?_ _ | refine blk_drew ?_ | refine blk_alloc ?_ _)); exact BK295.out))⟩; have n8_ : Aside0 (Below w.heap.size w w54) := ⟨(by rw [hw]; exact (by repeat (first | (with_reducible first | exact HB.out | apply below_alloc | apply pw_below_drewN | apply below_drew1 | refine below_set ?_ GE285.out | refine below_set ?_ GE286.out | refine below_set ?_ GE287.out | refine below_set ?_ GE289.out | refine below_set ?_ GE291.out | refine below_set ?_ GE293.out | refine below_set ?_ GE295.out) | exact HB.out)))⟩; clear hw; clear HO_3; clear BK285; clear BK286; clear BK287; clear BK289; clear BK291; clear BK293; clear BK295; clear HB; have HO_3 := n0_; have BK285 := n1_; have BK286 := n2_; have BK287 := n3_; have BK289 := n4_; have BK291 := n5_; have BK293 := n6_; have BK295 := n7_; have HB := n8_; clear n0_ n1_ n2_ n3_ n4_ n5_ n6_ n7_ n8_; have hcz55_0 : w54.cell? ⟨gb293, 0, none⟩ = some (.int .i64 (rd l0 (ji32))) := (blk_cell BK293.out 0).trans rfl; have hfz55_0 := blk_frozen BK293.out 0; have hnb56 := NB289_285.out; have hnc56 := NB285_289.out; have hnb57 := NB289_286.out; have hnc57 := NB286_289.out; have hnb58 := NB289_287.out; have hnc58 := NB287_289.out; have hnb59 := NB289_291.out; have hnc59 := NB291_289.out; have hcz60_0 : w54.cell? ⟨gb289, 0, none⟩ = some (.int .i64 (rd l0 x17_1)) := (blk_cell BK289.out 0).trans rfl; have hfz60_0 := blk_frozen BK289.out 0; have hnb61 := NB291_285.out; have hnc61 := NB285_291.out; have hnb62 := NB291_286.out; have hnc62 := NB286_291.out; have hnb63 := NB291_287.out; have hnc63 := NB287_291.out; have hcz64_0 : w54.cell? ⟨gb291, 0, none⟩ = some (.int .i64 t290) := (blk_cell BK291.out 0).trans rfl; have hfz64_0 := blk_frozen BK291.out 0; have hcz65_0 : w54.cell? ⟨gb295, 0, none⟩ = some (.int .i64 t294) := (blk_cell BK295.out 0).trans rfl; have hfz65_0 := blk_frozen BK295.out 0; have hnb66 := NB286_285.out; have hnc66 := NB285_286.out; have hnb67 := NB286_287.out; have hnc67 := NB287_286.out; have hcz68_0 : w54.cell? ⟨gb286, 0, none⟩ = some (.bool x287000_1) := (blk_cell BK286.out 0).trans rfl; have hfz68_0 := blk_frozen BK286.out 0; have hnb69 := NB285_287.out; have hnc69 := NB287_285.out; have hcz70_0 : w54.cell? ⟨gb285, 0, none⟩ = some (.bool x286000_1) := (blk_cell BK285.out 0).trans rfl; have hfz70_0 := blk_frozen BK285.out 0; have hcz71_0 : w54.cell? ⟨gb287, 0, none⟩ = some (.int .i64 x288000_1) := (blk_cell BK287.out 0).trans rfl; have hfz71_0 := blk_frozen BK287.out 0) | (go_at_call 115; (with_reducible refine (impl_charCuts_1.calls k1 (rd l0 (ji32)) (rd l0 x17_1) t290 t294 x287000_1 x286000_1 x288000_1 t296 gb293 gb289 gb291 gb295 gb286 gb285 gb287 _ (by first | assumption | (simp; assumption) | (simp [*]; done)) (by first | assumption | (simp; assumption) | (simp [*]; done)) (by first | assumption | (simp; assumption) | (simp [*]; done)) (by first | assumption | (simp; assumption) | (simp [*]; done)) (by first | assumption | (simp; assumption) | (simp [*]; done)) (by first | assumption | (simp; assumption) | (simp [*]; done)) (by first | assumption | (simp; assumption) | (simp [*]; done)) A36.out).mono ?_); rintro e w' ⟨rfl, ⟨nd, rfl⟩⟩; (try (rw [drewN_self w54]; generalize hq_ : World.drewN w54 _ = w54; have n0_ : Aside0 (Kd.R Kd.bool 4 w54 w.heap.size (fun k_ => k_ ≠ gb285 ∧ k_ ≠ gb286) v283 x3_1) := ⟨by rw [← hq_]; exact (by (with_reducible repeat (first | apply Kd.R_alloc | apply Kd.R_drewN | apply Kd.R_drew)); exact HO_3.out)⟩; have n1_ : Aside0 (w54.heap[gb285]? = some (.cells #[.bool x286000_1] 4 (0, 0))) := ⟨by rw [← hq_]; exact (by (with_reducible repeat (first | refine blk_drewN ?_ _ | refine blk_drew ?_ | refine blk_alloc ?_ _)); exact BK285.out)⟩; have n2_ : Aside0 (w54.heap[gb286]? = some (.cells #[.bool x287000_1] 4 (0, 0))) := ⟨by rw [← hq_]; exact (by (with_reducible repeat (first | refine blk_drewN ?_ _ | refine blk_drew ?_ | refine blk_alloc ?_ _)); exact BK286.out)⟩; have n3_ : Aside0 (w54.heap[gb287]? = some (.cells #[.int .i64 x288000_1] 3 (0, 0))) := ⟨by rw [← hq_]; exact (by (with_reducible repeat (first | refine blk_drewN ?_ _ | refine blk_drew ?_ | refine blk_alloc ?_ _)); exact BK287.out)⟩; have n4_ : Aside0 (w54.heap[gb289]? = some (.cells #[.int .i64 (rd l0 x17_1)] 2 (0, 0))) := ⟨by rw [← hq_]; exact (by (with_reducible repeat (first | refine blk_drewN ?_ _ | refine blk_drew ?_ | refine blk_alloc ?_ _)); exact BK289.out)⟩; have n5_ : Aside0 (w54.heap[gb291]? = some (.cells #[.int .i64 t290] 3 (0, 0))) := ⟨by rw [← hq_]; exact (by (with_reducible repeat (first | refine blk_drewN ?_ _ | refine blk_drew ?_ | refine blk_alloc ?_ _)); exact BK291.out)⟩; have n6_ : Aside0 (w54.heap[gb293]? = some (.cells #[.int .i64 (rd l0 (ji32))] 2 (0, 0))) := ⟨by rw [← hq_]; exact (by (with_reducible repeat (first | refine blk_drewN ?_ _ | refine blk_drew ?_ | refine blk_alloc ?_ _)); exact BK293.out)⟩; have n7_ : Aside0 (w54.heap[gb295]? = some (.cells #[.int .i64 t294] 3 (0, 0))) := ⟨by rw [← hq_]; exact (by (with_reducible repeat (first | refine blk_drewN ?_ _ | refine blk_drew ?_ | refine blk_alloc ?_ _)); exact BK295.out)⟩; have n8_ : Aside0 (Below w.heap.size w w54) := ⟨by rw [← hq_]; exact (by repeat (first | (with_reducible first | exact HB.out | apply below_alloc | apply pw_below_drewN | apply below_drew1 | refine below_set ?_ GE285.out | refine below_set ?_ GE286.out | refine below_set ?_ GE287.out | refine below_set ?_ GE289.out | refine below_set ?_ GE291.out | refine below_set ?_ GE293.out | refine below_set ?_ GE295.out) | exact HB.out))⟩; clear HO_3 BK285 BK286 BK287 BK289 BK291 BK293 BK295 HB hq_; have HO_3 := n0_; have BK285 := n1_; have BK286 := n2_; have BK287 := n3_; have BK289 := n4_; have BK291 := n5_; have BK293 := n6_; have BK295 := n7_; have HB := n8_; clear n0_ n1_ n2_ n3_ n4_ n5_ n6_ n7_ n8_)); have p38 : 0 ≤ (x17_1 : Int) := of_decide_eq_true (by first | (with_reducible assumption) | assumption); have q38 : (x17_1 : Int) < ((x3_1.length : Int) : Int) := of_decide_eq_true (by first | (with_reducible assumption) | assumption); obtain ⟨go38, co38, eo38, gb38, gl38, cl38, HG38⟩ := Kd.R_form HO_3.out (by omega); (first | cases eo38 | (injection eo38 with ea_ en_ ec_; (first | subst ea_ | (injection ea_ with ea_; subst ea_)); subst ec_; clear en_)); have GB38 := Aside0.mk gb38; have GG38 := Aside0.mk HG38; clear gb38 gl38 HG38; obtain ⟨hx38_0, hf38_0⟩ := Kd.R_celln false HO_3.out (x17_1 : Int) p38 q38; replace p38 := eq_true p38; replace q38 := eq_true q38; obtain ⟨hy72_, hz72_⟩ := Kd.R_celln false HO_3.out (x17_1 : Int) (of_decide_eq_true (by first | (with_reducible assumption) | assumption)) (of_decide_eq_true (by first | (with_reducible assumption) | assumption)); have HP72 := Kd.R_putg HO_3.out (x17_1 : Int) t296) | ((with_reducible refine gate_store (t := 4) (p := 37) rfl ?_); refine store_event (t := 4) (p := 37) (v := ?vo_w73) (w1 := (w54.setCell ⟨go38, (x17_1 : Int).toNat, none⟩ (.bool t296))) ?hg ?ho ?hn ?hr ?_; (case ho => rfl); (case hg => rfl); (case hn => rfl); (case hr => first | (go_simp; done) | (go_simp; rfl)); intro w73 hw; have hg : w54.grownBy w73 (some go38) := (by rw [hw]; exact HP72.2); have hp_ : Kd.R Kd.bool 4 w73 w.heap.size (fun k_ => k_ ≠ gb285 ∧ k_ ≠ gb286) (.slice (some ⟨go38, 0, none⟩) x3_1.length co38) y297 := (by rw [hw, Ny297.out]; exact HP72.1); clear HP72; have n0_ := Aside0.mk (hp_); have n1_ := Aside0.mk (blk_grown (g := gb285) (o := .cells #[.bool x286000_1] 4 (0, 0)) (by (with_reducible repeat (first | refine blk_drewN ?_ _ | refine blk_drew ?_ | refine blk_alloc ?_ _)); exact BK285.out) hg (Kd.R_away HO_3.out (fun _ hk => hk.1))); have n2_ := Aside0.mk (blk_grown (g := gb286) (o := .cells #[.bool x287000_1] 4 (0, 0)) (by (with_reducible repeat (first | refine blk_drewN ?_ _ | refine blk_drew ?_ | refine blk_alloc ?_ _)); exact BK286.out) hg (Kd.R_away HO_3.out (fun _ hk => hk.2))); have n3_ := Aside0.mk (blk_grown (g := gb287) (o := .cells #[.int .i64 x288000_1] 3 (0, 0)) (by (with_reducible repeat (first | refine blk_drewN ?_ _ | refine blk_drew ?_ | refine blk_alloc ?_ _)); exact BK287.out) hg (Kd.R_ne HO_3.out BK287.out (by decide))); have n4_ := Aside0.mk (blk_grown (g := gb289) (o := .cells #[.int .i64 (rd l0 x17_1)] 2 (0, 0)) (by (with_reducible repeat (first | refine blk_drewN ?_ _ | refine blk_drew ?_ | refine blk_alloc ?_ _)); exact BK289.out) hg (Kd.R_ne HO_3.out BK289.out (by decide))); have n5_ := Aside0.mk (blk_grown (g := gb291) (o := .cells #[.int .i64 t290] 3 (0, 0)) (by (with_reducible repeat (first | refine blk_drewN ?_ _ | refine blk_drew ?_ | refine blk_alloc ?_ _)); exact BK291.out) hg (Kd.R_ne HO_3.out BK291.out (by decide))); have n6_ := Aside0.mk (blk_grown (g := gb293) (o := .cells #[.int .i64 (rd l0 (ji32))] 2 (0, 0)) (by (with_reducible repeat (first | refine blk_drewN ?_ _ | refine blk_drew ?_ | refine blk_alloc ?_ _)); exact BK293.out) hg (Kd.R_ne HO_3.out BK293.out (by decide))); have n7_ := Aside0.mk (blk_grown (g := gb295) (o := .cells #[.int .i64 t294] 3 (0, 0)) (by (with_reducible repeat (first | refine blk_drewN ?_ _ | refine blk_drew ?_ | refine blk_alloc ?_ _)); exact BK295.out) hg (Kd.R_ne HO_3.out BK295.out (by decide))); have n8_ := Aside0.mk ((by rw [hw]; exact below_set (HB.out) GB38.out : Below w.heap.size w w73)); clear HO_3; clear BK285; clear BK286; clear BK287; clear BK289; clear BK291; clear BK293; clear BK295; clear HB; have HO_3 := n0_; have BK285 := n1_; have BK286 := n2_; have BK287 := n3_; have BK289 := n4_; have BK291 := n5_; have BK293 := n6_; have BK295 := n7_; have HB := n8_; clear n0_ n1_ n2_ n3_ n4_ n5_ n6_ n7_ n8_; clear hg hw hp_))
                          go_meet
                          case rel => exact ⟨_, (y297), H', ⟨by have := HK1.out; first | omega | exact Nat.le_refl _⟩, ⟨by (with_reducible repeat (first | apply Kd.R_alloc | apply Kd.R_drewN | apply Kd.R_drew)); exact HO_3.out⟩, ⟨by (with_reducible repeat (first | refine blk_drewN ?_ _ | refine blk_drew ?_ | refine blk_alloc ?_ _)); exact BK285.out⟩, ⟨by (with_reducible repeat (first | refine blk_drewN ?_ _ | refine blk_drew ?_ | refine blk_alloc ?_ _)); exact BK286.out⟩, ⟨by (with_reducible repeat (first | refine blk_drewN ?_ _ | refine blk_drew ?_ | refine blk_alloc ?_ _)); exact BK287.out⟩, ⟨by (with_reducible repeat (first | refine blk_drewN ?_ _ | refine blk_drew ?_ | refine blk_alloc ?_ _)); exact BK289.out⟩, ⟨by (with_reducible repeat (first | refine blk_drewN ?_ _ | refine blk_drew ?_ | refine blk_alloc ?_ _)); exact BK291.out⟩, ⟨by repeat (first | (with_reducible first | exact HB.out | apply below_alloc | apply pw_below_drewN | apply below_drew1 | refine below_set ?_ GE285.out | refine below_set ?_ GE286.out | refine below_set ?_ GE287.out | refine below_set ?_ GE289.out | refine below_set ?_ GE291.out | refine below_set ?_ GE293.out | refine below_set ?_ GE295.out) | exact HB.out)⟩⟩
                        · rw [if_neg c37] at H
                          exact absurd H (by simp)
                      · rw [if_neg c34] at H
                        exact absurd H (by simp)
                    · rw [if_neg c33] at H
                      exact absurd H (by simp)
                  · rw [if_neg c31] at H
                    have c31b0 : decide (0 < x17_1) = false := decide_eq_false c31
                    clear c31
                    (first | rw [c31b0] | (simp only [i64_w, i32_w]; rw [c31b0]) | skip)
                    have H' := Aside0.mk H
                    clear H
                    go_wp2
                    go_meet
                    case rel => exact ⟨_, (x3_1), H', ⟨by have := HK1.out; first | omega | exact Nat.le_refl _⟩, ⟨by (with_reducible repeat (first | apply Kd.R_alloc | apply Kd.R_drewN | apply Kd.R_drew)); exact Kd.R_mono (Kd.R_far (p := ⟨gb291, 0, none⟩) (Kd.R_types HO_3.out BK291.out (by decide)) (fun _ hk => hk.2) (.int .i64 t290)) (fun _ hk => ⟨hk.1.1, hk.1.2⟩)⟩, ⟨by (with_reducible repeat (first | refine blk_drewN ?_ _ | refine blk_drew ?_ | refine blk_alloc ?_ _)); refine blk_far ?_ NB285_291.out _; (with_reducible repeat (first | refine blk_drewN ?_ _ | refine blk_drew ?_ | refine blk_alloc ?_ _)); exact BK285.out⟩, ⟨by (with_reducible repeat (first | refine blk_drewN ?_ _ | refine blk_drew ?_ | refine blk_alloc ?_ _)); refine blk_far ?_ NB286_291.out _; (with_reducible repeat (first | refine blk_drewN ?_ _ | refine blk_drew ?_ | refine blk_alloc ?_ _)); exact BK286.out⟩, ⟨by (with_reducible repeat (first | refine blk_drewN ?_ _ | refine blk_drew ?_ | refine blk_alloc ?_ _)); refine blk_far ?_ NB287_291.out _; (with_reducible repeat (first | refine blk_drewN ?_ _ | refine blk_drew ?_ | refine blk_alloc ?_ _)); exact BK287.out⟩, ⟨by (with_reducible repeat (first | refine blk_drewN ?_ _ | refine blk_drew ?_ | refine blk_alloc ?_ _)); refine blk_far ?_ NB289_291.out _; (with_reducible repeat (first | refine blk_drewN ?_ _ | refine blk_drew ?_ | refine blk_alloc ?_ _)); exact BK289.out⟩, ⟨by (with_reducible repeat (first | refine blk_drewN ?_ _ | refine blk_drew ?_ | refine blk_alloc ?_ _)); refine blk_put (cs := #[.int .i64 0]) ?_ 0 _ rfl; (with_reducible repeat (first | refine blk_drewN ?_ _ | refine blk_drew ?_ | refine blk_alloc ?_ _)); exact BK291.out⟩, ⟨by repeat (first | (with_reducible first | exact HB.out | apply below_alloc | apply pw_below_drewN | apply below_drew1 | refine below_set ?_ GE285.out | refine below_set ?_ GE286.out | refine below_set ?_ GE287.out | refine below_set ?_ GE289.out | refine below_set ?_ GE291.out) | exact HB.out)⟩⟩
                case rest =>
                  clear HC19
                  try clear c1
                  try clear c2
                  try clear c2b0
                  try clear c2b1
                  try clear p2
                  try clear q2
                  try clear hx2
                  try clear c3
                  try clear c3b0
                  try clear c3b1
                  try clear p3
                  try clear q3
                  try clear hx3
                  try clear hf3
                  try clear c4
                  try clear c5
                  try clear c6
                  try clear p6
                  try clear c8
                  try clear c9
                  try clear c10
                  try clear c11
                  try clear c12
                  try clear c15
                  try clear c15b0
                  try clear c16
                  try clear c16b0
                  try clear c17
                  try clear c17b0
                  try clear c21
                  try clear c22
                  try clear c23
                  try clear c26
                  try clear c27
                  try clear c28
                  try clear p28
                  try clear q28
                  try clear hx28
                  try clear c29
                  try clear p29
                  try clear q29
                  try clear hx29
                  try clear c31
                  try clear c31b0
                  try clear c33
                  try clear c33b0
                  try clear c34
                  try clear c34b0
                  try clear c37
                  try clear c37b0
                  try clear p38
                  try clear q38
                  try clear hx38
                  try clear hf38
                  try clear c40
                  try clear c41
                  try clear c42
                  try clear c43
                  try clear c44
                  try clear c47
                  try clear c48
                  try clear c49
                  try clear c50
                  try clear c51
                  try clear c52
                  try clear c56
                  try clear c57
                  try clear c58
                  try clear c59
                  try clear c61
                  try clear c62
                  try clear c63
                  try clear p64
                  try clear c66
                  try clear c67
                  try clear c69
                  try clear hcz11_0
                  try clear hcz13_0
                  try clear hcz14_0
                  try clear hcz24_0
                  try clear hcz30_0
                  try clear hcz45_0
                  try clear hcz53_0
                  try clear hcz55_0
                  try clear hcz60_0
                  try clear hcz64_0
                  try clear hcz65_0
                  try clear hcz68_0
                  try clear hcz70_0
                  try clear hcz71_0
                  try clear hfz11_0
                  try clear hfz13_0
                  try clear hfz14_0
                  try clear hfz24_0
                  try clear hfz30_0
                  try clear hfz45_0
                  try clear hfz53_0
                  try clear hfz55_0
                  try clear hfz60_0
                  try clear hfz64_0
                  try clear hfz65_0
                  try clear hfz68_0
                  try clear hfz70_0
                  try clear hfz71_0
                  try clear hx288_0
                  try clear hx292_0
                  try clear hx38_0
                  try clear p2
                  try clear p288
                  try clear p292
                  try clear p38
                  try clear q288
                  try clear q292
                  try clear q38
                  obtain ⟨kq, x3_18, HA, HJ18, HO_3, BK285, BK286, BK287, BK289, BK291, HB⟩ := hcut
                  cases kq with
                  | zero => exact absurd HA.out (by simp [impl_charCuts.j1])
                  | succ kj18 =>
                    have H := HA.out
                    clear HA
                    simp only [impl_charCuts.j1] at H
                    by_cases c74 : t290 = 2
                    · rw [if_pos c74] at H
                      have c74b0 : (t290 == 2) = true := beq_iff_eq.mpr c74
                      have c74b1 : (t290 != 2) = false := bne_eq_false_iff_eq.mpr c74
                      clear c74
                      by_cases c75 : (rd l0 x17_1) = 1584
                      · rw [if_pos c75] at H
                        have c75b0 : ((rd l0 x17_1) == 1584) = true := beq_iff_eq.mpr c75
                        have c75b1 : ((rd l0 x17_1) != 1584) = false := bne_eq_false_iff_eq.mpr c75
                        clear c75
                        by_cases c76 : t290 = 9
                        · rw [if_pos c76] at H
                          have c76b0 : (t290 == 9) = true := beq_iff_eq.mpr c76
                          have c76b1 : (t290 != 9) = false := bne_eq_false_iff_eq.mpr c76
                          clear c76
                          have H' := Aside0.mk H
                          clear H
                          have hnb77 := NB291_285.out
                          have hnc77 := NB285_291.out
                          have hnb78 := NB291_286.out
                          have hnc78 := NB286_291.out
                          have hnb79 := NB291_287.out
                          have hnc79 := NB287_291.out
                          have hnb80 := NB291_289.out
                          have hnc80 := NB289_291.out
                          have hcz81_0 : wc.cell? ⟨gb291, 0, none⟩ = some (.int .i64 t290) := (blk_cell BK291.out 0).trans rfl
                          have hfz81_0 := blk_frozen BK291.out 0
                          have hnb82 := NB289_285.out
                          have hnc82 := NB285_289.out
                          have hnb83 := NB289_286.out
                          have hnc83 := NB286_289.out
                          have hnb84 := NB289_287.out
                          have hnc84 := NB287_289.out
                          have hcz85_0 : wc.cell? ⟨gb289, 0, none⟩ = some (.int .i64 (rd l0 x17_1)) := (blk_cell BK289.out 0).trans rfl
                          have hfz85_0 := blk_frozen BK289.out 0
                          have hnb86 := NB286_285.out
                          have hnc86 := NB285_286.out
                          have hnb87 := NB286_287.out
                          have hnc87 := NB287_286.out
                          have hcz88_0 : wc.cell? ⟨gb286, 0, none⟩ = some (.bool x287000_1) := (blk_cell BK286.out 0).trans rfl
                          have hfz88_0 := blk_frozen BK286.out 0
                          have hnb89 := NB287_285.out
                          have hnc89 := NB285_287.out
                          have hcz90_0 : wc.cell? ⟨gb287, 0, none⟩ = some (.int .i64 x288000_1) := (blk_cell BK287.out 0).trans rfl
                          have hfz90_0 := blk_frozen BK287.out 0
                          go_wp2
                          go_roundg kj18
                          case measure => have := HK1.out; have := HJ18.out; omega
                          case rel => exact ⟨(x3_18), (wrap64 (x17_1 + 1)), (x286000_1), (true), (wrap64 (x288000_1 + 1)), (by first | rfl | (simp; done) | (simp [*]; done)), H', ⟨by have := HK1.out; have := HJ18.out; omega⟩, ⟨by (with_reducible repeat (first | apply Kd.R_alloc | apply Kd.R_drewN | apply Kd.R_drew)); exact Kd.R_mono (Kd.R_far (p := ⟨gb287, 0, none⟩) (Kd.R_far (p := ⟨gb286, 0, none⟩) (Kd.R_types (Kd.R_mono HO_3.out (fun k_ hk => (⟨hk, hk.2⟩ : _ ∧ k_ ≠ gb286))) BK287.out (by decide)) (fun _ hk => hk.1.2) (.bool true)) (fun _ hk => hk.2) (.int .i64 (wrap64 (x288000_1 + 1)))) (fun _ hk => ⟨hk.1.1.1, hk.1.1.2⟩)⟩, ⟨by (with_reducible repeat (first | refine blk_drewN ?_ _ | refine blk_drew ?_ | refine blk_alloc ?_ _)); refine blk_far ?_ NB285_287.out _; (with_reducible repeat (first | refine blk_drewN ?_ _ | refine blk_drew ?_ | refine blk_alloc ?_ _)); refine blk_far ?_ NB285_286.out _; (with_reducible repeat (first | refine blk_drewN ?_ _ | refine blk_drew ?_ | refine blk_alloc ?_ _)); exact BK285.out⟩, ⟨by (with_reducible repeat (first | refine blk_drewN ?_ _ | refine blk_drew ?_ | refine blk_alloc ?_ _)); refine blk_far ?_ NB286_287.out _; (with_reducible repeat (first | refine blk_drewN ?_ _ | refine blk_drew ?_ | refine blk_alloc ?_ _)); refine blk_put (cs := #[.bool x287000_1]) ?_ 0 _ rfl; (with_reducible repeat (first | refine blk_drewN ?_ _ | refine blk_drew ?_ | refine blk_alloc ?_ _)); exact BK286.out⟩, ⟨by (with_reducible repeat (first | refine blk_drewN ?_ _ | refine blk_drew ?_ | refine blk_alloc ?_ _)); refine blk_put (cs := #[.int .i64 x288000_1]) ?_ 0 _ rfl; (with_reducible repeat (first | refine blk_drewN ?_ _ | refine blk_drew ?_ | refine blk_alloc ?_ _)); refine blk_far ?_ NB287_286.out _; (with_reducible repeat (first | refine blk_drewN ?_ _ | refine blk_drew ?_ | refine blk_alloc ?_ _)); exact BK287.out⟩, ⟨by repeat (first | (with_reducible first | exact HB.out | apply below_alloc | apply pw_below_drewN | apply below_drew1 | refine below_set ?_ GE285.out | refine below_set ?_ GE286.out | refine below_set ?_ GE287.out | refine below_set ?_ GE289.out | refine below_set ?_ GE291.out) | exact HB.out)⟩⟩
                        · rw [if_neg c76] at H
                          have c76b0 : (t290 == 9) = false := beq_eq_false_iff_ne.mpr c76
                          have c76b1 : (t290 != 9) = true := bne_iff_ne.mpr c76
                          have H' := Aside0.mk H
                          clear H
                          have hnb91 := NB291_285.out
                          have hnc91 := NB285_291.out
                          have hnb92 := NB291_286.out
                          have hnc92 := NB286_291.out
                          have hnb93 := NB291_287.out
                          have hnc93 := NB287_291.out
                          have hnb94 := NB291_289.out
                          have hnc94 := NB289_291.out
                          have hcz95_0 : wc.cell? ⟨gb291, 0, none⟩ = some (.int .i64 t290) := (blk_cell BK291.out 0).trans rfl
                          have hfz95_0 := blk_frozen BK291.out 0
                          have hnb96 := NB289_285.out
                          have hnc96 := NB285_289.out
                          have hnb97 := NB289_286.out
                          have hnc97 := NB286_289.out
                          have hnb98 := NB289_287.out
                          have hnc98 := NB287_289.out
                          have hcz99_0 : wc.cell? ⟨gb289, 0, none⟩ = some (.int .i64 (rd l0 x17_1)) := (blk_cell BK289.out 0).trans rfl
                          have hfz99_0 := blk_frozen BK289.out 0
                          have hnb100 := NB286_285.out
                          have hnc100 := NB285_286.out
                          have hnb101 := NB286_287.out
                          have hnc101 := NB287_286.out
                          have hcz102_0 : wc.cell? ⟨gb286, 0, none⟩ = some (.bool x287000_1) := (blk_cell BK286.out 0).trans rfl
                          have hfz102_0 := blk_frozen BK286.out 0
                          have hnb103 := NB287_285.out
                          have hnc103 := NB285_287.out
                          have hcz104_0 : wc.cell? ⟨gb287, 0, none⟩ = some (.int .i64 x288000_1) := (blk_cell BK287.out 0).trans rfl
                          have hfz104_0 := blk_frozen BK287.out 0
                          go_wp2
                          go_roundg kj18
                          case measure => have := HK1.out; have := HJ18.out; omega
                          case rel => exact ⟨(x3_18), (wrap64 (x17_1 + 1)), (x286000_1), (true), (0), (by first | rfl | (simp; done) | (simp [*]; done)), H', ⟨by have := HK1.out; have := HJ18.out; omega⟩, ⟨by (with_reducible repeat (first | apply Kd.R_alloc | apply Kd.R_drewN | apply Kd.R_drew)); exact Kd.R_mono (Kd.R_far (p := ⟨gb287, 0, none⟩) (Kd.R_far (p := ⟨gb286, 0, none⟩) (Kd.R_types (Kd.R_mono HO_3.out (fun k_ hk => (⟨hk, hk.2⟩ : _ ∧ k_ ≠ gb286))) BK287.out (by decide)) (fun _ hk => hk.1.2) (.bool true)) (fun _ hk => hk.2) (.int .i64 0)) (fun _ hk => ⟨hk.1.1.1, hk.1.1.2⟩)⟩, ⟨by (with_reducible repeat (first | refine blk_drewN ?_ _ | refine blk_drew ?_ | refine blk_alloc ?_ _)); refine blk_far ?_ NB285_287.out _; (with_reducible repeat (first | refine blk_drewN ?_ _ | refine blk_drew ?_ | refine blk_alloc ?_ _)); refine blk_far ?_ NB285_286.out _; (with_reducible repeat (first | refine blk_drewN ?_ _ | refine blk_drew ?_ | refine blk_alloc ?_ _)); exact BK285.out⟩, ⟨by (with_reducible repeat (first | refine blk_drewN ?_ _ | refine blk_drew ?_ | refine blk_alloc ?_ _)); refine blk_far ?_ NB286_287.out _; (with_reducible repeat (first | refine blk_drewN ?_ _ | refine blk_drew ?_ | refine blk_alloc ?_ _)); refine blk_put (cs := #[.bool x287000_1]) ?_ 0 _ rfl; (with_reducible repeat (first | refine blk_drewN ?_ _ | refine blk_drew ?_ | refine blk_alloc ?_ _)); exact BK286.out⟩, ⟨by (with_reducible repeat (first | refine blk_drewN ?_ _ | refine blk_drew ?_ | refine blk_alloc ?_ _)); refine blk_put (cs := #[.int .i64 x288000_1]) ?_ 0 _ rfl; (with_reducible repeat (first | refine blk_drewN ?_ _ | refine blk_drew ?_ | refine blk_alloc ?_ _)); refine blk_far ?_ NB287_286.out _; (with_reducible repeat (first | refine blk_drewN ?_ _ | refine blk_drew ?_ | refine blk_alloc ?_ _)); exact BK287.out⟩, ⟨by repeat (first | (with_reducible first | exact HB.out | apply below_alloc | apply pw_below_drewN | apply below_drew1 | refine below_set ?_ GE285.out | refine below_set ?_ GE286.out | refine below_set ?_ GE287.out | refine below_set ?_ GE289.out | refine below_set ?_ GE291.out) | exact HB.out)⟩⟩
                      · rw [if_neg c75] at H
                        have c75b0 : ((rd l0 x17_1) == 1584) = false := beq_eq_false_iff_ne.mpr c75
                        have c75b1 : ((rd l0 x17_1) != 1584) = true := bne_iff_ne.mpr c75
                        by_cases c105 : (rd l0 x17_1) = 1585
                        · rw [if_pos c105] at H
                          have c105b0 : ((rd l0 x17_1) == 1585) = true := beq_iff_eq.mpr c105
                          have c105b1 : ((rd l0 x17_1) != 1585) = false := bne_eq_false_iff_eq.mpr c105
                          clear c105
                          by_cases c106 : t290 = 9
                          · rw [if_pos c106] at H
                            have c106b0 : (t290 == 9) = true := beq_iff_eq.mpr c106
                            have c106b1 : (t290 != 9) = false := bne_eq_false_iff_eq.mpr c106
                            clear c106
                            have H' := Aside0.mk H
                            clear H
                            have hnb107 := NB291_285.out
                            have hnc107 := NB285_291.out
                            have hnb108 := NB291_286.out
                            have hnc108 := NB286_291.out
                            have hnb109 := NB291_287.out
                            have hnc109 := NB287_291.out
                            have hnb110 := NB291_289.out
                            have hnc110 := NB289_291.out
                            have hcz111_0 : wc.cell? ⟨gb291, 0, none⟩ = some (.int .i64 t290) := (blk_cell BK291.out 0).trans rfl
                            have hfz111_0 := blk_frozen BK291.out 0
                            have hnb112 := NB289_285.out
                            have hnc112 := NB285_289.out
                            have hnb113 := NB289_286.out
                            have hnc113 := NB286_289.out
                            have hnb114 := NB289_287.out
                            have hnc114 := NB287_289.out
                            have hcz115_0 : wc.cell? ⟨gb289, 0, none⟩ = some (.int .i64 (rd l0 x17_1)) := (blk_cell BK289.out 0).trans rfl
                            have hfz115_0 := blk_frozen BK289.out 0
                            have hnb116 := NB286_285.out
                            have hnc116 := NB285_286.out
                            have hnb117 := NB286_287.out
                            have hnc117 := NB287_286.out
                            have hcz118_0 : wc.cell? ⟨gb286, 0, none⟩ = some (.bool x287000_1) := (blk_cell BK286.out 0).trans rfl
                            have hfz118_0 := blk_frozen BK286.out 0
                            have hnb119 := NB287_285.out
                            have hnc119 := NB285_287.out
                            have hcz120_0 : wc.cell? ⟨gb287, 0, none⟩ = some (.int .i64 x288000_1) := (blk_cell BK287.out 0).trans rfl
                            have hfz120_0 := blk_frozen BK287.out 0
                            go_wp2
                            go_roundg kj18
                            case measure => have := HK1.out; have := HJ18.out; omega
                            case rel => exact ⟨(x3_18), (wrap64 (x17_1 + 1)), (x286000_1), (x287000_1), (wrap64 (x288000_1 + 1)), (by first | rfl | (simp; done) | (simp [*]; done)), H', ⟨by have := HK1.out; have := HJ18.out; omega⟩, ⟨by (with_reducible repeat (first | apply Kd.R_alloc | apply Kd.R_drewN | apply Kd.R_drew)); exact Kd.R_mono (Kd.R_far (p := ⟨gb287, 0, none⟩) (Kd.R_far (p := ⟨gb286, 0, none⟩) (Kd.R_types (Kd.R_mono HO_3.out (fun k_ hk => (⟨hk, hk.2⟩ : _ ∧ k_ ≠ gb286))) BK287.out (by decide)) (fun _ hk => hk.1.2) (.bool x287000_1)) (fun _ hk => hk.2) (.int .i64 (wrap64 (x288000_1 + 1)))) (fun _ hk => ⟨hk.1.1.1, hk.1.1.2⟩)⟩, ⟨by (with_reducible repeat (first | refine blk_drewN ?_ _ | refine blk_drew ?_ | refine blk_alloc ?_ _)); refine blk_far ?_ NB285_287.out _; (with_reducible repeat (first | refine blk_drewN ?_ _ | refine blk_drew ?_ | refine blk_alloc ?_ _)); refine blk_far ?_ NB285_286.out _; (with_reducible repeat (first | refine blk_drewN ?_ _ | refine blk_drew ?_ | refine blk_alloc ?_ _)); exact BK285.out⟩, ⟨by (with_reducible repeat (first | refine blk_drewN ?_ _ | refine blk_drew ?_ | refine blk_alloc ?_ _)); refine blk_far ?_ NB286_287.out _; (with_reducible repeat (first | refine blk_drewN ?_ _ | refine blk_drew ?_ | refine blk_alloc ?_ _)); refine blk_put (cs := #[.bool x287000_1]) ?_ 0 _ rfl; (with_reducible repeat (first | refine blk_drewN ?_ _ | refine blk_drew ?_ | refine blk_alloc ?_ _)); exact BK286.out⟩, ⟨by (with_reducible repeat (first | refine blk_drewN ?_ _ | refine blk_drew ?_ | refine blk_alloc ?_ _)); refine blk_put (cs := #[.int .i64 x288000_1]) ?_ 0 _ rfl; (with_reducible repeat (first | refine blk_drewN ?_ _ | refine blk_drew ?_ | refine blk_alloc ?_ _)); refine blk_far ?_ NB287_286.out _; (with_reducible repeat (first | refine blk_drewN ?_ _ | refine blk_drew ?_ | refine blk_alloc ?_ _)); exact BK287.out⟩, ⟨by repeat (first | (with_reducible first | exact HB.out | apply below_alloc | apply pw_below_drewN | apply below_drew1 | refine below_set ?_ GE285.out | refine below_set ?_ GE286.out | refine below_set ?_ GE287.out | refine below_set ?_ GE289.out | refine below_set ?_ GE291.out) | exact HB.out)⟩⟩
                          · rw [if_neg c106] at H
                            have c106b0 : (t290 == 9) = false := beq_eq_false_iff_ne.mpr c106
                            have c106b1 : (t290 != 9) = true := bne_iff_ne.mpr c106
                            have H' := Aside0.mk H
                            clear H
                            have hnb121 := NB291_285.out
                            have hnc121 := NB285_291.out
                            have hnb122 := NB291_286.out
                            have hnc122 := NB286_291.out
                            have hnb123 := NB291_287.out
                            have hnc123 := NB287_291.out
                            have hnb124 := NB291_289.out
                            have hnc124 := NB289_291.out
                            have hcz125_0 : wc.cell? ⟨gb291, 0, none⟩ = some (.int .i64 t290) := (blk_cell BK291.out 0).trans rfl
                            have hfz125_0 := blk_frozen BK291.out 0
                            have hnb126 := NB289_285.out
                            have hnc126 := NB285_289.out
                            have hnb127 := NB289_286.out
                            have hnc127 := NB286_289.out
                            have hnb128 := NB289_287.out
                            have hnc128 := NB287_289.out
                            have hcz129_0 : wc.cell? ⟨gb289, 0, none⟩ = some (.int .i64 (rd l0 x17_1)) := (blk_cell BK289.out 0).trans rfl
                            have hfz129_0 := blk_frozen BK289.out 0
                            have hnb130 := NB286_285.out
                            have hnc130 := NB285_286.out
                            have hnb131 := NB286_287.out
                            have hnc131 := NB287_286.out
                            have hcz132_0 : wc.cell? ⟨gb286, 0, none⟩ = some (.bool x287000_1) := (blk_cell BK286.out 0).trans rfl
                            have hfz132_0 := blk_frozen BK286.out 0
                            have hnb133 := NB287_285.out
                            have hnc133 := NB285_287.out
                            have hcz134_0 : wc.cell? ⟨gb287, 0, none⟩ = some (.int .i64 x288000_1) := (blk_cell BK287.out 0).trans rfl
                            have hfz134_0 := blk_frozen BK287.out 0
                            go_wp2
                            go_roundg kj18
                            case measure => have := HK1.out; have := HJ18.out; omega
                            case rel => exact ⟨(x3_18), (wrap64 (x17_1 + 1)), (x286000_1), (x287000_1), (0), (by first | rfl | (simp; done) | (simp [*]; done)), H', ⟨by have := HK1.out; have := HJ18.out; omega⟩, ⟨by (with_reducible repeat (first | apply Kd.R_alloc | apply Kd.R_drewN | apply Kd.R_drew)); exact Kd.R_mono (Kd.R_far (p := ⟨gb287, 0, none⟩) (Kd.R_far (p := ⟨gb286, 0, none⟩) (Kd.R_types (Kd.R_mono HO_3.out (fun k_ hk => (⟨hk, hk.2⟩ : _ ∧ k_ ≠ gb286))) BK287.out (by decide)) (fun _ hk => hk.1.2) (.bool x287000_1)) (fun _ hk => hk.2) (.int .i64 0)) (fun _ hk => ⟨hk.1.1.1, hk.1.1.2⟩)⟩, ⟨by (with_reducible repeat (first | refine blk_drewN ?_ _ | refine blk_drew ?_ | refine blk_alloc ?_ _)); refine blk_far ?_ NB285_287.out _; (with_reducible repeat (first | refine blk_drewN ?_ _ | refine blk_drew ?_ | refine blk_alloc ?_ _)); refine blk_far ?_ NB285_286.out _; (with_reducible repeat (first | refine blk_drewN ?_ _ | refine blk_drew ?_ | refine blk_alloc ?_ _)); exact BK285.out⟩, ⟨by (with_reducible repeat (first | refine blk_drewN ?_ _ | refine blk_drew ?_ | refine blk_alloc ?_ _)); refine blk_far ?_ NB286_287.out _; (with_reducible repeat (first | refine blk_drewN ?_ _ | refine blk_drew ?_ | refine blk_alloc ?_ _)); refine blk_put (cs := #[.bool x287000_1]) ?_ 0 _ rfl; (with_reducible repeat (first | refine blk_drewN ?_ _ | refine blk_drew ?_ | refine blk_alloc ?_ _)); exact BK286.out⟩, ⟨by (with_reducible repeat (first | refine blk_drewN ?_ _ | refine blk_drew ?_ | refine blk_alloc ?_ _)); refine blk_put (cs := #[.int .i64 x288000_1]) ?_ 0 _ rfl; (with_reducible repeat (first | refine blk_drewN ?_ _ | refine blk_drew ?_ | refine blk_alloc ?_ _)); refine blk_far ?_ NB287_286.out _; (with_reducible repeat (first | refine blk_drewN ?_ _ | refine blk_drew ?_ | refine blk_alloc ?_ _)); exact BK287.out⟩, ⟨by repeat (first | (with_reducible first | exact HB.out | apply below_alloc | apply pw_below_drewN | apply below_drew1 | refine below_set ?_ GE285.out | refine below_set ?_ GE286.out | refine below_set ?_ GE287.out | refine below_set ?_ GE289.out | refine below_set ?_ GE291.out) | exact HB.out)⟩⟩
                        · rw [if_neg c105] at H
                          have c105b0 : ((rd l0 x17_1) == 1585) = false := beq_eq_false_iff_ne.mpr c105
                          have c105b1 : ((rd l0 x17_1) != 1585) = true := bne_iff_ne.mpr c105
                          by_cases c135 : t290 = 9
                          · rw [if_pos c135] at H
                            have c135b0 : (t290 == 9) = true := beq_iff_eq.mpr c135
                            have c135b1 : (t290 != 9) = false := bne_eq_false_iff_eq.mpr c135
                            clear c135
                            have H' := Aside0.mk H
                            clear H
                            have hnb136 := NB291_285.out
                            have hnc136 := NB285_291.out
                            have hnb137 := NB291_286.out
                            have hnc137 := NB286_291.out
                            have hnb138 := NB291_287.out
                            have hnc138 := NB287_291.out
                            have hnb139 := NB291_289.out
                            have hnc139 := NB289_291.out
                            have hcz140_0 : wc.cell? ⟨gb291, 0, none⟩ = some (.int .i64 t290) := (blk_cell BK291.out 0).trans rfl
                            have hfz140_0 := blk_frozen BK291.out 0
                            have hnb141 := NB289_285.out
                            have hnc141 := NB285_289.out
                            have hnb142 := NB289_286.out
                            have hnc142 := NB286_289.out
                            have hnb143 := NB289_287.out
                            have hnc143 := NB287_289.out
                            have hcz144_0 : wc.cell? ⟨gb289, 0, none⟩ = some (.int .i64 (rd l0 x17_1)) := (blk_cell BK289.out 0).trans rfl
                            have hfz144_0 := blk_frozen BK289.out 0
                            have hnb145 := NB286_285.out
                            have hnc145 := NB285_286.out
                            have hnb146 := NB286_287.out
                            have hnc146 := NB287_286.out
                            have hcz147_0 : wc.cell? ⟨gb286, 0, none⟩ = some (.bool x287000_1) := (blk_cell BK286.out 0).trans rfl
                            have hfz147_0 := blk_frozen BK286.out 0
                            have hnb148 := NB287_285.out
                            have hnc148 := NB285_287.out
                            have hcz149_0 : wc.cell? ⟨gb287, 0, none⟩ = some (.int .i64 x288000_1) := (blk_cell BK287.out 0).trans rfl
                            have hfz149_0 := blk_frozen BK287.out 0
                            go_wp2
                            go_roundg kj18
                            case measure => have := HK1.out; have := HJ18.out; omega
                            case rel => exact ⟨(x3_18), (wrap64 (x17_1 + 1)), (x286000_1), (false), (wrap64 (x288000_1 + 1)), (by first | rfl | (simp; done) | (simp [*]; done)), H', ⟨by have := HK1.out; have := HJ18.out; omega⟩, ⟨by (with_reducible repeat (first | apply Kd.R_alloc | apply Kd.R_drewN | apply Kd.R_drew)); exact Kd.R_mono (Kd.R_far (p := ⟨gb287, 0, none⟩) (Kd.R_far (p := ⟨gb286, 0, none⟩) (Kd.R_types (Kd.R_mono HO_3.out (fun k_ hk => (⟨hk, hk.2⟩ : _ ∧ k_ ≠ gb286))) BK287.out (by decide)) (fun _ hk => hk.1.2) (.bool false)) (fun _ hk => hk.2) (.int .i64 (wrap64 (x288000_1 + 1)))) (fun _ hk => ⟨hk.1.1.1, hk.1.1.2⟩)⟩, ⟨by (with_reducible repeat (first | refine blk_drewN ?_ _ | refine blk_drew ?_ | refine blk_alloc ?_ _)); refine blk_far ?_ NB285_287.out _; (with_reducible repeat (first | refine blk_drewN ?_ _ | refine blk_drew ?_ | refine blk_alloc ?_ _)); refine blk_far ?_ NB285_286.out _; (with_reducible repeat (first | refine blk_drewN ?_ _ | refine blk_drew ?_ | refine blk_alloc ?_ _)); exact BK285.out⟩, ⟨by (with_reducible repeat (first | refine blk_drewN ?_ _ | refine blk_drew ?_ | refine blk_alloc ?_ _)); refine blk_far ?_ NB286_287.out _; (with_reducible repeat (first | refine blk_drewN ?_ _ | refine blk_drew ?_ | refine blk_alloc ?_ _)); refine blk_put (cs := #[.bool x287000_1]) ?_ 0 _ rfl; (with_reducible repeat (first | refine blk_drewN ?_ _ | refine blk_drew ?_ | refine blk_alloc ?_ _)); exact BK286.out⟩, ⟨by (with_reducible repeat (first | refine blk_drewN ?_ _ | refine blk_drew ?_ | refine blk_alloc ?_ _)); refine blk_put (cs := #[.int .i64 x288000_1]) ?_ 0 _ rfl; (with_reducible repeat (first | refine blk_drewN ?_ _ | refine blk_drew ?_ | refine blk_alloc ?_ _)); refine blk_far ?_ NB287_286.out _; (with_reducible repeat (first | refine blk_drewN ?_ _ | refine blk_drew ?_ | refine blk_alloc ?_ _)); exact BK287.out⟩, ⟨by repeat (first | (with_reducible first | exact HB.out | apply below_alloc | apply pw_below_drewN | apply below_drew1 | refine below_set ?_ GE285.out | refine below_set ?_ GE286.out | refine below_set ?_ GE287.out | refine below_set ?_ GE289.out | refine below_set ?_ GE291.out) | exact HB.out)⟩⟩
                          · rw [if_neg c135] at H
                            have c135b0 : (t290 == 9) = false := beq_eq_false_iff_ne.mpr c135
                            have c135b1 : (t290 != 9) = true := bne_iff_ne.mpr c135
                            have H' := Aside0.mk H
                            clear H
                            have hnb150 := NB291_285.out
                            have hnc150 := NB285_291.out
                            have hnb151 := NB291_286.out
                            have hnc151 := NB286_291.out
                            have hnb152 := NB291_287.out
                            have hnc152 := NB287_291.out
                            have hnb153 := NB291_289.out
                            have hnc153 := NB289_291.out
                            have hcz154_0 : wc.cell? ⟨gb291, 0, none⟩ = some (.int .i64 t290) := (blk_cell BK291.out 0).trans rfl
                            have hfz154_0 := blk_frozen BK291.out 0
                            have hnb155 := NB289_285.out
                            have hnc155 := NB285_289.out
                            have hnb156 := NB289_286.out
                            have hnc156 := NB286_289.out
                            have hnb157 := NB289_287.out
                            have hnc157 := NB287_289.out
                            have hcz158_0 : wc.cell? ⟨gb289, 0, none⟩ = some (.int .i64 (rd l0 x17_1)) := (blk_cell BK289.out 0).trans rfl
                            have hfz158_0 := blk_frozen BK289.out 0
                            have hnb159 := NB286_285.out
                            have hnc159 := NB285_286.out
                            have hnb160 := NB286_287.out
                            have hnc160 := NB287_286.out
                            have hcz161_0 : wc.cell? ⟨gb286, 0, none⟩ = some (.bool x287000_1) := (blk_cell BK286.out 0).trans rfl
                            have hfz161_0 := blk_frozen BK286.out 0
                            have hnb162 := NB287_285.out
                            have hnc162 := NB285_287.out
                            have hcz163_0 : wc.cell? ⟨gb287, 0, none⟩ = some (.int .i64 x288000_1) := (blk_cell BK287.out 0).trans rfl
                            have hfz163_0 := blk_frozen BK287.out 0
                            go_wp2
                            go_roundg kj18
                            case measure => have := HK1.out; have := HJ18.out; omega
                            case rel => exact ⟨(x3_18), (wrap64 (x17_1 + 1)), (x286000_1), (false), (0), (by first | rfl | (simp; done) | (simp [*]; done)), H', ⟨by have := HK1.out; have := HJ18.out; omega⟩, ⟨by (with_reducible repeat (first | apply Kd.R_alloc | apply Kd.R_drewN | apply Kd.R_drew)); exact Kd.R_mono (Kd.R_far (p := ⟨gb287, 0, none⟩) (Kd.R_far (p := ⟨gb286, 0, none⟩) (Kd.R_types (Kd.R_mono HO_3.out (fun k_ hk => (⟨hk, hk.2⟩ : _ ∧ k_ ≠ gb286))) BK287.out (by decide)) (fun _ hk => hk.1.2) (.bool false)) (fun _ hk => hk.2) (.int .i64 0)) (fun _ hk => ⟨hk.1.1.1, hk.1.1.2⟩)⟩, ⟨by (with_reducible repeat (first | refine blk_drewN ?_ _ | refine blk_drew ?_ | refine blk_alloc ?_ _)); refine blk_far ?_ NB285_287.out _; (with_reducible repeat (first | refine blk_drewN ?_ _ | refine blk_drew ?_ | refine blk_alloc ?_ _)); refine blk_far ?_ NB285_286.out _; (with_reducible repeat (first | refine blk_drewN ?_ _ | refine blk_drew ?_ | refine blk_alloc ?_ _)); exact BK285.out⟩, ⟨by (with_reducible repeat (first | refine blk_drewN ?_ _ | refine blk_drew ?_ | refine blk_alloc ?_ _)); refine blk_far ?_ NB286_287.out _; (with_reducible repeat (first | refine blk_drewN ?_ _ | refine blk_drew ?_ | refine blk_alloc ?_ _)); refine blk_put (cs := #[.bool x287000_1]) ?_ 0 _ rfl; (with_reducible repeat (first | refine blk_drewN ?_ _ | refine blk_drew ?_ | refine blk_alloc ?_ _)); exact BK286.out⟩, ⟨by (with_reducible repeat (first | refine blk_drewN ?_ _ | refine blk_drew ?_ | refine blk_alloc ?_ _)); refine blk_put (cs := #[.int .i64 x288000_1]) ?_ 0 _ rfl; (with_reducible repeat (first | refine blk_drewN ?_ _ | refine blk_drew ?_ | refine blk_alloc ?_ _)); refine blk_far ?_ NB287_286.out _; (with_reducible repeat (first | refine blk_drewN ?_ _ | refine blk_drew ?_ | refine blk_alloc ?_ _)); exact BK287.out⟩, ⟨by repeat (first | (with_reducible first | exact HB.out | apply below_alloc | apply pw_below_drewN | apply below_drew1 | refine below_set ?_ GE285.out | refine below_set ?_ GE286.out | refine below_set ?_ GE287.out | refine below_set ?_ GE289.out | refine below_set ?_ GE291.out) | exact HB.out)⟩⟩
                    · rw [if_neg c74] at H
                      have c74b0 : (t290 == 2) = false := beq_eq_false_iff_ne.mpr c74
                      have c74b1 : (t290 != 2) = true := bne_iff_ne.mpr c74
                      by_cases c164 : (rd l0 x17_1) = 1584
                      · rw [if_pos c164] at H
                        have c164b0 : ((rd l0 x17_1) == 1584) = true := beq_iff_eq.mpr c164
                        have c164b1 : ((rd l0 x17_1) != 1584) = false := bne_eq_false_iff_eq.mpr c164
                        clear c164
                        by_cases c165 : t290 = 9
                        · rw [if_pos c165] at H
                          have c165b0 : (t290 == 9) = true := beq_iff_eq.mpr c165
                          have c165b1 : (t290 != 9) = false := bne_eq_false_iff_eq.mpr c165
                          clear c165
                          have H' := Aside0.mk H
                          clear H
                          have hnb166 := NB291_285.out
                          have hnc166 := NB285_291.out
                          have hnb167 := NB291_286.out
                          have hnc167 := NB286_291.out
                          have hnb168 := NB291_287.out
                          have hnc168 := NB287_291.out
                          have hnb169 := NB291_289.out
                          have hnc169 := NB289_291.out
                          have hcz170_0 : wc.cell? ⟨gb291, 0, none⟩ = some (.int .i64 t290) := (blk_cell BK291.out 0).trans rfl
                          have hfz170_0 := blk_frozen BK291.out 0
                          have hnb171 := NB285_286.out
                          have hnc171 := NB286_285.out
                          have hnb172 := NB285_287.out
                          have hnc172 := NB287_285.out
                          have hnb173 := NB285_289.out
                          have hnc173 := NB289_285.out
                          have hcz174_0 : wc.cell? ⟨gb285, 0, none⟩ = some (.bool x286000_1) := (blk_cell BK285.out 0).trans rfl
                          have hfz174_0 := blk_frozen BK285.out 0
                          have hnb175 := NB289_286.out
                          have hnc175 := NB286_289.out
                          have hnb176 := NB289_287.out
                          have hnc176 := NB287_289.out
                          have hcz177_0 : wc.cell? ⟨gb289, 0, none⟩ = some (.int .i64 (rd l0 x17_1)) := (blk_cell BK289.out 0).trans rfl
                          have hfz177_0 := blk_frozen BK289.out 0
                          have hnb178 := NB286_287.out
                          have hnc178 := NB287_286.out
                          have hcz179_0 : wc.cell? ⟨gb286, 0, none⟩ = some (.bool x287000_1) := (blk_cell BK286.out 0).trans rfl
                          have hfz179_0 := blk_frozen BK286.out 0
                          have hcz180_0 : wc.cell? ⟨gb287, 0, none⟩ = some (.int .i64 x288000_1) := (blk_cell BK287.out 0).trans rfl
                          have hfz180_0 := blk_frozen BK287.out 0
                          go_wp2
                          go_roundg kj18
                          case measure => have := HK1.out; have := HJ18.out; omega
                          case rel => exact ⟨(x3_18), (wrap64 (x17_1 + 1)), ((t290 == 8)), (true), (wrap64 (x288000_1 + 1)), (by first | rfl | (simp; done) | (simp [*]; done)), H', ⟨by have := HK1.out; have := HJ18.out; omega⟩, ⟨by (with_reducible repeat (first | apply Kd.R_alloc | apply Kd.R_drewN | apply Kd.R_drew)); exact Kd.R_mono (Kd.R_far (p := ⟨gb287, 0, none⟩) (Kd.R_far (p := ⟨gb286, 0, none⟩) (Kd.R_far (p := ⟨gb285, 0, none⟩) (Kd.R_types (Kd.R_mono (Kd.R_mono HO_3.out (fun k_ hk => (⟨hk, hk.1⟩ : _ ∧ k_ ≠ gb285))) (fun k_ hk => (⟨hk, hk.1.2⟩ : _ ∧ k_ ≠ gb286))) BK287.out (by decide)) (fun _ hk => hk.1.1.2) (.bool (t290 == 8))) (fun _ hk => hk.1.2) (.bool true)) (fun _ hk => hk.2) (.int .i64 (wrap64 (x288000_1 + 1)))) (fun _ hk => ⟨hk.1.1.1.1, hk.1.1.1.2⟩)⟩, ⟨by (with_reducible repeat (first | refine blk_drewN ?_ _ | refine blk_drew ?_ | refine blk_alloc ?_ _)); refine blk_far ?_ NB285_287.out _; (with_reducible repeat (first | refine blk_drewN ?_ _ | refine blk_drew ?_ | refine blk_alloc ?_ _)); refine blk_far ?_ NB285_286.out _; (with_reducible repeat (first | refine blk_drewN ?_ _ | refine blk_drew ?_ | refine blk_alloc ?_ _)); refine blk_put (cs := #[.bool x286000_1]) ?_ 0 _ rfl; (with_reducible repeat (first | refine blk_drewN ?_ _ | refine blk_drew ?_ | refine blk_alloc ?_ _)); exact BK285.out⟩, ⟨by (with_reducible repeat (first | refine blk_drewN ?_ _ | refine blk_drew ?_ | refine blk_alloc ?_ _)); refine blk_far ?_ NB286_287.out _; (with_reducible repeat (first | refine blk_drewN ?_ _ | refine blk_drew ?_ | refine blk_alloc ?_ _)); refine blk_put (cs := #[.bool x287000_1]) ?_ 0 _ rfl; (with_reducible repeat (first | refine blk_drewN ?_ _ | refine blk_drew ?_ | refine blk_alloc ?_ _)); refine blk_far ?_ NB286_285.out _; (with_reducible repeat (first | refine blk_drewN ?_ _ | refine blk_drew ?_ | refine blk_alloc ?_ _)); exact BK286.out⟩, ⟨by (with_reducible repeat (first | refine blk_drewN ?_ _ | refine blk_drew ?_ | refine blk_alloc ?_ _)); refine blk_put (cs := #[.int .i64 x288000_1]) ?_ 0 _ rfl; (with_reducible repeat (first | refine blk_drewN ?_ _ | refine blk_drew ?_ | refine blk_alloc ?_ _)); refine blk_far ?_ NB287_286.out _; (with_reducible repeat (first | refine blk_drewN ?_ _ | refine blk_drew ?_ | refine blk_alloc ?_ _)); refine blk_far ?_ NB287_285.out _; (with_reducible repeat (first | refine blk_drewN ?_ _ | refine blk_drew ?_ | refine blk_alloc ?_ _)); exact BK287.out⟩, ⟨by repeat (first | (with_reducible first | exact HB.out | apply below_alloc | apply pw_below_drewN | apply below_drew1 | refine below_set ?_ GE285.out | refine below_set ?_ GE286.out | refine below_set ?_ GE287.out | refine below_set ?_ GE289.out | refine below_set ?_ GE291.out) | exact HB.out)⟩⟩
                        · rw [if_neg c165] at H
                          have c165b0 : (t290 == 9) = false := beq_eq_false_iff_ne.mpr c165
                          have c165b1 : (t290 != 9) = true := bne_iff_ne.mpr c165
                          have H' := Aside0.mk H
                          clear H
                          have hnb181 := NB291_285.out
                          have hnc181 := NB285_291.out
                          have hnb182 := NB291_286.out
                          have hnc182 := NB286_291.out
                          have hnb183 := NB291_287.out
                          have hnc183 := NB287_291.out
                          have hnb184 := NB291_289.out
                          have hnc184 := NB289_291.out
                          have hcz185_0 : wc.cell? ⟨gb291, 0, none⟩ = some (.int .i64 t290) := (blk_cell BK291.out 0).trans rfl
                          have hfz185_0 := blk_frozen BK291.out 0
                          have hnb186 := NB285_286.out
                          have hnc186 := NB286_285.out
                          have hnb187 := NB285_287.out
                          have hnc187 := NB287_285.out
                          have hnb188 := NB285_289.out
                          have hnc188 := NB289_285.out
                          have hcz189_0 : wc.cell? ⟨gb285, 0, none⟩ = some (.bool x286000_1) := (blk_cell BK285.out 0).trans rfl
                          have hfz189_0 := blk_frozen BK285.out 0
                          have hnb190 := NB289_286.out
                          have hnc190 := NB286_289.out
                          have hnb191 := NB289_287.out
                          have hnc191 := NB287_289.out
                          have hcz192_0 : wc.cell? ⟨gb289, 0, none⟩ = some (.int .i64 (rd l0 x17_1)) := (blk_cell BK289.out 0).trans rfl
                          have hfz192_0 := blk_frozen BK289.out 0
                          have hnb193 := NB286_287.out
                          have hnc193 := NB287_286.out
                          have hcz194_0 : wc.cell? ⟨gb286, 0, none⟩ = some (.bool x287000_1) := (blk_cell BK286.out 0).trans rfl
                          have hfz194_0 := blk_frozen BK286.out 0
                          have hcz195_0 : wc.cell? ⟨gb287, 0, none⟩ = some (.int .i64 x288000_1) := (blk_cell BK287.out 0).trans rfl
                          have hfz195_0 := blk_frozen BK287.out 0
                          go_wp2
                          go_roundg kj18
                          case measure => have := HK1.out; have := HJ18.out; omega
                          case rel => exact ⟨(x3_18), (wrap64 (x17_1 + 1)), ((t290 == 8)), (true), (0), (by first | rfl | (simp; done) | (simp [*]; done)), H', ⟨by have := HK1.out; have := HJ18.out; omega⟩, ⟨by (with_reducible repeat (first | apply Kd.R_alloc | apply Kd.R_drewN | apply Kd.R_drew)); exact Kd.R_mono (Kd.R_far (p := ⟨gb287, 0, none⟩) (Kd.R_far (p := ⟨gb286, 0, none⟩) (Kd.R_far (p := ⟨gb285, 0, none⟩) (Kd.R_types (Kd.R_mono (Kd.R_mono HO_3.out (fun k_ hk => (⟨hk, hk.1⟩ : _ ∧ k_ ≠ gb285))) (fun k_ hk => (⟨hk, hk.1.2⟩ : _ ∧ k_ ≠ gb286))) BK287.out (by decide)) (fun _ hk => hk.1.1.2) (.bool (t290 == 8))) (fun _ hk => hk.1.2) (.bool true)) (fun _ hk => hk.2) (.int .i64 0)) (fun _ hk => ⟨hk.1.1.1.1, hk.1.1.1.2⟩)⟩, ⟨by (with_reducible repeat (first | refine blk_drewN ?_ _ | refine blk_drew ?_ | refine blk_alloc ?_ _)); refine blk_far ?_ NB285_287.out _; (with_reducible repeat (first | refine blk_drewN ?_ _ | refine blk_drew ?_ | refine blk_alloc ?_ _)); refine blk_far ?_ NB285_286.out _; (with_reducible repeat (first | refine blk_drewN ?_ _ | refine blk_drew ?_ | refine blk_alloc ?_ _)); refine blk_put (cs := #[.bool x286000_1]) ?_ 0 _ rfl; (with_reducible repeat (first | refine blk_drewN ?_ _ | refine blk_drew ?_ | refine blk_alloc ?_ _)); exact BK285.out⟩, ⟨by (with_reducible repeat (first | refine blk_drewN ?_ _ | refine blk_drew ?_ | refine blk_alloc ?_ _)); refine blk_far ?_ NB286_287.out _; (with_reducible repeat (first | refine blk_drewN ?_ _ | refine blk_drew ?_ | refine blk_alloc ?_ _)); refine blk_put (cs := #[.bool x287000_1]) ?_ 0 _ rfl; (with_reducible repeat (first | refine blk_drewN ?_ _ | refine blk_drew ?_ | refine blk_alloc ?_ _)); refine blk_far ?_ NB286_285.out _; (with_reducible repeat (first | refine blk_drewN ?_ _ | refine blk_drew ?_ | refine blk_alloc ?_ _)); exact BK286.out⟩, ⟨by (with_reducible repeat (first | refine blk_drewN ?_ _ | refine blk_drew ?_ | refine blk_alloc ?_ _)); refine blk_put (cs := #[.int .i64 x288000_1]) ?_ 0 _ rfl; (with_reducible repeat (first | refine blk_drewN ?_ _ | refine blk_drew ?_ | refine blk_alloc ?_ _)); refine blk_far ?_ NB287_286.out _; (with_reducible repeat (first | refine blk_drewN ?_ _ | refine blk_drew ?_ | refine blk_alloc ?_ _)); refine blk_far ?_ NB287_285.out _; (with_reducible repeat (first | refine blk_drewN ?_ _ | refine blk_drew ?_ | refine blk_alloc ?_ _)); exact BK287.out⟩, ⟨by repeat (first | (with_reducible first | exact HB.out | apply below_alloc | apply pw_below_drewN | apply below_drew1 | refine below_set ?_ GE285.out | refine below_set ?_ GE286.out | refine below_set ?_ GE287.out | refine below_set ?_ GE289.out | refine below_set ?_ GE291.out) | exact HB.out)⟩⟩
                      · rw [if_neg c164] at H
                        have c164b0 : ((rd l0 x17_1) == 1584) = false := beq_eq_false_iff_ne.mpr c164
                        have c164b1 : ((rd l0 x17_1) != 1584) = true := bne_iff_ne.mpr c164
                        by_cases c196 : (rd l0 x17_1) = 1585
                        · rw [if_pos c196] at H
                          have c196b0 : ((rd l0 x17_1) == 1585) = true := beq_iff_eq.mpr c196
                          have c196b1 : ((rd l0 x17_1) != 1585) = false := bne_eq_false_iff_eq.mpr c196
                          clear c196
                          by_cases c197 : t290 = 9
                          · rw [if_pos c197] at H
                            have c197b0 : (t290 == 9) = true := beq_iff_eq.mpr c197
                            have c197b1 : (t290 != 9) = false := bne_eq_false_iff_eq.mpr c197
                            clear c197
                            have H' := Aside0.mk H
                            clear H
                            have hnb198 := NB291_285.out
                            have hnc198 := NB285_291.out
                            have hnb199 := NB291_286.out
                            have hnc199 := NB286_291.out
                            have hnb200 := NB291_287.out
                            have hnc200 := NB287_291.out
                            have hnb201 := NB291_289.out
                            have hnc201 := NB289_291.out
                            have hcz202_0 : wc.cell? ⟨gb291, 0, none⟩ = some (.int .i64 t290) := (blk_cell BK291.out 0).trans rfl
                            have hfz202_0 := blk_frozen BK291.out 0
                            have hnb203 := NB285_286.out
                            have hnc203 := NB286_285.out
                            have hnb204 := NB285_287.out
                            have hnc204 := NB287_285.out
                            have hnb205 := NB285_289.out
                            have hnc205 := NB289_285.out
                            have hcz206_0 : wc.cell? ⟨gb285, 0, none⟩ = some (.bool x286000_1) := (blk_cell BK285.out 0).trans rfl
                            have hfz206_0 := blk_frozen BK285.out 0
                            have hnb207 := NB289_286.out
                            have hnc207 := NB286_289.out
                            have hnb208 := NB289_287.out
                            have hnc208 := NB287_289.out
                            have hcz209_0 : wc.cell? ⟨gb289, 0, none⟩ = some (.int .i64 (rd l0 x17_1)) := (blk_cell BK289.out 0).trans rfl
                            have hfz209_0 := blk_frozen BK289.out 0
                            have hnb210 := NB286_287.out
                            have hnc210 := NB287_286.out
                            have hcz211_0 : wc.cell? ⟨gb286, 0, none⟩ = some (.bool x287000_1) := (blk_cell BK286.out 0).trans rfl
                            have hfz211_0 := blk_frozen BK286.out 0
                            have hcz212_0 : wc.cell? ⟨gb287, 0, none⟩ = some (.int .i64 x288000_1) := (blk_cell BK287.out 0).trans rfl
                            have hfz212_0 := blk_frozen BK287.out 0
                            go_wp2
                            go_roundg kj18
                            case measure => have := HK1.out; have := HJ18.out; omega
                            case rel => exact ⟨(x3_18), (wrap64 (x17_1 + 1)), ((t290 == 8)), (x287000_1), (wrap64 (x288000_1 + 1)), (by first | rfl | (simp; done) | (simp [*]; done)), H', ⟨by have := HK1.out; have := HJ18.out; omega⟩, ⟨by (with_reducible repeat (first | apply Kd.R_alloc | apply Kd.R_drewN | apply Kd.R_drew)); exact Kd.R_mono (Kd.R_far (p := ⟨gb287, 0, none⟩) (Kd.R_far (p := ⟨gb286, 0, none⟩) (Kd.R_far (p := ⟨gb285, 0, none⟩) (Kd.R_types (Kd.R_mono (Kd.R_mono HO_3.out (fun k_ hk => (⟨hk, hk.1⟩ : _ ∧ k_ ≠ gb285))) (fun k_ hk => (⟨hk, hk.1.2⟩ : _ ∧ k_ ≠ gb286))) BK287.out (by decide)) (fun _ hk => hk.1.1.2) (.bool (t290 == 8))) (fun _ hk => hk.1.2) (.bool x287000_1)) (fun _ hk => hk.2) (.int .i64 (wrap64 (x288000_1 + 1)))) (fun _ hk => ⟨hk.1.1.1.1, hk.1.1.1.2⟩)⟩, ⟨by (with_reducible repeat (first | refine blk_drewN ?_ _ | refine blk_drew ?_ | refine blk_alloc ?_ _)); refine blk_far ?_ NB285_287.out _; (with_reducible repeat (first | refine blk_drewN ?_ _ | refine blk_drew ?_ | refine blk_alloc ?_ _)); refine blk_far ?_ NB285_286.out _; (with_reducible repeat (first | refine blk_drewN ?_ _ | refine blk_drew ?_ | refine blk_alloc ?_ _)); refine blk_put (cs := #[.bool x286000_1]) ?_ 0 _ rfl; (with_reducible repeat (first | refine blk_drewN ?_ _ | refine blk_drew ?_ | refine blk_alloc ?_ _)); exact BK285.out⟩, ⟨by (with_reducible repeat (first | refine blk_drewN ?_ _ | refine blk_drew ?_ | refine blk_alloc ?_ _)); refine blk_far ?_ NB286_287.out _; (with_reducible repeat (first | refine blk_drewN ?_ _ | refine blk_drew ?_ | refine blk_alloc ?_ _)); refine blk_put (cs := #[.bool x287000_1]) ?_ 0 _ rfl; (with_reducible repeat (first | refine blk_drewN ?_ _ | refine blk_drew ?_ | refine blk_alloc ?_ _)); refine blk_far ?_ NB286_285.out _; (with_reducible repeat (first | refine blk_drewN ?_ _ | refine blk_drew ?_ | refine blk_alloc ?_ _)); exact BK286.out⟩, ⟨by (with_reducible repeat (first | refine blk_drewN ?_ _ | refine blk_drew ?_ | refine blk_alloc ?_ _)); refine blk_put (cs := #[.int .i64 x288000_1]) ?_ 0 _ rfl; (with_reducible repeat (first | refine blk_drewN ?_ _ | refine blk_drew ?_ | refine blk_alloc ?_ _)); refine blk_far ?_ NB287_286.out _; (with_reducible repeat (first | refine blk_drewN ?_ _ | refine blk_drew ?_ | refine blk_alloc ?_ _)); refine blk_far ?_ NB287_285.out _; (with_reducible repeat (first | refine blk_drewN ?_ _ | refine blk_drew ?_ | refine blk_alloc ?_ _)); exact BK287.out⟩, ⟨by repeat (first | (with_reducible first | exact HB.out | apply below_alloc | apply pw_below_drewN | apply below_drew1 | refine below_set ?_ GE285.out | refine below_set ?_ GE286.out | refine below_set ?_ GE287.out | refine below_set ?_ GE289.out | refine below_set ?_ GE291.out) | exact HB.out)⟩⟩
                          · rw [if_neg c197] at H
                            have c197b0 : (t290 == 9) = false := beq_eq_false_iff_ne.mpr c197
                            have c197b1 : (t290 != 9) = true := bne_iff_ne.mpr c197
                            have H' := Aside0.mk H
                            clear H
                            have hnb213 := NB291_285.out
                            have hnc213 := NB285_291.out
                            have hnb214 := NB291_286.out
                            have hnc214 := NB286_291.out
                            have hnb215 := NB291_287.out
                            have hnc215 := NB287_291.out
                            have hnb216 := NB291_289.out
                            have hnc216 := NB289_291.out
                            have hcz217_0 : wc.cell? ⟨gb291, 0, none⟩ = some (.int .i64 t290) := (blk_cell BK291.out 0).trans rfl
                            have hfz217_0 := blk_frozen BK291.out 0
                            have hnb218 := NB285_286.out
                            have hnc218 := NB286_285.out
                            have hnb219 := NB285_287.out
                            have hnc219 := NB287_285.out
                            have hnb220 := NB285_289.out
                            have hnc220 := NB289_285.out
                            have hcz221_0 : wc.cell? ⟨gb285, 0, none⟩ = some (.bool x286000_1) := (blk_cell BK285.out 0).trans rfl
                            have hfz221_0 := blk_frozen BK285.out 0
                            have hnb222 := NB289_286.out
                            have hnc222 := NB286_289.out
                            have hnb223 := NB289_287.out
                            have hnc223 := NB287_289.out
                            have hcz224_0 : wc.cell? ⟨gb289, 0, none⟩ = some (.int .i64 (rd l0 x17_1)) := (blk_cell BK289.out 0).trans rfl
                            have hfz224_0 := blk_frozen BK289.out 0
                            have hnb225 := NB286_287.out
                            have hnc225 := NB287_286.out
                            have hcz226_0 : wc.cell? ⟨gb286, 0, none⟩ = some (.bool x287000_1) := (blk_cell BK286.out 0).trans rfl
                            have hfz226_0 := blk_frozen BK286.out 0
                            have hcz227_0 : wc.cell? ⟨gb287, 0, none⟩ = some (.int .i64 x288000_1) := (blk_cell BK287.out 0).trans rfl
                            have hfz227_0 := blk_frozen BK287.out 0
                            go_wp2
                            go_roundg kj18
                            case measure => have := HK1.out; have := HJ18.out; omega
                            case rel => exact ⟨(x3_18), (wrap64 (x17_1 + 1)), ((t290 == 8)), (x287000_1), (0), (by first | rfl | (simp; done) | (simp [*]; done)), H', ⟨by have := HK1.out; have := HJ18.out; omega⟩, ⟨by (with_reducible repeat (first | apply Kd.R_alloc | apply Kd.R_drewN | apply Kd.R_drew)); exact Kd.R_mono (Kd.R_far (p := ⟨gb287, 0, none⟩) (Kd.R_far (p := ⟨gb286, 0, none⟩) (Kd.R_far (p := ⟨gb285, 0, none⟩) (Kd.R_types (Kd.R_mono (Kd.R_mono HO_3.out (fun k_ hk => (⟨hk, hk.1⟩ : _ ∧ k_ ≠ gb285))) (fun k_ hk => (⟨hk, hk.1.2⟩ : _ ∧ k_ ≠ gb286))) BK287.out (by decide)) (fun _ hk => hk.1.1.2) (.bool (t290 == 8))) (fun _ hk => hk.1.2) (.bool x287000_1)) (fun _ hk => hk.2) (.int .i64 0)) (fun _ hk => ⟨hk.1.1.1.1, hk.1.1.1.2⟩)⟩, ⟨by (with_reducible repeat (first | refine blk_drewN ?_ _ | refine blk_drew ?_ | refine blk_alloc ?_ _)); refine blk_far ?_ NB285_287.out _; (with_reducible repeat (first | refine blk_drewN ?_ _ | refine blk_drew ?_ | refine blk_alloc ?_ _)); refine blk_far ?_ NB285_286.out _; (with_reducible repeat (first | refine blk_drewN ?_ _ | refine blk_drew ?_ | refine blk_alloc ?_ _)); refine blk_put (cs := #[.bool x286000_1]) ?_ 0 _ rfl; (with_reducible repeat (first | refine blk_drewN ?_ _ | refine blk_drew ?_ | refine blk_alloc ?_ _)); exact BK285.out⟩, ⟨by (with_reducible repeat (first | refine blk_drewN ?_ _ | refine blk_drew ?_ | refine blk_alloc ?_ _)); refine blk_far ?_ NB286_287.out _; (with_reducible repeat (first | refine blk_drewN ?_ _ | refine blk_drew ?_ | refine blk_alloc ?_ _)); refine blk_put (cs := #[.bool x287000_1]) ?_ 0 _ rfl; (with_reducible repeat (first | refine blk_drewN ?_ _ | refine blk_drew ?_ | refine blk_alloc ?_ _)); refine blk_far ?_ NB286_285.out _; (with_reducible repeat (first | refine blk_drewN ?_ _ | refine blk_drew ?_ | refine blk_alloc ?_ _)); exact BK286.out⟩, ⟨by (with_reducible repeat (first | refine blk_drewN ?_ _ | refine blk_drew ?_ | refine blk_alloc ?_ _)); refine blk_put (cs := #[.int .i64 x288000_1]) ?_ 0 _ rfl; (with_reducible repeat (first | refine blk_drewN ?_ _ | refine blk_drew ?_ | refine blk_alloc ?_ _)); refine blk_far ?_ NB287_286.out _; (with_reducible repeat (first | refine blk_drewN ?_ _ | refine blk_drew ?_ | refine blk_alloc ?_ _)); refine blk_far ?_ NB287_285.out _; (with_reducible repeat (first | refine blk_drewN ?_ _ | refine blk_drew ?_ | refine blk_alloc ?_ _)); exact BK287.out⟩, ⟨by repeat (first | (with_reducible first | exact HB.out | apply below_alloc | apply pw_below_drewN | apply below_drew1 | refine below_set ?_ GE285.out | refine below_set ?_ GE286.out | refine below_set ?_ GE287.out | refine below_set ?_ GE289.out | refine below_set ?_ GE291.out) | exact HB.out)⟩⟩
                        · rw [if_neg c196] at H
                          have c196b0 : ((rd l0 x17_1) == 1585) = false := beq_eq_false_iff_ne.mpr c196
                          have c196b1 : ((rd l0 x17_1) != 1585) = true := bne_iff_ne.mpr c196
                          by_cases c228 : t290 = 9
                          · rw [if_pos c228] at H
                            have c228b0 : (t290 == 9) = true := beq_iff_eq.mpr c228
                            have c228b1 : (t290 != 9) = false := bne_eq_false_iff_eq.mpr c228
                            clear c228
                            have H' := Aside0.mk H
                            clear H
                            have hnb229 := NB291_285.out
                            have hnc229 := NB285_291.out
                            have hnb230 := NB291_286.out
                            have hnc230 := NB286_291.out
                            have hnb231 := NB291_287.out
                            have hnc231 := NB287_291.out
                            have hnb232 := NB291_289.out
                            have hnc232 := NB289_291.out
                            have hcz233_0 : wc.cell? ⟨gb291, 0, none⟩ = some (.int .i64 t290) := (blk_cell BK291.out 0).trans rfl
                            have hfz233_0 := blk_frozen BK291.out 0
                            have hnb234 := NB285_286.out
                            have hnc234 := NB286_285.out
                            have hnb235 := NB285_287.out
                            have hnc235 := NB287_285.out
                            have hnb236 := NB285_289.out
                            have hnc236 := NB289_285.out
                            have hcz237_0 : wc.cell? ⟨gb285, 0, none⟩ = some (.bool x286000_1) := (blk_cell BK285.out 0).trans rfl
                            have hfz237_0 := blk_frozen BK285.out 0
                            have hnb238 := NB289_286.out
                            have hnc238 := NB286_289.out
                            have hnb239 := NB289_287.out
                            have hnc239 := NB287_289.out
                            have hcz240_0 : wc.cell? ⟨gb289, 0, none⟩ = some (.int .i64 (rd l0 x17_1)) := (blk_cell BK289.out 0).trans rfl
                            have hfz240_0 := blk_frozen BK289.out 0
                            have hnb241 := NB286_287.out
                            have hnc241 := NB287_286.out
                            have hcz242_0 : wc.cell? ⟨gb286, 0, none⟩ = some (.bool x287000_1) := (blk_cell BK286.out 0).trans rfl
                            have hfz242_0 := blk_frozen BK286.out 0
                            have hcz243_0 : wc.cell? ⟨gb287, 0, none⟩ = some (.int .i64 x288000_1) := (blk_cell BK287.out 0).trans rfl
                            have hfz243_0 := blk_frozen BK287.out 0
                            go_wp2
                            go_roundg kj18
                            case measure => have := HK1.out; have := HJ18.out; omega
                            case rel => exact ⟨(x3_18), (wrap64 (x17_1 + 1)), ((t290 == 8)), (false), (wrap64 (x288000_1 + 1)), (by first | rfl | (simp; done) | (simp [*]; done)), H', ⟨by have := HK1.out; have := HJ18.out; omega⟩, ⟨by (with_reducible repeat (first | apply Kd.R_alloc | apply Kd.R_drewN | apply Kd.R_drew)); exact Kd.R_mono (Kd.R_far (p := ⟨gb287, 0, none⟩) (Kd.R_far (p := ⟨gb286, 0, none⟩) (Kd.R_far (p := ⟨gb285, 0, none⟩) (Kd.R_types (Kd.R_mono (Kd.R_mono HO_3.out (fun k_ hk => (⟨hk, hk.1⟩ : _ ∧ k_ ≠ gb285))) (fun k_ hk => (⟨hk, hk.1.2⟩ : _ ∧ k_ ≠ gb286))) BK287.out (by decide)) (fun _ hk => hk.1.1.2) (.bool (t290 == 8))) (fun _ hk => hk.1.2) (.bool false)) (fun _ hk => hk.2) (.int .i64 (wrap64 (x288000_1 + 1)))) (fun _ hk => ⟨hk.1.1.1.1, hk.1.1.1.2⟩)⟩, ⟨by (with_reducible repeat (first | refine blk_drewN ?_ _ | refine blk_drew ?_ | refine blk_alloc ?_ _)); refine blk_far ?_ NB285_287.out _; (with_reducible repeat (first | refine blk_drewN ?_ _ | refine blk_drew ?_ | refine blk_alloc ?_ _)); refine blk_far ?_ NB285_286.out _; (with_reducible repeat (first | refine blk_drewN ?_ _ | refine blk_drew ?_ | refine blk_alloc ?_ _)); refine blk_put (cs := #[.bool x286000_1]) ?_ 0 _ rfl; (with_reducible repeat (first | refine blk_drewN ?_ _ | refine blk_drew ?_ | refine blk_alloc ?_ _)); exact BK285.out⟩, ⟨by (with_reducible repeat (first | refine blk_drewN ?_ _ | refine blk_drew ?_ | refine blk_alloc ?_ _)); refine blk_far ?_ NB286_287.out _; (with_reducible repeat (first | refine blk_drewN ?_ _ | refine blk_drew ?_ | refine blk_alloc ?_ _)); refine blk_put (cs := #[.bool x287000_1]) ?_ 0 _ rfl; (with_reducible repeat (first | refine blk_drewN ?_ _ | refine blk_drew ?_ | refine blk_alloc ?_ _)); refine blk_far ?_ NB286_285.out _; (with_reducible repeat (first | refine blk_drewN ?_ _ | refine blk_drew ?_ | refine blk_alloc ?_ _)); exact BK286.out⟩, ⟨by (with_reducible repeat (first | refine blk_drewN ?_ _ | refine blk_drew ?_ | refine blk_alloc ?_ _)); refine blk_put (cs := #[.int .i64 x288000_1]) ?_ 0 _ rfl; (with_reducible repeat (first | refine blk_drewN ?_ _ | refine blk_drew ?_ | refine blk_alloc ?_ _)); refine blk_far ?_ NB287_286.out _; (with_reducible repeat (first | refine blk_drewN ?_ _ | refine blk_drew ?_ | refine blk_alloc ?_ _)); refine blk_far ?_ NB287_285.out _; (with_reducible repeat (first | refine blk_drewN ?_ _ | refine blk_drew ?_ | refine blk_alloc ?_ _)); exact BK287.out⟩, ⟨by repeat (first | (with_reducible first | exact HB.out | apply below_alloc | apply pw_below_drewN | apply below_drew1 | refine below_set ?_ GE285.out | refine below_set ?_ GE286.out | refine below_set ?_ GE287.out | refine below_set ?_ GE289.out | refine below_set ?_ GE291.out) | exact HB.out)⟩⟩
                          · rw [if_neg c228] at H
                            have c228b0 : (t290 == 9) = false := beq_eq_false_iff_ne.mpr c228
                            have c228b1 : (t290 != 9) = true := bne_iff_ne.mpr c228
                            have H' := Aside0.mk H
                            clear H
                            have hnb244 := NB291_285.out
                            have hnc244 := NB285_291.out
                            have hnb245 := NB291_286.out
                            have hnc245 := NB286_291.out
                            have hnb246 := NB291_287.out
                            have hnc246 := NB287_291.out
                            have hnb247 := NB291_289.out
                            have hnc247 := NB289_291.out
                            have hcz248_0 : wc.cell? ⟨gb291, 0, none⟩ = some (.int .i64 t290) := (blk_cell BK291.out 0).trans rfl
                            have hfz248_0 := blk_frozen BK291.out 0
                            have hnb249 := NB285_286.out
                            have hnc249 := NB286_285.out
                            have hnb250 := NB285_287.out
                            have hnc250 := NB287_285.out
                            have hnb251 := NB285_289.out
                            have hnc251 := NB289_285.out
                            have hcz252_0 : wc.cell? ⟨gb285, 0, none⟩ = some (.bool x286000_1) := (blk_cell BK285.out 0).trans rfl
                            have hfz252_0 := blk_frozen BK285.out 0
                            have hnb253 := NB289_286.out
                            have hnc253 := NB286_289.out
                            have hnb254 := NB289_287.out
                            have hnc254 := NB287_289.out
                            have hcz255_0 : wc.cell? ⟨gb289, 0, none⟩ = some (.int .i64 (rd l0 x17_1)) := (blk_cell BK289.out 0).trans rfl
                            have hfz255_0 := blk_frozen BK289.out 0
                            have hnb256 := NB286_287.out
                            have hnc256 := NB287_286.out
                            have hcz257_0 : wc.cell? ⟨gb286, 0, none⟩ = some (.bool x287000_1) := (blk_cell BK286.out 0).trans rfl
                            have hfz257_0 := blk_frozen BK286.out 0
                            have hcz258_0 : wc.cell? ⟨gb287, 0, none⟩ = some (.int .i64 x288000_1) := (blk_cell BK287.out 0).trans rfl
                            have hfz258_0 := blk_frozen BK287.out 0
                            go_wp2
                            go_roundg kj18
                            case measure => have := HK1.out; have := HJ18.out; omega
                            case rel => exact ⟨(x3_18), (wrap64 (x17_1 + 1)), ((t290 == 8)), (false), (0), (by first | rfl | (simp; done) | (simp [*]; done)), H', ⟨by have := HK1.out; have := HJ18.out; omega⟩, ⟨by (with_reducible repeat (first | apply Kd.R_alloc | apply Kd.R_drewN | apply Kd.R_drew)); exact Kd.R_mono (Kd.R_far (p := ⟨gb287, 0, none⟩) (Kd.R_far (p := ⟨gb286, 0, none⟩) (Kd.R_far (p := ⟨gb285, 0, none⟩) (Kd.R_types (Kd.R_mono (Kd.R_mono HO_3.out (fun k_ hk => (⟨hk, hk.1⟩ : _ ∧ k_ ≠ gb285))) (fun k_ hk => (⟨hk, hk.1.2⟩ : _ ∧ k_ ≠ gb286))) BK287.out (by decide)) (fun _ hk => hk.1.1.2) (.bool (t290 == 8))) (fun _ hk => hk.1.2) (.bool false)) (fun _ hk => hk.2) (.int .i64 0)) (fun _ hk => ⟨hk.1.1.1.1, hk.1.1.1.2⟩)⟩, ⟨by (with_reducible repeat (first | refine blk_drewN ?_ _ | refine blk_drew ?_ | refine blk_alloc ?_ _)); refine blk_far ?_ NB285_287.out _; (with_reducible repeat (first | refine blk_drewN ?_ _ | refine blk_drew ?_ | refine blk_alloc ?_ _)); refine blk_far ?_ NB285_286.out _; (with_reducible repeat (first | refine blk_drewN ?_ _ | refine blk_drew ?_ | refine blk_alloc ?_ _)); refine blk_put (cs := #[.bool x286000_1]) ?_ 0 _ rfl; (with_reducible repeat (first | refine blk_drewN ?_ _ | refine blk_drew ?_ | refine blk_alloc ?_ _)); exact BK285.out⟩, ⟨by (with_reducible repeat (first | refine blk_drewN ?_ _ | refine blk_drew ?_ | refine blk_alloc ?_ _)); refine blk_far ?_ NB286_287.out _; (with_reducible repeat (first | refine blk_drewN ?_ _ | refine blk_drew ?_ | refine blk_alloc ?_ _)); refine blk_put (cs := #[.bool x287000_1]) ?_ 0 _ rfl; (with_reducible repeat (first | refine blk_drewN ?_ _ | refine blk_drew ?_ | refine blk_alloc ?_ _)); refine blk_far ?_ NB286_285.out _; (with_reducible repeat (first | refine blk_drewN ?_ _ | refine blk_drew ?_ | refine blk_alloc ?_ _)); exact BK286.out⟩, ⟨by (with_reducible repeat (first | refine blk_drewN ?_ _ | refine blk_drew ?_ | refine blk_alloc ?_ _)); refine blk_put (cs := #[.int .i64 x288000_1]) ?_ 0 _ rfl; (with_reducible repeat (first | refine blk_drewN ?_ _ | refine blk_drew ?_ | refine blk_alloc ?_ _)); refine blk_far ?_ NB287_286.out _; (with_reducible repeat (first | refine blk_drewN ?_ _ | refine blk_drew ?_ | refine blk_alloc ?_ _)); refine blk_far ?_ NB287_285.out _; (with_reducible repeat (first | refine blk_drewN ?_ _ | refine blk_drew ?_ | refine blk_alloc ?_ _)); exact BK287.out⟩, ⟨by repeat (first | (with_reducible first | exact HB.out | apply below_alloc | apply pw_below_drewN | apply below_drew1 | refine below_set ?_ GE285.out | refine below_set ?_ GE286.out | refine below_set ?_ GE287.out | refine below_set ?_ GE289.out | refine below_set ?_ GE291.out) | exact HB.out)⟩⟩
              · rw [if_neg c17] at H
                exact absurd H (by simp)
            · rw [if_neg c16] at H
              exact absurd H (by simp)
          · rw [if_neg c15] at H
            have c15b0 : decide (x17_1 < (l0.length : Int)) = false := decide_eq_false c15
            clear c15
            obtain rfl := Option.some.inj H
            go_wp2
            go_ret
            exact ⟨_, by first | rfl | (simp [errW_none, errW_some] <;> rfl) | (simp [*, errW_none, errW_some] <;> rfl), by (with_reducible repeat (first | apply Kd.R_alloc | apply Kd.R_drewN | apply Kd.R_drew)); exact Kd.R_mono HO_3.out (fun _ hk => trivial), by repeat (first | (with_reducible first | exact HB.out | apply below_alloc | apply pw_below_drewN | apply below_drew1 | refine below_set ?_ GE285.out | refine below_set ?_ GE286.out | refine below_set ?_ GE287.out) | exact HB.out)⟩
    · rw [if_neg c3] at H
      exact absurd H (by simp)
  · rw [if_neg c2] at H
    exact absurd H (by simp)

end Go.Proofs.YtmlhnpggjkoinaaDoor.PFnExactCharCuts

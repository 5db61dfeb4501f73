-- Written by a program of this session (wip/tools/myprint.py) that runs the kit's print with hooks of its own. Lean checks it.
import Derived.Test.YtnbedmihgnjdpaaDoorPFnExactQuickCheckx0
import Derived.Test.YtnbedmihgnjdpaaDoorSlimStep
import Derived.Test.YtnbedmihgnjdpaaDoorPFnExactQuickCheckx6
import Derived.Test.YtnbedmihgnjdpaaDoorPFnExactQuickCheckx7
import Derived.Test.YtnbedmihgnjdpaaDoorPFnExactQuickCheckx9
import Derived.Test.YtnbedmihgnjdpaaDoorPFnExactQuickCheckx10
namespace Go.Proofs.YtnbedmihgnjdpaaDoor.PFnExactQuickCheck
open Go.RowKit Go.Proofs.YtnbedmihgnjdpaaDoorW.PrintWords Go.Proofs.YtnbedmihgnjdpaaDoorW.PrintLast Go.Proofs.YtnbedmihgnjdpaaDoorW.PrintMore
attribute [local go_sem] max2_int min2_int max_two min_two max_three min_three max_four min_four   -- for this text's walks alone
set_option linter.unusedVariables false
set_option linter.unusedSimpArgs false

/-! ### impl_QuickCheck: function 17 -/
mutual
def impl_QuickCheck.j0 : Nat → Int → ByteArray → Bool → Option (Int)
 | 0, _, _, _ => none
 | k + 1, x0, x1, x16 => if x16 = true then (some 0) else ((impl_read.f k x1).bind fun t363 => (impl_QuickCheck.l0 k x0 1 0 t363 (t363.length : Int) 0))
def impl_QuickCheck.l0 : Nat → Int → Int → Int → List (S63) → Int → Int → Option (Int)
 | 0, _, _, _, _, _, _ => none
 | k + 1, x0, x5, x6, x18, x19, x20 => if x20 < x19 then (if 0 ≤ x20 then (if x20 < (x18.length : Int) then ((impl_MarkClass.f ((rd_T63 x18 x20).f0)).bind fun t368 => (if (rd_T63 x18 x20).f3 = true then (impl_QuickCheck.j2 k x0 x5 t368 x18 x19 x20 true ((rd_T63 x18 x20).f0) ((rd_T63 x18 x20).f1) ((rd_T63 x18 x20).f2) ((rd_T63 x18 x20).f3)) else (if t368 = 0 then ((impl_normal.f k x0 (([(rd_T63 x18 x20).f0] : List Int))).bind fun t372 => ((slices_Equal_int64_int64.f k t372 (([(rd_T63 x18 x20).f0] : List Int))).bind fun t378 => (impl_QuickCheck.j2 k x0 x5 t368 x18 x19 x20 (!t378) ((rd_T63 x18 x20).f0) ((rd_T63 x18 x20).f1) ((rd_T63 x18 x20).f2) ((rd_T63 x18 x20).f3)))) else (if t368 < x6 then (impl_QuickCheck.j2 k x0 x5 t368 x18 x19 x20 true ((rd_T63 x18 x20).f0) ((rd_T63 x18 x20).f1) ((rd_T63 x18 x20).f2) ((rd_T63 x18 x20).f3)) else ((impl_normal.f k x0 (([(rd_T63 x18 x20).f0] : List Int))).bind fun t382 => ((slices_Equal_int64_int64.f k t382 (([(rd_T63 x18 x20).f0] : List Int))).bind fun t388 => (impl_QuickCheck.j2 k x0 x5 t368 x18 x19 x20 (!t388) ((rd_T63 x18 x20).f0) ((rd_T63 x18 x20).f1) ((rd_T63 x18 x20).f2) ((rd_T63 x18 x20).f3)))))))) else (none)) else (none)) else (some x5)
def impl_QuickCheck.j2 : Nat → Int → Int → Int → List (S63) → Int → Int → Bool → Int → Int → Int → Bool → Option (Int)
 | 0, _, _, _, _, _, _, _, _, _, _, _ => none
 | k + 1, x0, x5, x9, x18, x19, x20, x49, x368000, x368001, x368002, x368003 => if x49 = true then (some 2) else (if x0 = 2 then ((impl_isSecond.f x368000).bind fun t389 => (if t389 = true then (impl_QuickCheck.l0 k x0 3 x9 x18 x19 (wrap64 (x20 + 1))) else (impl_QuickCheck.l0 k x0 x5 x9 x18 x19 (wrap64 (x20 + 1))))) else (if x0 = 4 then ((impl_isSecond.f x368000).bind fun t390 => (if t390 = true then (impl_QuickCheck.l0 k x0 3 x9 x18 x19 (wrap64 (x20 + 1))) else (impl_QuickCheck.l0 k x0 x5 x9 x18 x19 (wrap64 (x20 + 1))))) else (impl_QuickCheck.l0 k x0 x5 x9 x18 x19 (wrap64 (x20 + 1)))))
end
def impl_QuickCheck.f (k : Nat) (a0 : Int) (a1 : ByteArray) : Option (Int) := (impl_long.f a1).bind fun t361 => (if t361 = true then (impl_QuickCheck.j0 k a0 a1 true) else ((impl_isNorm.f a0).bind fun t362 => (impl_QuickCheck.j0 k a0 a1 (!t362))))
def impl_QuickCheck.T9 : Bool × List (List Nat × List Nat) := (true, [([], []), ([0], [0]), ([1], [1]), ([2], [2]), ([3, 2], [2, 3]), ([4, 2, 2], [2, 4]), ([5], [5]), ([5], [5]), ([6, 7, 5], [5, 6, 7]), ([5, 8, 2], [2, 5, 8]), ([2, 9], [2, 9]), ([10, 5], [10]), ([11], [11]), ([11], [11]), ([13, 11], [11, 13]), ([14, 11], [11, 14]), ([12, 15, 11, 11], [11, 12, 15]), ([11], [11]), ([17, 11], [11, 17]), ([18, 11], [11, 18]), ([16, 19, 16, 11], [11, 16, 19]), ([20, 11], [11, 20]), ([11, 21], [11, 21])])
def impl_QuickCheck.B9 : List Nat := [0, 1, 3, 7, 15, 31, 63, 63, 255, 511, 1023, 2047, 4095, 4095, 12287, 28671, 65535, 4095, 135167, 397311, 1048575, 2097151, 4194303]
theorem impl_QuickCheck.tab9 : rtab .any (opsOf Tryd.f17 9) = impl_QuickCheck.T9 := by kernel_rfl
theorem impl_QuickCheck.bits9 : waitsOk impl_QuickCheck.T9.2 impl_QuickCheck.B9 = true := by kernel_rfl
set_option maxHeartbeats 8000000 in
set_option maxRecDepth 100000 in
theorem impl_QuickCheck.calls (k : Nat) (a0 : Int) (a1 : ByteArray) (r : Int) (w : World) (hG : GL w) (h : impl_QuickCheck.f k a0 a1 = some r) :
  Calls Tryd.prog 17 #[.int .i64 a0, .string a1] w fun e w' => e = .returned (.int .i64 r) ∧ Below w.heap.size w w' := by
 have hu63 := Tryd.underlying63
 have HGL := Aside0.mk hG
 clear hG
 have HB := Aside0.mk (Below.refl w.heap.size w)
 have H : ((impl_long.f a1).bind fun t361 => (if t361 = true then (impl_QuickCheck.j0 k a0 a1 true) else ((impl_isNorm.f a0).bind fun t362 => (impl_QuickCheck.j0 k a0 a1 (!t362))))) = some r := h
 clear h
 have HC3 := Aside0.mk H
 clear H
 go_enter Tryd.func17, Tryd.ntmps17
 go_upto_region 1 with (fail)
 go_cut [16] (fun v16 wc => ∃ (kq : Nat) (x16_2 : Bool), v16 = .bool x16_2 ∧ Aside0 (impl_QuickCheck.j0 kq a0 a1 x16_2 = some r) ∧ Aside0 (kq ≤ k) ∧ Aside0 (Below w.heap.size w wc))
 case first =>
  have H := HC3.out
  clear HC3
  replace H := Option.bind_eq_some_iff.mp H
  obtain ⟨t361, A40, H⟩ := H
  replace H : (if t361 = true then (impl_QuickCheck.j0 k a0 a1 true) else ((impl_isNorm.f a0).bind fun t362 => (impl_QuickCheck.j0 k a0 a1 (!t362)))) = some r := H
  have A4 := Aside0.mk A40
  clear A40
  by_cases c5 : t361 = true
  ·subst c5
   have H1 : (impl_QuickCheck.j0 k a0 a1 true) = some r := by rw [if_pos rfl] at H; exact H
   clear H
   have H := H1
   clear H1
   have H' := Aside0.mk H
   clear H
   go_wp2_with (first | ((with_reducible refine gate_callee (f := 39) rfl ?_); refine goesL_ (some 11) rfl rfl Tryd.func39 (by kernel_rfl) rfl #[.string a1] rfl (by (try simp only [List.map_toArray, List.map_cons, List.map_nil]); first | done | rfl | (simp only [List.length_drop, List.length_take]; rfl)) ?_; (with_reducible refine (impl_long.calls a1 true _ A4.out).mono ?_); rintro e w' ⟨rfl, ⟨nd, rfl⟩⟩; refine ⟨_, rfl, ?_⟩))
   go_meet
   case rel => exact ⟨_, (true), (by first | rfl | (simp; done) | (simp [*]; done)), H', ⟨by first | omega | exact Nat.le_refl _⟩, ⟨by repeat (first | (with_reducible first | exact HB.out | apply below_alloc | apply pw_below_drewN | apply below_drew1) | exact HB.out)⟩⟩
  ·replace c5 := Bool.eq_false_iff.mpr c5
   subst c5
   have H1 : ((impl_isNorm.f a0).bind fun t362 => (impl_QuickCheck.j0 k a0 a1 (!t362))) = some r := by rw [if_neg (show ¬ (false = true) by decide)] at H; exact H
   clear H
   have H := H1
   clear H1
   replace H := Option.bind_eq_some_iff.mp H
   obtain ⟨t362, A60, H⟩ := H
   replace H : (impl_QuickCheck.j0 k a0 a1 (!t362)) = some r := H
   have A6 := Aside0.mk A60
   clear A60
   have H' := Aside0.mk H
   clear H
   go_wp2_with (first | ((with_reducible refine gate_callee (f := 39) rfl ?_); refine goesL_ (some 11) rfl rfl Tryd.func39 (by kernel_rfl) rfl #[.string a1] rfl (by (try simp only [List.map_toArray, List.map_cons, List.map_nil]); first | done | rfl | (simp only [List.length_drop, List.length_take]; rfl)) ?_; (with_reducible refine (impl_long.calls a1 false _ A4.out).mono ?_); rintro e w' ⟨rfl, ⟨nd, rfl⟩⟩; refine ⟨_, rfl, ?_⟩) | (go_at_call 40; (with_reducible refine (impl_isNorm.calls a0 t362 _ A6.out).mono ?_); rintro e w' ⟨rfl, ⟨nd, rfl⟩⟩))
   go_meet
   case rel => exact ⟨_, (!t362), (by first | rfl | (simp; done) | (simp [*]; done)), H', ⟨by first | omega | exact Nat.le_refl _⟩, ⟨by repeat (first | (with_reducible first | exact HB.out | apply below_alloc | apply pw_below_drewN | apply below_drew1) | exact HB.out)⟩⟩
 case rest =>
  clear HC3
  try clear c1
  try clear p2
  try clear c3
  try clear c5
  obtain ⟨kq, x16_2, rfl, HA, HJ2, HB⟩ := hcut
  cases kq with
  | zero => exact absurd HA.out (by simp [impl_QuickCheck.j0])
  | succ kj2 =>
   have H := HA.out
   clear HA
   simp only [impl_QuickCheck.j0] at H
   by_cases c7 : x16_2 = true
   ·subst c7
    have H1 : (some 0) = some r := by rw [if_pos rfl] at H; exact H
    clear H
    have H := H1
    clear H1
    obtain rfl := Option.some.inj H
    go_wp2
    go_ret
    exact ⟨by first | rfl | (simp [errW_none, errW_some] <;> rfl) | (simp [*, errW_none, errW_some] <;> rfl), by repeat (first | (with_reducible first | exact HB.out | apply below_alloc | apply pw_below_drewN | apply below_drew1) | exact HB.out)⟩
   ·replace c7 := Bool.eq_false_iff.mpr c7
    subst c7
    have H1 : ((impl_read.f kj2 a1).bind fun t363 => (impl_QuickCheck.l0 kj2 a0 1 0 t363 (t363.length : Int) 0)) = some r := by rw [if_neg (show ¬ (false = true) by decide)] at H; exact H
    clear H
    have H := H1
    clear H1
    replace H := Option.bind_eq_some_iff.mp H
    obtain ⟨t363, A80, H⟩ := H
    replace H : (impl_QuickCheck.l0 kj2 a0 1 0 t363 (t363.length : Int) 0) = some r := H
    have A8 := Aside0.mk A80
    clear A80
    have H' := Aside0.mk H
    clear H
    go_wp2_with (first | ((with_reducible refine gate_callee (f := 50) rfl ?_); refine goesL_ (some 18) rfl rfl Tryd.func50 (by kernel_rfl) rfl #[.string a1] rfl (by (try simp only [List.map_toArray, List.map_cons, List.map_nil]); first | done | rfl | (simp only [List.length_drop, List.length_take]; rfl)) ?_; (with_reducible refine (impl_read.calls kj2 a1 t363 _ ?side1 A8.out).mono ?_); (case side1 => first | exact HGL.out | exact GL_below HGL.out (by repeat (first | (with_reducible first | exact HB.out | apply below_alloc | apply pw_below_drewN | apply below_drew1) | exact HB.out))); rintro e w9 ⟨v364, rfl, ho0, hb⟩; refine ⟨_, rfl, ?_⟩; have n0_ := Aside0.mk (Kd.R_lower ho0 (below_size (by repeat (first | (with_reducible first | exact HB.out | apply below_alloc | apply pw_below_drewN | apply below_drew1) | exact HB.out)))); have n1_ := Aside0.mk (below_step (by repeat (first | (with_reducible first | exact HB.out | apply below_alloc | apply pw_below_drewN | apply below_drew1) | exact HB.out)) hb); clear HB; have HO365 := n0_; have HB := n1_; clear n0_ n1_; (try clear hb); (try clear hb2); (try clear hk); (try clear hi); (try clear ho0); obtain ⟨Ao10, co10, eo10⟩ := Kd.R_slice HO365.out; subst eo10))
    go_loopg [5, 6, 20] kj2 (fun kq v5 v6 v20 w' => ∃ (x5_2 : Int) (x6_2 : Int) (x20_2 : Int), v5 = .int .i64 x5_2 ∧ v6 = .int .i64 x6_2 ∧ v20 = .int .i64 x20_2 ∧ Aside0 (impl_QuickCheck.l0 kq a0 x5_2 x6_2 t363 (t363.length : Int) x20_2 = some r) ∧ Aside0 (kq ≤ kj2) ∧ Aside0 (Kd.R k63 63 w' w.heap.size (fun _ => True) (.slice Ao10 t363.length co10) t363) ∧ Aside0 (Below w.heap.size w w'))
    case atStart => exact ⟨(1), (0), (0), (by first | rfl | (simp; done) | (simp [*]; done)), (by first | rfl | (simp; done) | (simp [*]; done)), (by first | rfl | (simp; done) | (simp [*]; done)), H', ⟨Nat.le_refl _⟩, ⟨by (with_reducible repeat (first | apply Kd.R_alloc | apply Kd.R_drewN | apply Kd.R_drew)); exact HO365.out⟩, ⟨by repeat (first | (with_reducible first | exact HB.out | apply below_alloc | apply pw_below_drewN | apply below_drew1) | exact HB.out)⟩⟩
    case round =>
     clear H'
     try clear c1
     try clear p2
     try clear c3
     try clear c5
     try clear c7
     try clear p2
     obtain ⟨x5_2, x6_2, x20_2, rfl, rfl, rfl, HA, HK2, HO_18, HB⟩ := hrel
     cases gk with
     | zero => exact absurd HA.out (by simp [impl_QuickCheck.l0])
     | succ k2 =>
      have H := HA.out
      clear HA
      simp only [impl_QuickCheck.l0] at H
      by_cases c11 : x20_2 < (t363.length : Int)
      ·rw [if_pos c11] at H
       have c11b0 : decide (x20_2 < (t363.length : Int)) = true := decide_eq_true c11
       clear c11
       by_cases c12 : 0 ≤ x20_2
       ·rw [if_pos c12] at H
        have c12b0 : decide (0 ≤ x20_2) = true := decide_eq_true c12
        clear c12
        by_cases c13 : x20_2 < (t363.length : Int)
        ·rw [if_pos c13] at H
         have c13b0 : decide (x20_2 < (t363.length : Int)) = true := decide_eq_true c13
         clear c13
         replace H := Option.bind_eq_some_iff.mp H
         obtain ⟨t368, A140, H⟩ := H
         replace H : (if (rd_T63 t363 x20_2).f3 = true then (impl_QuickCheck.j2 k2 a0 x5_2 t368 t363 (t363.length : Int) x20_2 true ((rd_T63 t363 x20_2).f0) ((rd_T63 t363 x20_2).f1) ((rd_T63 t363 x20_2).f2) ((rd_T63 t363 x20_2).f3)) else (if t368 = 0 then ((impl_normal.f k2 a0 (([(rd_T63 t363 x20_2).f0] : List Int))).bind fun t372 => ((slices_Equal_int64_int64.f k2 t372 (([(rd_T63 t363 x20_2).f0] : List Int))).bind fun t378 => (impl_QuickCheck.j2 k2 a0 x5_2 t368 t363 (t363.length : Int) x20_2 (!t378) ((rd_T63 t363 x20_2).f0) ((rd_T63 t363 x20_2).f1) ((rd_T63 t363 x20_2).f2) ((rd_T63 t363 x20_2).f3)))) else (if t368 < x6_2 then (impl_QuickCheck.j2 k2 a0 x5_2 t368 t363 (t363.length : Int) x20_2 true ((rd_T63 t363 x20_2).f0) ((rd_T63 t363 x20_2).f1) ((rd_T63 t363 x20_2).f2) ((rd_T63 t363 x20_2).f3)) else ((impl_normal.f k2 a0 (([(rd_T63 t363 x20_2).f0] : List Int))).bind fun t382 => ((slices_Equal_int64_int64.f k2 t382 (([(rd_T63 t363 x20_2).f0] : List Int))).bind fun t388 => (impl_QuickCheck.j2 k2 a0 x5_2 t368 t363 (t363.length : Int) x20_2 (!t388) ((rd_T63 t363 x20_2).f0) ((rd_T63 t363 x20_2).f1) ((rd_T63 t363 x20_2).f2) ((rd_T63 t363 x20_2).f3))))))) = some r := H
         have A14 := Aside0.mk A140
         clear A140
         have HC15 := Aside0.mk H
         clear H
         have p366 : 0 ≤ (x20_2 : Int) := of_decide_eq_true (by first | (with_reducible assumption) | assumption)
         have q366 : x20_2 < (t363.length : Int) := of_decide_eq_true (by first | (with_reducible assumption) | assumption)
         obtain ⟨ad366, e366, hx366_0, hx366_1, hx366_2, hx366_3⟩ := at_T63 (Kd.R_reads' HO_18.out).2.2 x20_2 p366 q366
         cases e366
         replace p366 := eq_true p366
         replace q366 := eq_true q366
         go_upto_region 9 with (first | ((with_reducible refine gate_dst (N := 8) rfl ?_); (try (refine gate_guard (by rfl) ?_; dsimp only)); refine box_event ?hg (N := 8) ?hd (cs := #[.int .i64 0, .int .i64 0, .int .i64 0, .bool false]) (t := 63) ?hr ?_; (case hd => rfl); (case hg => rfl); (case hr => first | (go_simp; done) | (go_simp; rfl)); intro gb367 hg w16 hbox hb; have n0_ := Aside0.mk (Kd.R_below (Kd.R_elderB (by (with_reducible repeat (first | apply Kd.R_alloc | apply Kd.R_drewN | apply Kd.R_drew)); exact HO_18.out) gb367 (Nat.le_of_eq hg.symm)) hb); have n1_ := Aside0.mk (below_step (by repeat (first | (with_reducible first | exact HB.out | apply below_alloc | apply pw_below_drewN | apply below_drew1) | exact HB.out)) hb); have n2_ := Aside0.mk (hbox); have n3_ := Aside0.mk ((by rw [hg]; exact (below_size (by repeat (first | (with_reducible first | exact HB.out | apply below_alloc | apply pw_below_drewN | apply below_drew1) | exact HB.out))) : w.heap.size ≤ gb367)); have n4_ := Aside0.mk ((by rw [hg]; exact (below_size (by repeat (first | (with_reducible first | exact HB.out | apply below_alloc | apply pw_below_drewN | apply below_drew1) | exact HB.out))) : w.heap.size ≤ gb367)); clear HO_18; clear HB; have HO_18 := n0_; have HB := n1_; have BK367 := n2_; have GW367 := n3_; have GE367 := n4_; clear n0_ n1_ n2_ n3_ n4_; clear hb hbox hg; have hcz17_0 : w16.cell? ⟨gb367, 0, none⟩ = some (.int .i64 0) := (blk_cell BK367.out 0).trans rfl; have hcz17_1 : w16.cell? ⟨gb367, 1, none⟩ = some (.int .i64 0) := (blk_cell BK367.out 1).trans rfl; have hcz17_2 : w16.cell? ⟨gb367, 2, none⟩ = some (.int .i64 0) := (blk_cell BK367.out 2).trans rfl; have hcz17_3 : w16.cell? ⟨gb367, 3, none⟩ = some (.bool false) := (blk_cell BK367.out 3).trans rfl; have hfz17_0 := blk_frozen BK367.out 0; have hfz17_1 := blk_frozen BK367.out 1; have hfz17_2 := blk_frozen BK367.out 2; have hfz17_3 := blk_frozen BK367.out 3) | ((with_reducible refine gate_callee (f := 51) rfl ?_); refine goesL_ (some 26) rfl rfl Tryd.func51 (by kernel_rfl) rfl #[.int .i64 ((rd_T63 t363 x20_2).f0)] rfl (by (try simp only [List.map_toArray, List.map_cons, List.map_nil]); first | done | rfl | (simp only [List.length_drop, List.length_take]; rfl)) ?_; (with_reducible refine (impl_MarkClass.calls ((rd_T63 t363 x20_2).f0) t368 _ A14.out).mono ?_); rintro e w' ⟨rfl, ⟨nd, rfl⟩⟩; refine ⟨_, rfl, ?_⟩))
         (try simp only [Act.put, List.setIfInBounds_toArray, List.set_cons_zero, List.set_cons_succ])
         go_cut [49] (fun v49 wc => ∃ (kq : Nat) (x49_14 : Bool), v49 = .bool x49_14 ∧ Aside0 (impl_QuickCheck.j2 kq a0 x5_2 t368 t363 (t363.length : Int) x20_2 x49_14 ((rd_T63 t363 x20_2).f0) ((rd_T63 t363 x20_2).f1) ((rd_T63 t363 x20_2).f2) ((rd_T63 t363 x20_2).f3) = some r) ∧ Aside0 (kq ≤ k2) ∧ Aside0 (Kd.R k63 63 wc w.heap.size (fun k_ => k_ ≠ gb367) (.slice (some ad366) t363.length co10) t363) ∧ Aside0 (wc.heap[gb367]? = some (.cells #[.int .i64 ((rd_T63 t363 x20_2).f0), .int .i64 ((rd_T63 t363 x20_2).f1), .int .i64 ((rd_T63 t363 x20_2).f2), .bool ((rd_T63 t363 x20_2).f3)] 63 (0, 0))) ∧ Aside0 (Below w.heap.size w wc))
         case first =>
          have H := HC15.out
          clear HC15
          obtain ⟨bq18, hbq18⟩ : ∃ b_ : Bool, b_ = ((rd_T63 t363 x20_2).f3) := ⟨_, rfl⟩
          replace H : (if bq18 = true then (impl_QuickCheck.j2 k2 a0 x5_2 t368 t363 (t363.length : Int) x20_2 true ((rd_T63 t363 x20_2).f0) ((rd_T63 t363 x20_2).f1) ((rd_T63 t363 x20_2).f2) bq18) else (if t368 = 0 then ((impl_normal.f k2 a0 (([(rd_T63 t363 x20_2).f0] : List Int))).bind fun t372 => ((slices_Equal_int64_int64.f k2 t372 (([(rd_T63 t363 x20_2).f0] : List Int))).bind fun t378 => (impl_QuickCheck.j2 k2 a0 x5_2 t368 t363 (t363.length : Int) x20_2 (!t378) ((rd_T63 t363 x20_2).f0) ((rd_T63 t363 x20_2).f1) ((rd_T63 t363 x20_2).f2) bq18))) else (if t368 < x6_2 then (impl_QuickCheck.j2 k2 a0 x5_2 t368 t363 (t363.length : Int) x20_2 true ((rd_T63 t363 x20_2).f0) ((rd_T63 t363 x20_2).f1) ((rd_T63 t363 x20_2).f2) bq18) else ((impl_normal.f k2 a0 (([(rd_T63 t363 x20_2).f0] : List Int))).bind fun t382 => ((slices_Equal_int64_int64.f k2 t382 (([(rd_T63 t363 x20_2).f0] : List Int))).bind fun t388 => (impl_QuickCheck.j2 k2 a0 x5_2 t368 t363 (t363.length : Int) x20_2 (!t388) ((rd_T63 t363 x20_2).f0) ((rd_T63 t363 x20_2).f1) ((rd_T63 t363 x20_2).f2) bq18)))))) = some r := by rw [← hbq18] at H; exact H
          have Nbq18 := Aside0.mk hbq18
          clear hbq18
          (try rw [← Nbq18.out])
          by_cases c19 : bq18 = true
          ·subst c19
           have H1 : (impl_QuickCheck.j2 k2 a0 x5_2 t368 t363 (t363.length : Int) x20_2 true ((rd_T63 t363 x20_2).f0) ((rd_T63 t363 x20_2).f1) ((rd_T63 t363 x20_2).f2) true) = some r := by rw [if_pos rfl] at H; exact H
           clear H
           have H := H1
           clear H1
           have H' := Aside0.mk H
           clear H
           try go_wp2
           have n0_ : Aside0 (Kd.R k63 63 ((((w16.setCell ⟨gb367, 0, none⟩ (.int .i64 ((rd_T63 t363 x20_2).f0))).setCell ⟨gb367, 1, none⟩ (.int .i64 ((rd_T63 t363 x20_2).f1))).setCell ⟨gb367, 2, none⟩ (.int .i64 ((rd_T63 t363 x20_2).f2))).setCell ⟨gb367, 3, none⟩ (.bool (true))) w.heap.size (fun k_ => k_ ≠ gb367) (.slice (some ad366) t363.length co10) t363) := ⟨by (with_reducible repeat (first | apply Kd.R_alloc | apply Kd.R_drewN | apply Kd.R_drew)); exact Kd.R_mono (Kd.R_far (p := ⟨gb367, 3, none⟩) (Kd.R_far (p := ⟨gb367, 2, none⟩) (Kd.R_far (p := ⟨gb367, 1, none⟩) (Kd.R_far (p := ⟨gb367, 0, none⟩) (Kd.R_mono HO_18.out (fun k_ hk => (⟨hk, hk.2⟩ : _ ∧ k_ ≠ gb367))) (fun _ hk => hk.2) (.int .i64 ((rd_T63 t363 x20_2).f0))) (fun _ hk => hk.2) (.int .i64 ((rd_T63 t363 x20_2).f1))) (fun _ hk => hk.2) (.int .i64 ((rd_T63 t363 x20_2).f2))) (fun _ hk => hk.2) (.bool (true))) (fun _ hk => hk.1.2)⟩
           have n1_ : Aside0 (((((w16.setCell ⟨gb367, 0, none⟩ (.int .i64 ((rd_T63 t363 x20_2).f0))).setCell ⟨gb367, 1, none⟩ (.int .i64 ((rd_T63 t363 x20_2).f1))).setCell ⟨gb367, 2, none⟩ (.int .i64 ((rd_T63 t363 x20_2).f2))).setCell ⟨gb367, 3, none⟩ (.bool (true))).heap[gb367]? = some (.cells #[.int .i64 ((rd_T63 t363 x20_2).f0), .int .i64 ((rd_T63 t363 x20_2).f1), .int .i64 ((rd_T63 t363 x20_2).f2), .bool true] 63 (0, 0))) := ⟨by (with_reducible repeat (first | refine blk_drewN ?_ _ | refine blk_drew ?_ | refine blk_alloc ?_ _)); refine blk_put (cs := #[.int .i64 ((rd_T63 t363 x20_2).f0), .int .i64 ((rd_T63 t363 x20_2).f1), .int .i64 ((rd_T63 t363 x20_2).f2), .bool false]) ?_ 3 _ rfl; (with_reducible repeat (first | refine blk_drewN ?_ _ | refine blk_drew ?_ | refine blk_alloc ?_ _)); refine blk_put (cs := #[.int .i64 ((rd_T63 t363 x20_2).f0), .int .i64 ((rd_T63 t363 x20_2).f1), .int .i64 0, .bool false]) ?_ 2 _ rfl; (with_reducible repeat (first | refine blk_drewN ?_ _ | refine blk_drew ?_ | refine blk_alloc ?_ _)); refine blk_put (cs := #[.int .i64 ((rd_T63 t363 x20_2).f0), .int .i64 0, .int .i64 0, .bool false]) ?_ 1 _ rfl; (with_reducible repeat (first | refine blk_drewN ?_ _ | refine blk_drew ?_ | refine blk_alloc ?_ _)); refine blk_put (cs := #[.int .i64 0, .int .i64 0, .int .i64 0, .bool false]) ?_ 0 _ rfl; (with_reducible repeat (first | refine blk_drewN ?_ _ | refine blk_drew ?_ | refine blk_alloc ?_ _)); exact BK367.out⟩
           have n2_ : Aside0 (Below w.heap.size w ((((w16.setCell ⟨gb367, 0, none⟩ (.int .i64 ((rd_T63 t363 x20_2).f0))).setCell ⟨gb367, 1, none⟩ (.int .i64 ((rd_T63 t363 x20_2).f1))).setCell ⟨gb367, 2, none⟩ (.int .i64 ((rd_T63 t363 x20_2).f2))).setCell ⟨gb367, 3, none⟩ (.bool (true)))) := ⟨by repeat (first | (with_reducible first | exact HB.out | apply below_alloc | apply pw_below_drewN | apply below_drew1 | refine below_set ?_ GE367.out) | exact HB.out)⟩
           (try clear HO_18)
           (try clear BK367)
           (try clear HB)
           generalize ((((w16.setCell ⟨gb367, 0, none⟩ (.int .i64 ((rd_T63 t363 x20_2).f0))).setCell ⟨gb367, 1, none⟩ (.int .i64 ((rd_T63 t363 x20_2).f1))).setCell ⟨gb367, 2, none⟩ (.int .i64 ((rd_T63 t363 x20_2).f2))).setCell ⟨gb367, 3, none⟩ (.bool (true))) = w20 at n0_ n1_ n2_ ⊢
           have HO_18 := n0_
           have BK367 := n1_
           have HB := n2_
           clear n0_ n1_ n2_
           try (have n0_ := Aside0.mk (Kd.R_drewN HO_18.out nd); have n1_ := Aside0.mk (blk_drewN BK367.out nd); have n2_ := Aside0.mk (pw_below_drewN HB.out nd); clear HO_18 BK367 HB; generalize World.drewN w20 nd = w20 at n0_ n1_ n2_ ⊢; have HO_18 := n0_; have BK367 := n1_; have HB := n2_; clear n0_ n1_ n2_)
           have n0_ := Aside0.mk (Kd.R_drew HO_18.out)
           have n1_ := Aside0.mk (blk_drew BK367.out)
           have n2_ := Aside0.mk (below_drew1 HB.out)
           clear HO_18
           clear BK367
           clear HB
           have HO_18 := n0_
           have BK367 := n1_
           have HB := n2_
           clear n0_ n1_ n2_
           refine start_ (n := 23) (S := fun w' => w'.cell? ⟨gb367, 0, none⟩ = some (.int .i64 ((rd_T63 t363 x20_2).f0)) ∧ w'.cell? ⟨gb367, 1, none⟩ = some (.int .i64 ((rd_T63 t363 x20_2).f1)) ∧ w'.cell? ⟨gb367, 2, none⟩ = some (.int .i64 ((rd_T63 t363 x20_2).f2)) ∧ w'.cell? ⟨gb367, 3, none⟩ = some (.bool true)) (ds := []) #[false, false, false, false, false, false, false, false, false, false, false, false, false, false, false, false, false, false, false, false, false, false, false] (by kernel_rfl) rfl rfl ⟨(blk_cell BK367.out 0).trans rfl, (blk_cell BK367.out 1).trans rfl, (blk_cell BK367.out 2).trans rfl, (blk_cell BK367.out 3).trans rfl⟩ (fun hHeld => ?_); refine with_tabW impl_QuickCheck.tab9 impl_QuickCheck.bits9 (fun HT_ HW_ => ?_)
           generalize w20.drew = w21 at HO_18 BK367 HB hHeld ⊢
           refine pq 0 27 HT_.out ?_
           refine take_ (i := 1) (N := some 28) (v := ?_) (a' := ?_) #[true, true, false, false, false, false, false, false, false, false, false, false, false, false, false, false, false, false, false, false, false, false, false] rfl rfl (take_ofW HT_.out HW_.out (by kernel_rfl)) (fun _ _ _ h => h) (Or.inl ⟨by rfl, ?_⟩) hHeld ?_ ?_
           rotate_left
           ·rintro w' ⟨s0, s1, s2, s3⟩
            go_simp
            with_reducible rfl
           rotate_left
           ·simp only [Act.put, List.setIfInBounds_toArray, List.set_cons_zero, List.set_cons_succ, i64_w, i32_w]
            rfl
           refine pq 2 29 HT_.out ?_
           refine pu 3 30 HT_.out ?_
           refine pu 4 31 HT_.out ?_
           refine pu 5 32 HT_.out ?_
           refine pu 6 33 HT_.out ?_
           refine pu 7 34 HT_.out ?_
           refine pu 8 35 HT_.out ?_
           refine pu 9 36 HT_.out ?_
           refine pq 10 37 HT_.out ?_
           refine pq 11 38 HT_.out ?_
           refine pu 12 39 HT_.out ?_
           refine pu 13 40 HT_.out ?_
           refine pu 14 41 HT_.out ?_
           refine pu 15 42 HT_.out ?_
           refine pu 16 43 HT_.out ?_
           refine pu 17 44 HT_.out ?_
           refine pu 18 45 HT_.out ?_
           refine pu 19 46 HT_.out ?_
           refine pu 20 47 HT_.out ?_
           refine pu 21 48 HT_.out ?_
           refine pq 22 49 HT_.out ?_
           refine done_ (done_of HT_.out (by kernel_rfl)) ?_
           try go_wp2
           go_meet
           case rel => (try rw [← Nbq18.out]); exact ⟨_, (true), (by first | rfl | (simp; done) | (simp [*]; done)), H', ⟨by have := HJ2.out; have := HK2.out; first | omega | exact Nat.le_refl _⟩, ⟨by (with_reducible repeat (first | apply Kd.R_alloc | apply Kd.R_drewN | apply Kd.R_drew)); exact HO_18.out⟩, ⟨by (with_reducible repeat (first | refine blk_drewN ?_ _ | refine blk_drew ?_ | refine blk_alloc ?_ _)); exact BK367.out⟩, ⟨by repeat (first | (with_reducible first | exact HB.out | apply below_alloc | apply pw_below_drewN | apply below_drew1 | refine below_set ?_ GE367.out) | exact HB.out)⟩⟩
          ·replace c19 := Bool.eq_false_iff.mpr c19
           subst c19
           have H1 : (if t368 = 0 then ((impl_normal.f k2 a0 (([(rd_T63 t363 x20_2).f0] : List Int))).bind fun t372 => ((slices_Equal_int64_int64.f k2 t372 (([(rd_T63 t363 x20_2).f0] : List Int))).bind fun t378 => (impl_QuickCheck.j2 k2 a0 x5_2 t368 t363 (t363.length : Int) x20_2 (!t378) ((rd_T63 t363 x20_2).f0) ((rd_T63 t363 x20_2).f1) ((rd_T63 t363 x20_2).f2) false))) else (if t368 < x6_2 then (impl_QuickCheck.j2 k2 a0 x5_2 t368 t363 (t363.length : Int) x20_2 true ((rd_T63 t363 x20_2).f0) ((rd_T63 t363 x20_2).f1) ((rd_T63 t363 x20_2).f2) false) else ((impl_normal.f k2 a0 (([(rd_T63 t363 x20_2).f0] : List Int))).bind fun t382 => ((slices_Equal_int64_int64.f k2 t382 (([(rd_T63 t363 x20_2).f0] : List Int))).bind fun t388 => (impl_QuickCheck.j2 k2 a0 x5_2 t368 t363 (t363.length : Int) x20_2 (!t388) ((rd_T63 t363 x20_2).f0) ((rd_T63 t363 x20_2).f1) ((rd_T63 t363 x20_2).f2) false))))) = some r := by rw [if_neg (show ¬ (false = true) by decide)] at H; exact H
           clear H
           have H := H1
           clear H1
           by_cases c22 : t368 = 0
           ·rw [if_pos c22] at H
            have c22b0 : (t368 == 0) = true := beq_iff_eq.mpr c22
            have c22b1 : (t368 != 0) = false := bne_eq_false_iff_eq.mpr c22
            clear c22
            obtain ⟨y369, hy369⟩ : ∃ y_ : List Int, y_ = (([(rd_T63 t363 x20_2).f0] : List Int)) := ⟨_, rfl⟩
            replace H : ((impl_normal.f k2 a0 y369).bind fun t372 => ((slices_Equal_int64_int64.f k2 t372 (([(rd_T63 t363 x20_2).f0] : List Int))).bind fun t378 => (impl_QuickCheck.j2 k2 a0 x5_2 t368 t363 (t363.length : Int) x20_2 (!t378) ((rd_T63 t363 x20_2).f0) ((rd_T63 t363 x20_2).f1) ((rd_T63 t363 x20_2).f2) false))) = some r := by first | (rw [hy369]; with_reducible exact H) | (have H2_ := (Option.bind_some _ _).symm.trans H; rw [hy369]; with_reducible exact H2_) | (have H2_ := (Option.bind_some _ _).symm.trans H; with_reducible exact H2_) | with_reducible exact H | (rw [hy369]; exact H) | exact H
            have Ny369 := Aside0.mk hy369
            clear hy369
            replace H := Option.bind_eq_some_iff.mp H
            obtain ⟨t372, A230, H⟩ := H
            replace H : ((slices_Equal_int64_int64.f k2 t372 (([(rd_T63 t363 x20_2).f0] : List Int))).bind fun t378 => (impl_QuickCheck.j2 k2 a0 x5_2 t368 t363 (t363.length : Int) x20_2 (!t378) ((rd_T63 t363 x20_2).f0) ((rd_T63 t363 x20_2).f1) ((rd_T63 t363 x20_2).f2) false)) = some r := H
            have A23 := Aside0.mk A230
            clear A230
            obtain ⟨y375, hy375⟩ : ∃ y_ : List Int, y_ = (([(rd_T63 t363 x20_2).f0] : List Int)) := ⟨_, rfl⟩
            replace H : ((slices_Equal_int64_int64.f k2 t372 y375).bind fun t378 => (impl_QuickCheck.j2 k2 a0 x5_2 t368 t363 (t363.length : Int) x20_2 (!t378) ((rd_T63 t363 x20_2).f0) ((rd_T63 t363 x20_2).f1) ((rd_T63 t363 x20_2).f2) false)) = some r := by first | (rw [hy375]; with_reducible exact H) | (have H2_ := (Option.bind_some _ _).symm.trans H; rw [hy375]; with_reducible exact H2_) | (have H2_ := (Option.bind_some _ _).symm.trans H; with_reducible exact H2_) | with_reducible exact H | (rw [hy375]; exact H) | exact H
            have Ny375 := Aside0.mk hy375
            clear hy375
            replace H := Option.bind_eq_some_iff.mp H
            obtain ⟨t378, A240, H⟩ := H
            replace H : (impl_QuickCheck.j2 k2 a0 x5_2 t368 t363 (t363.length : Int) x20_2 (!t378) ((rd_T63 t363 x20_2).f0) ((rd_T63 t363 x20_2).f1) ((rd_T63 t363 x20_2).f2) false) = some r := H
            have A24 := Aside0.mk A240
            clear A240
            have H' := Aside0.mk H
            clear H
            try go_wp2
            have n0_ : Aside0 (Kd.R k63 63 ((((w16.setCell ⟨gb367, 0, none⟩ (.int .i64 ((rd_T63 t363 x20_2).f0))).setCell ⟨gb367, 1, none⟩ (.int .i64 ((rd_T63 t363 x20_2).f1))).setCell ⟨gb367, 2, none⟩ (.int .i64 ((rd_T63 t363 x20_2).f2))).setCell ⟨gb367, 3, none⟩ (.bool (false))) w.heap.size (fun k_ => k_ ≠ gb367) (.slice (some ad366) t363.length co10) t363) := ⟨by (with_reducible repeat (first | apply Kd.R_alloc | apply Kd.R_drewN | apply Kd.R_drew)); exact Kd.R_mono (Kd.R_far (p := ⟨gb367, 3, none⟩) (Kd.R_far (p := ⟨gb367, 2, none⟩) (Kd.R_far (p := ⟨gb367, 1, none⟩) (Kd.R_far (p := ⟨gb367, 0, none⟩) (Kd.R_mono HO_18.out (fun k_ hk => (⟨hk, hk.2⟩ : _ ∧ k_ ≠ gb367))) (fun _ hk => hk.2) (.int .i64 ((rd_T63 t363 x20_2).f0))) (fun _ hk => hk.2) (.int .i64 ((rd_T63 t363 x20_2).f1))) (fun _ hk => hk.2) (.int .i64 ((rd_T63 t363 x20_2).f2))) (fun _ hk => hk.2) (.bool (false))) (fun _ hk => hk.1.2)⟩
            have n1_ : Aside0 (((((w16.setCell ⟨gb367, 0, none⟩ (.int .i64 ((rd_T63 t363 x20_2).f0))).setCell ⟨gb367, 1, none⟩ (.int .i64 ((rd_T63 t363 x20_2).f1))).setCell ⟨gb367, 2, none⟩ (.int .i64 ((rd_T63 t363 x20_2).f2))).setCell ⟨gb367, 3, none⟩ (.bool (false))).heap[gb367]? = some (.cells #[.int .i64 ((rd_T63 t363 x20_2).f0), .int .i64 ((rd_T63 t363 x20_2).f1), .int .i64 ((rd_T63 t363 x20_2).f2), .bool false] 63 (0, 0))) := ⟨by (with_reducible repeat (first | refine blk_drewN ?_ _ | refine blk_drew ?_ | refine blk_alloc ?_ _)); refine blk_put (cs := #[.int .i64 ((rd_T63 t363 x20_2).f0), .int .i64 ((rd_T63 t363 x20_2).f1), .int .i64 ((rd_T63 t363 x20_2).f2), .bool false]) ?_ 3 _ rfl; (with_reducible repeat (first | refine blk_drewN ?_ _ | refine blk_drew ?_ | refine blk_alloc ?_ _)); refine blk_put (cs := #[.int .i64 ((rd_T63 t363 x20_2).f0), .int .i64 ((rd_T63 t363 x20_2).f1), .int .i64 0, .bool false]) ?_ 2 _ rfl; (with_reducible repeat (first | refine blk_drewN ?_ _ | refine blk_drew ?_ | refine blk_alloc ?_ _)); refine blk_put (cs := #[.int .i64 ((rd_T63 t363 x20_2).f0), .int .i64 0, .int .i64 0, .bool false]) ?_ 1 _ rfl; (with_reducible repeat (first | refine blk_drewN ?_ _ | refine blk_drew ?_ | refine blk_alloc ?_ _)); refine blk_put (cs := #[.int .i64 0, .int .i64 0, .int .i64 0, .bool false]) ?_ 0 _ rfl; (with_reducible repeat (first | refine blk_drewN ?_ _ | refine blk_drew ?_ | refine blk_alloc ?_ _)); exact BK367.out⟩
            have n2_ : Aside0 (Below w.heap.size w ((((w16.setCell ⟨gb367, 0, none⟩ (.int .i64 ((rd_T63 t363 x20_2).f0))).setCell ⟨gb367, 1, none⟩ (.int .i64 ((rd_T63 t363 x20_2).f1))).setCell ⟨gb367, 2, none⟩ (.int .i64 ((rd_T63 t363 x20_2).f2))).setCell ⟨gb367, 3, none⟩ (.bool (false)))) := ⟨by repeat (first | (with_reducible first | exact HB.out | apply below_alloc | apply pw_below_drewN | apply below_drew1 | refine below_set ?_ GE367.out) | exact HB.out)⟩
            (try clear HO_18)
            (try clear BK367)
            (try clear HB)
            generalize ((((w16.setCell ⟨gb367, 0, none⟩ (.int .i64 ((rd_T63 t363 x20_2).f0))).setCell ⟨gb367, 1, none⟩ (.int .i64 ((rd_T63 t363 x20_2).f1))).setCell ⟨gb367, 2, none⟩ (.int .i64 ((rd_T63 t363 x20_2).f2))).setCell ⟨gb367, 3, none⟩ (.bool (false))) = w25 at n0_ n1_ n2_ ⊢
            have HO_18 := n0_
            have BK367 := n1_
            have HB := n2_
            clear n0_ n1_ n2_
            try (have n0_ := Aside0.mk (Kd.R_drewN HO_18.out nd); have n1_ := Aside0.mk (blk_drewN BK367.out nd); have n2_ := Aside0.mk (pw_below_drewN HB.out nd); clear HO_18 BK367 HB; generalize World.drewN w25 nd = w25 at n0_ n1_ n2_ ⊢; have HO_18 := n0_; have BK367 := n1_; have HB := n2_; clear n0_ n1_ n2_)
            have n0_ := Aside0.mk (Kd.R_drew HO_18.out)
            have n1_ := Aside0.mk (blk_drew BK367.out)
            have n2_ := Aside0.mk (below_drew1 HB.out)
            clear HO_18
            clear BK367
            clear HB
            have HO_18 := n0_
            have BK367 := n1_
            have HB := n2_
            clear n0_ n1_ n2_
            refine start_ (n := 23) (S := fun w' => w'.cell? ⟨gb367, 0, none⟩ = some (.int .i64 ((rd_T63 t363 x20_2).f0)) ∧ w'.cell? ⟨gb367, 1, none⟩ = some (.int .i64 ((rd_T63 t363 x20_2).f1)) ∧ w'.cell? ⟨gb367, 2, none⟩ = some (.int .i64 ((rd_T63 t363 x20_2).f2)) ∧ w'.cell? ⟨gb367, 3, none⟩ = some (.bool false)) (ds := []) #[false, false, false, false, false, false, false, false, false, false, false, false, false, false, false, false, false, false, false, false, false, false, false] (by kernel_rfl) rfl rfl ⟨(blk_cell BK367.out 0).trans rfl, (blk_cell BK367.out 1).trans rfl, (blk_cell BK367.out 2).trans rfl, (blk_cell BK367.out 3).trans rfl⟩ (fun hHeld => ?_); refine with_tabW impl_QuickCheck.tab9 impl_QuickCheck.bits9 (fun HT_ HW_ => ?_)
            generalize w25.drew = w26 at HO_18 BK367 HB hHeld ⊢
            refine pq 0 27 HT_.out ?_
            refine take_ (i := 1) (N := some 28) (v := ?_) (a' := ?_) #[true, true, false, false, false, false, false, false, false, false, false, false, false, false, false, false, false, false, false, false, false, false, false] rfl rfl (take_ofW HT_.out HW_.out (by kernel_rfl)) (fun _ _ _ h => h) (Or.inl ⟨by rfl, ?_⟩) hHeld ?_ ?_
            rotate_left
            ·rintro w' ⟨s0, s1, s2, s3⟩
             go_simp
             with_reducible rfl
            rotate_left
            ·simp only [Act.put, List.setIfInBounds_toArray, List.set_cons_zero, List.set_cons_succ, i64_w, i32_w]
             rfl
            refine pq 2 29 HT_.out ?_
            refine pq 3 30 HT_.out ?_
            refine pq 4 31 HT_.out ?_
            refine pq 5 32 HT_.out ?_
            refine pu 6 33 HT_.out ?_
            refine pu 7 34 HT_.out ?_
            refine pu 8 35 HT_.out ?_
            refine pq 9 36 HT_.out ?_
            refine pq 10 37 HT_.out ?_
            refine pq 11 38 HT_.out ?_
            refine pq 12 39 HT_.out ?_
            refine pq 13 40 HT_.out ?_
            refine pq 17 44 HT_.out ?_
            refine take_ (i := 14) (N := some 41) (v := ?_) (a' := ?_) #[true, true, true, true, true, true, true, true, true, true, true, true, true, true, true, false, false, true, false, false, false, false, false] rfl rfl (take_ofW HT_.out HW_.out (by kernel_rfl)) (fun _ _ _ h => h) (Or.inl ⟨by rfl, ?_⟩) hHeld ?_ ?_
            rotate_left
            ·rintro w' ⟨s0, s1, s2, s3⟩
             go_simp
             with_reducible rfl
            rotate_left
            ·simp only [Act.put, List.setIfInBounds_toArray, List.set_cons_zero, List.set_cons_succ, i64_w, i32_w]
             rfl
            refine take_ (i := 18) (N := some 45) (v := ?_) (a' := ?_) #[true, true, true, true, true, true, true, true, true, true, true, true, true, true, true, false, false, true, true, false, false, false, false] rfl rfl (take_ofW HT_.out HW_.out (by kernel_rfl)) (fun _ _ _ h => h) (Or.inl ⟨by rfl, ?_⟩) hHeld ?_ ?_
            rotate_left
            ·rintro w' ⟨s0, s1, s2, s3⟩
             go_simp
             with_reducible rfl
            rotate_left
            ·simp only [Act.put, List.setIfInBounds_toArray, List.set_cons_zero, List.set_cons_succ, i64_w, i32_w]
             rfl
            refine join_ (σ := Value × Value × Value) 3 #[true, true, true, true, true, true, true, true, true, true, true, true, true, true, true, true, true, true, true, true, false, false, false] (fun s_ => [(42, s_.1), (43, s_.2.1), (46, s_.2.2)]) (fun s_ w' => (w'.cell? ⟨gb367, 0, none⟩ = some (.int .i64 ((rd_T63 t363 x20_2).f0)) ∧ w'.cell? ⟨gb367, 1, none⟩ = some (.int .i64 ((rd_T63 t363 x20_2).f1)) ∧ w'.cell? ⟨gb367, 2, none⟩ = some (.int .i64 ((rd_T63 t363 x20_2).f2)) ∧ w'.cell? ⟨gb367, 3, none⟩ = some (.bool false)) ∧ (Kd.R (Kd.int .i64) 2 w' w.heap.size (fun k_ => some k_ ≠ (s_.2.1 : Value).ownBlock ∧ some k_ ≠ (s_.2.2 : Value).ownBlock) s_.1 y369) ∧ (Kd.R (Kd.int .i64) 2 w' w.heap.size (fun k_ => some k_ ≠ (s_.1 : Value).ownBlock ∧ some k_ ≠ (s_.2.2 : Value).ownBlock) s_.2.1 t372) ∧ (Kd.R (Kd.int .i64) 2 w' w.heap.size (fun k_ => some k_ ≠ (s_.1 : Value).ownBlock ∧ some k_ ≠ (s_.2.1 : Value).ownBlock) s_.2.2 y375) ∧ (Kd.R k63 63 w' w.heap.size (fun k_ => k_ ≠ gb367) (.slice (some ad366) t363.length co10) t363) ∧ (w'.heap[gb367]? = some (.cells #[.int .i64 ((rd_T63 t363 x20_2).f0), .int .i64 ((rd_T63 t363 x20_2).f1), .int .i64 ((rd_T63 t363 x20_2).f2), .bool false] 63 (0, 0))) ∧ (Below w.heap.size w w')) ?_ ?_
            rotate_left
            ·intro hCont
             refine two_ (i := 15) (j := 19) (Ni := some 42) (Nj := some 46) #[true, true, true, true, true, true, true, true, true, true, true, true, true, true, true, true, false, true, true, false, false, false, false] #[true, true, true, true, true, true, true, true, true, true, true, true, true, true, true, false, false, true, true, true, false, false, false] rfl rfl rfl rfl (two_of HT_.out (by kernel_rfl)) (by decide) (by decide) (fun K hK => ?_) (fun K hK => ?_)
             ·skip
              refine Kd.R_lit_step (Kd.int .i64) _ 2 ?hg (N := 42) ?hd (xs := ([(rd_T63 t363 x20_2).f0] : List Int)) (inner := [.int .i64 ((rd_T63 t363 x20_2).f0)]) (ok := fun _ => True) (okp := fun _ => True) ?hr ?hp (fun _ hk => hk) trivial (Below.refl _ _) (Nat.le_refl _) (by simp) ?_; (case hd => rfl); (case hg => rfl); (case hr => first | (go_simp; done) | (go_simp; rfl)); (case hp => exact (Reps.one (show Kd.M (Kd.int .i64) _ _ _ ((rd_T63 t363 x20_2).f0) [.int .i64 ((rd_T63 t363 x20_2).f0)] from rfl) (Reps.none _ _)))
              intro v370 w27 ho28 hb hg_ hnew_
              clear hg_ hnew_
              (first | rw [← Ny369.out] at ho28 | (simp only [Int.reduceToNat] at ho28; rw [← Ny369.out] at ho28))
              have n0_ := Aside0.mk (Kd.R_below (by (with_reducible repeat (first | apply Kd.R_alloc | apply Kd.R_drewN | apply Kd.R_drew)); exact HO_18.out) hb)
              have n1_ := Aside0.mk (Kd.R_lower ho28 (below_size (by repeat (first | (with_reducible first | exact HB.out | apply below_alloc | apply pw_below_drewN | apply below_drew1 | refine below_set ?_ GE367.out) | exact HB.out))))
              have n2_ := Aside0.mk (blk_below (g := gb367) (o := .cells #[.int .i64 ((rd_T63 t363 x20_2).f0), .int .i64 ((rd_T63 t363 x20_2).f1), .int .i64 ((rd_T63 t363 x20_2).f2), .bool false] 63 (0, 0)) (by (with_reducible repeat (first | refine blk_drewN ?_ _ | refine blk_drew ?_ | refine blk_alloc ?_ _)); exact BK367.out) hb)
              have n3_ := Aside0.mk (below_step (by repeat (first | (with_reducible first | exact HB.out | apply below_alloc | apply pw_below_drewN | apply below_drew1 | refine below_set ?_ GE367.out) | exact HB.out)) hb)
              clear HO_18
              clear BK367
              clear HB
              have HO_18 := n0_
              have HO371 := n1_
              have BK367 := n2_
              have HB := n3_
              clear n0_ n1_ n2_ n3_
              clear hb ho28
              obtain ⟨Ao29, co29, eo29⟩ := Kd.R_slice HO371.out
              (first | subst eo29 | (injection eo29 with f1_ f2_ f3_; have f4_ := f1_.symm; have f5_ := f3_.symm; clear f1_ f2_ f3_; subst f4_; subst f5_))
              refine hK.out _ _ ⟨(blk_cell BK367.out 0).trans rfl, (blk_cell BK367.out 1).trans rfl, (blk_cell BK367.out 2).trans rfl, (blk_cell BK367.out 3).trans rfl⟩ (fun hHeld => ?_)
              clear hK K
              refine norm_ (a' := ?_) ?_ ?_
              rotate_left
              ·show Act.put _ (some 42) _ = _
               simp only [Act.put, List.setIfInBounds_toArray, List.set_cons_zero, List.set_cons_succ, i64_w, i32_w]
               rfl
              refine two_ (i := 16) (j := 19) (Ni := some 43) (Nj := some 46) #[true, true, true, true, true, true, true, true, true, true, true, true, true, true, true, true, true, true, true, false, false, false, false] #[true, true, true, true, true, true, true, true, true, true, true, true, true, true, true, true, false, true, true, true, false, false, false] rfl rfl rfl rfl (two_of HT_.out (by kernel_rfl)) (by decide) (by decide) (fun K hK => ?_) (fun K hK => ?_)
              ·skip
               refine goes_ Tryd.func53 (by kernel_rfl) rfl #[.int .i64 a0, .slice Ao29 y369.length co29] (by rfl) rfl rfl (by (try simp only [List.map_toArray, List.map_cons, List.map_nil]); first | done | rfl | (simp only [List.length_drop, List.length_take]; rfl)) ?_
               with_reducible refine (impl_normal.calls k2 a0 _ _ y369 t372 _ ?side1 ?side2 A23.out).mono ?_
               (case side1 => repeat (first | exact (Kd.R_reads' HO371.out).2.2 | (with_reducible refine Kd.C_alloc ?_ _) | (with_reducible refine Kd.C_drewN ?_ _) | (with_reducible refine Kd.C_drew ?_)))
               (case side2 => exact (Kd.R_reads' HO371.out).2.1)
               rintro e w30 ⟨v373, rfl, ho0, hb⟩
               refine ⟨_, rfl, ?_⟩
               have n0_ := Aside0.mk (Kd.R_below (by (with_reducible repeat (first | apply Kd.R_alloc | apply Kd.R_drewN | apply Kd.R_drew)); exact HO_18.out) hb)
               have n1_ := Aside0.mk (Kd.R_elder' (by (with_reducible repeat (first | apply Kd.R_alloc | apply Kd.R_drewN | apply Kd.R_drew)); exact HO371.out) (Kd.R_base ho0) hb)
               have n2_ := Aside0.mk (Kd.R_lower (Kd.R_new' ho0 (Kd.R_lt (by (with_reducible repeat (first | apply Kd.R_alloc | apply Kd.R_drewN | apply Kd.R_drew)); exact HO371.out))) (below_size (by repeat (first | (with_reducible first | exact HB.out | apply below_alloc | apply pw_below_drewN | apply below_drew1 | refine below_set ?_ GE367.out) | exact HB.out))))
               have n3_ := Aside0.mk (blk_below (g := gb367) (o := .cells #[.int .i64 ((rd_T63 t363 x20_2).f0), .int .i64 ((rd_T63 t363 x20_2).f1), .int .i64 ((rd_T63 t363 x20_2).f2), .bool false] 63 (0, 0)) (by (with_reducible repeat (first | refine blk_drewN ?_ _ | refine blk_drew ?_ | refine blk_alloc ?_ _)); exact BK367.out) hb)
               have n4_ := Aside0.mk (below_step (by repeat (first | (with_reducible first | exact HB.out | apply below_alloc | apply pw_below_drewN | apply below_drew1 | refine below_set ?_ GE367.out) | exact HB.out)) hb)
               clear HO_18
               clear HO371
               clear BK367
               clear HB
               have HO_18 := n0_
               have HO371 := n1_
               have HO374 := n2_
               have BK367 := n3_
               have HB := n4_
               clear n0_ n1_ n2_ n3_ n4_
               (try clear hb)
               (try clear hb2)
               (try clear hk)
               (try clear hi)
               (try clear ho0)
               refine hK.out _ _ ⟨(blk_cell BK367.out 0).trans rfl, (blk_cell BK367.out 1).trans rfl, (blk_cell BK367.out 2).trans rfl, (blk_cell BK367.out 3).trans rfl⟩ (fun hHeld => ?_)
               clear hK K
               refine norm_ (a' := ?_) ?_ ?_
               rotate_left
               ·show Act.put _ (some 43) _ = _
                simp only [Act.put, List.setIfInBounds_toArray, List.set_cons_zero, List.set_cons_succ, i64_w, i32_w]
                rfl
               refine one_ (i := 19) (N := some 46) #[true, true, true, true, true, true, true, true, true, true, true, true, true, true, true, true, true, true, true, true, false, false, false] rfl rfl (one_of HT_.out (by kernel_rfl)) (by decide) (fun K hK => ?_)
               refine Kd.R_lit_step (Kd.int .i64) _ 2 ?hg (N := 46) ?hd (xs := ([(rd_T63 t363 x20_2).f0] : List Int)) (inner := [.int .i64 ((rd_T63 t363 x20_2).f0)]) (ok := fun _ => True) (okp := fun _ => True) ?hr ?hp (fun _ hk => hk) trivial (Below.refl _ _) (Nat.le_refl _) (by simp) ?_; (case hd => rfl); (case hg => rfl); (case hr => first | (go_simp; done) | (go_simp; rfl)); (case hp => exact (Reps.one (show Kd.M (Kd.int .i64) _ _ _ ((rd_T63 t363 x20_2).f0) [.int .i64 ((rd_T63 t363 x20_2).f0)] from rfl) (Reps.none _ _)))
               intro v376 w31 ho32 hb hg_ hnew_
               clear hg_ hnew_
               (first | rw [← Ny375.out] at ho32 | (simp only [Int.reduceToNat] at ho32; rw [← Ny375.out] at ho32))
               have n0_ := Aside0.mk (Kd.R_below (by (with_reducible repeat (first | apply Kd.R_alloc | apply Kd.R_drewN | apply Kd.R_drew)); exact HO_18.out) hb)
               have n1_ := Aside0.mk (Kd.R_elder' (by (with_reducible repeat (first | apply Kd.R_alloc | apply Kd.R_drewN | apply Kd.R_drew)); exact HO371.out) (Kd.R_base ho32) hb)
               have n2_ := Aside0.mk (Kd.R_elder' (by (with_reducible repeat (first | apply Kd.R_alloc | apply Kd.R_drewN | apply Kd.R_drew)); exact HO374.out) (Kd.R_base ho32) hb)
               have n3_ := Aside0.mk (Kd.R_lower (Kd.R_new' (Kd.R_new' ho32 (Kd.R_lt (by (with_reducible repeat (first | apply Kd.R_alloc | apply Kd.R_drewN | apply Kd.R_drew)); exact HO371.out))) (Kd.R_lt (by (with_reducible repeat (first | apply Kd.R_alloc | apply Kd.R_drewN | apply Kd.R_drew)); exact HO374.out))) (below_size (by repeat (first | (with_reducible first | exact HB.out | apply below_alloc | apply pw_below_drewN | apply below_drew1 | refine below_set ?_ GE367.out) | exact HB.out))))
               have n4_ := Aside0.mk (blk_below (g := gb367) (o := .cells #[.int .i64 ((rd_T63 t363 x20_2).f0), .int .i64 ((rd_T63 t363 x20_2).f1), .int .i64 ((rd_T63 t363 x20_2).f2), .bool false] 63 (0, 0)) (by (with_reducible repeat (first | refine blk_drewN ?_ _ | refine blk_drew ?_ | refine blk_alloc ?_ _)); exact BK367.out) hb)
               have n5_ := Aside0.mk (below_step (by repeat (first | (with_reducible first | exact HB.out | apply below_alloc | apply pw_below_drewN | apply below_drew1 | refine below_set ?_ GE367.out) | exact HB.out)) hb)
               clear HO_18
               clear HO371
               clear HO374
               clear BK367
               clear HB
               have HO_18 := n0_
               have HO371 := n1_
               have HO374 := n2_
               have HO377 := n3_
               have BK367 := n4_
               have HB := n5_
               clear n0_ n1_ n2_ n3_ n4_ n5_
               clear hb ho32
               refine hK.out _ _ ⟨(blk_cell BK367.out 0).trans rfl, (blk_cell BK367.out 1).trans rfl, (blk_cell BK367.out 2).trans rfl, (blk_cell BK367.out 3).trans rfl⟩ (fun hHeld => ?_)
               clear hK K
               refine norm_ (a' := ?_) ?_ ?_
               rotate_left
               ·show Act.put _ (some 46) _ = _
                simp only [Act.put, List.setIfInBounds_toArray, List.set_cons_zero, List.set_cons_succ, i64_w, i32_w]
                rfl
               exact norm_ (by simp only [putAll, Act.put, List.setIfInBounds_toArray, List.set_cons_zero, List.set_cons_succ]) (hCont (.slice Ao29 y369.length co29, v373, v376) _ ⟨hHeld, (by (with_reducible repeat (first | apply Kd.R_alloc | apply Kd.R_drewN | apply Kd.R_drew)); exact Kd.R_mono HO371.out (fun _ hk => ⟨hk.1.2, hk.2⟩)), (by (with_reducible repeat (first | apply Kd.R_alloc | apply Kd.R_drewN | apply Kd.R_drew)); exact Kd.R_mono HO374.out (fun _ hk => ⟨hk.1.2, hk.2⟩)), (by (with_reducible repeat (first | apply Kd.R_alloc | apply Kd.R_drewN | apply Kd.R_drew)); exact Kd.R_mono HO377.out (fun _ hk => ⟨hk.1.2, hk.2⟩)), (by (with_reducible repeat (first | apply Kd.R_alloc | apply Kd.R_drewN | apply Kd.R_drew)); exact HO_18.out), (by (with_reducible repeat (first | refine blk_drewN ?_ _ | refine blk_drew ?_ | refine blk_alloc ?_ _)); exact BK367.out), (by repeat (first | (with_reducible first | exact HB.out | apply below_alloc | apply pw_below_drewN | apply below_drew1 | refine below_set ?_ GE367.out) | exact HB.out))⟩)
              ·skip
               refine Kd.R_lit_step (Kd.int .i64) _ 2 ?hg (N := 46) ?hd (xs := ([(rd_T63 t363 x20_2).f0] : List Int)) (inner := [.int .i64 ((rd_T63 t363 x20_2).f0)]) (ok := fun _ => True) (okp := fun _ => True) ?hr ?hp (fun _ hk => hk) trivial (Below.refl _ _) (Nat.le_refl _) (by simp) ?_; (case hd => rfl); (case hg => rfl); (case hr => first | (go_simp; done) | (go_simp; rfl)); (case hp => exact (Reps.one (show Kd.M (Kd.int .i64) _ _ _ ((rd_T63 t363 x20_2).f0) [.int .i64 ((rd_T63 t363 x20_2).f0)] from rfl) (Reps.none _ _)))
               intro v376 w29 ho30 hb hg_ hnew_
               clear hg_ hnew_
               (first | rw [← Ny375.out] at ho30 | (simp only [Int.reduceToNat] at ho30; rw [← Ny375.out] at ho30))
               have n0_ := Aside0.mk (Kd.R_below (by (with_reducible repeat (first | apply Kd.R_alloc | apply Kd.R_drewN | apply Kd.R_drew)); exact HO_18.out) hb)
               have n1_ := Aside0.mk (Kd.R_elder' (by (with_reducible repeat (first | apply Kd.R_alloc | apply Kd.R_drewN | apply Kd.R_drew)); exact HO371.out) (Kd.R_base ho30) hb)
               have n2_ := Aside0.mk (Kd.R_lower (Kd.R_new' ho30 (Kd.R_lt (by (with_reducible repeat (first | apply Kd.R_alloc | apply Kd.R_drewN | apply Kd.R_drew)); exact HO371.out))) (below_size (by repeat (first | (with_reducible first | exact HB.out | apply below_alloc | apply pw_below_drewN | apply below_drew1 | refine below_set ?_ GE367.out) | exact HB.out))))
               have n3_ := Aside0.mk (blk_below (g := gb367) (o := .cells #[.int .i64 ((rd_T63 t363 x20_2).f0), .int .i64 ((rd_T63 t363 x20_2).f1), .int .i64 ((rd_T63 t363 x20_2).f2), .bool false] 63 (0, 0)) (by (with_reducible repeat (first | refine blk_drewN ?_ _ | refine blk_drew ?_ | refine blk_alloc ?_ _)); exact BK367.out) hb)
               have n4_ := Aside0.mk (below_step (by repeat (first | (with_reducible first | exact HB.out | apply below_alloc | apply pw_below_drewN | apply below_drew1 | refine below_set ?_ GE367.out) | exact HB.out)) hb)
               clear HO_18
               clear HO371
               clear BK367
               clear HB
               have HO_18 := n0_
               have HO371 := n1_
               have HO377 := n2_
               have BK367 := n3_
               have HB := n4_
               clear n0_ n1_ n2_ n3_ n4_
               clear hb ho30
               obtain ⟨Ao31, co31, eo31⟩ := Kd.R_slice HO371.out
               (first | subst eo31 | (injection eo31 with f1_ f2_ f3_; have f4_ := f1_.symm; have f5_ := f3_.symm; clear f1_ f2_ f3_; subst f4_; subst f5_))
               refine hK.out _ _ ⟨(blk_cell BK367.out 0).trans rfl, (blk_cell BK367.out 1).trans rfl, (blk_cell BK367.out 2).trans rfl, (blk_cell BK367.out 3).trans rfl⟩ (fun hHeld => ?_)
               clear hK K
               refine norm_ (a' := ?_) ?_ ?_
               rotate_left
               ·show Act.put _ (some 46) _ = _
                simp only [Act.put, List.setIfInBounds_toArray, List.set_cons_zero, List.set_cons_succ, i64_w, i32_w]
                rfl
               refine one_ (i := 16) (N := some 43) #[true, true, true, true, true, true, true, true, true, true, true, true, true, true, true, true, true, true, true, true, false, false, false] rfl rfl (one_of HT_.out (by kernel_rfl)) (by decide) (fun K hK => ?_)
               refine goes_ Tryd.func53 (by kernel_rfl) rfl #[.int .i64 a0, .slice Ao31 y369.length co31] (by rfl) rfl rfl (by (try simp only [List.map_toArray, List.map_cons, List.map_nil]); first | done | rfl | (simp only [List.length_drop, List.length_take]; rfl)) ?_
               with_reducible refine (impl_normal.calls k2 a0 _ _ y369 t372 _ ?side1 ?side2 A23.out).mono ?_
               (case side1 => repeat (first | exact (Kd.R_reads' HO371.out).2.2 | (with_reducible refine Kd.C_alloc ?_ _) | (with_reducible refine Kd.C_drewN ?_ _) | (with_reducible refine Kd.C_drew ?_)))
               (case side2 => exact (Kd.R_reads' HO371.out).2.1)
               rintro e w32 ⟨v373, rfl, ho0, hb⟩
               refine ⟨_, rfl, ?_⟩
               have n0_ := Aside0.mk (Kd.R_below (by (with_reducible repeat (first | apply Kd.R_alloc | apply Kd.R_drewN | apply Kd.R_drew)); exact HO_18.out) hb)
               have n1_ := Aside0.mk (Kd.R_elder' (by (with_reducible repeat (first | apply Kd.R_alloc | apply Kd.R_drewN | apply Kd.R_drew)); exact HO371.out) (Kd.R_base ho0) hb)
               have n2_ := Aside0.mk (Kd.R_elder' (by (with_reducible repeat (first | apply Kd.R_alloc | apply Kd.R_drewN | apply Kd.R_drew)); exact HO377.out) (Kd.R_base ho0) hb)
               have n3_ := Aside0.mk (Kd.R_lower (Kd.R_new' (Kd.R_new' ho0 (Kd.R_lt (by (with_reducible repeat (first | apply Kd.R_alloc | apply Kd.R_drewN | apply Kd.R_drew)); exact HO371.out))) (Kd.R_lt (by (with_reducible repeat (first | apply Kd.R_alloc | apply Kd.R_drewN | apply Kd.R_drew)); exact HO377.out))) (below_size (by repeat (first | (with_reducible first | exact HB.out | apply below_alloc | apply pw_below_drewN | apply below_drew1 | refine below_set ?_ GE367.out) | exact HB.out))))
               have n4_ := Aside0.mk (blk_below (g := gb367) (o := .cells #[.int .i64 ((rd_T63 t363 x20_2).f0), .int .i64 ((rd_T63 t363 x20_2).f1), .int .i64 ((rd_T63 t363 x20_2).f2), .bool false] 63 (0, 0)) (by (with_reducible repeat (first | refine blk_drewN ?_ _ | refine blk_drew ?_ | refine blk_alloc ?_ _)); exact BK367.out) hb)
               have n5_ := Aside0.mk (below_step (by repeat (first | (with_reducible first | exact HB.out | apply below_alloc | apply pw_below_drewN | apply below_drew1 | refine below_set ?_ GE367.out) | exact HB.out)) hb)
               clear HO_18
               clear HO371
               clear HO377
               clear BK367
               clear HB
               have HO_18 := n0_
               have HO371 := n1_
               have HO377 := n2_
               have HO374 := n3_
               have BK367 := n4_
               have HB := n5_
               clear n0_ n1_ n2_ n3_ n4_ n5_
               (try clear hb)
               (try clear hb2)
               (try clear hk)
               (try clear hi)
               (try clear ho0)
               refine hK.out _ _ ⟨(blk_cell BK367.out 0).trans rfl, (blk_cell BK367.out 1).trans rfl, (blk_cell BK367.out 2).trans rfl, (blk_cell BK367.out 3).trans rfl⟩ (fun hHeld => ?_)
               clear hK K
               refine norm_ (a' := ?_) ?_ ?_
               rotate_left
               ·show Act.put _ (some 43) _ = _
                simp only [Act.put, List.setIfInBounds_toArray, List.set_cons_zero, List.set_cons_succ, i64_w, i32_w]
                rfl
               exact norm_ (by simp only [putAll, Act.put, List.setIfInBounds_toArray, List.set_cons_zero, List.set_cons_succ]) (hCont (.slice Ao31 y369.length co31, v373, v376) _ ⟨hHeld, (by (with_reducible repeat (first | apply Kd.R_alloc | apply Kd.R_drewN | apply Kd.R_drew)); exact Kd.R_mono HO371.out (fun _ hk => ⟨hk.2, hk.1.2⟩)), (by (with_reducible repeat (first | apply Kd.R_alloc | apply Kd.R_drewN | apply Kd.R_drew)); exact Kd.R_mono HO374.out (fun _ hk => ⟨hk.1.2, hk.2⟩)), (by (with_reducible repeat (first | apply Kd.R_alloc | apply Kd.R_drewN | apply Kd.R_drew)); exact Kd.R_mono HO377.out (fun _ hk => ⟨hk.1.2, hk.2⟩)), (by (with_reducible repeat (first | apply Kd.R_alloc | apply Kd.R_drewN | apply Kd.R_drew)); exact HO_18.out), (by (with_reducible repeat (first | refine blk_drewN ?_ _ | refine blk_drew ?_ | refine blk_alloc ?_ _)); exact BK367.out), (by repeat (first | (with_reducible first | exact HB.out | apply below_alloc | apply pw_below_drewN | apply below_drew1 | refine below_set ?_ GE367.out) | exact HB.out))⟩)
             ·skip
              refine Kd.R_lit_step (Kd.int .i64) _ 2 ?hg (N := 46) ?hd (xs := ([(rd_T63 t363 x20_2).f0] : List Int)) (inner := [.int .i64 ((rd_T63 t363 x20_2).f0)]) (ok := fun _ => True) (okp := fun _ => True) ?hr ?hp (fun _ hk => hk) trivial (Below.refl _ _) (Nat.le_refl _) (by simp) ?_; (case hd => rfl); (case hg => rfl); (case hr => first | (go_simp; done) | (go_simp; rfl)); (case hp => exact (Reps.one (show Kd.M (Kd.int .i64) _ _ _ ((rd_T63 t363 x20_2).f0) [.int .i64 ((rd_T63 t363 x20_2).f0)] from rfl) (Reps.none _ _)))
              intro v376 w27 ho28 hb hg_ hnew_
              clear hg_ hnew_
              (first | rw [← Ny375.out] at ho28 | (simp only [Int.reduceToNat] at ho28; rw [← Ny375.out] at ho28))
              have n0_ := Aside0.mk (Kd.R_below (by (with_reducible repeat (first | apply Kd.R_alloc | apply Kd.R_drewN | apply Kd.R_drew)); exact HO_18.out) hb)
              have n1_ := Aside0.mk (Kd.R_lower ho28 (below_size (by repeat (first | (with_reducible first | exact HB.out | apply below_alloc | apply pw_below_drewN | apply below_drew1 | refine below_set ?_ GE367.out) | exact HB.out))))
              have n2_ := Aside0.mk (blk_below (g := gb367) (o := .cells #[.int .i64 ((rd_T63 t363 x20_2).f0), .int .i64 ((rd_T63 t363 x20_2).f1), .int .i64 ((rd_T63 t363 x20_2).f2), .bool false] 63 (0, 0)) (by (with_reducible repeat (first | refine blk_drewN ?_ _ | refine blk_drew ?_ | refine blk_alloc ?_ _)); exact BK367.out) hb)
              have n3_ := Aside0.mk (below_step (by repeat (first | (with_reducible first | exact HB.out | apply below_alloc | apply pw_below_drewN | apply below_drew1 | refine below_set ?_ GE367.out) | exact HB.out)) hb)
              clear HO_18
              clear BK367
              clear HB
              have HO_18 := n0_
              have HO377 := n1_
              have BK367 := n2_
              have HB := n3_
              clear n0_ n1_ n2_ n3_
              clear hb ho28
              refine hK.out _ _ ⟨(blk_cell BK367.out 0).trans rfl, (blk_cell BK367.out 1).trans rfl, (blk_cell BK367.out 2).trans rfl, (blk_cell BK367.out 3).trans rfl⟩ (fun hHeld => ?_)
              clear hK K
              refine norm_ (a' := ?_) ?_ ?_
              rotate_left
              ·show Act.put _ (some 46) _ = _
               simp only [Act.put, List.setIfInBounds_toArray, List.set_cons_zero, List.set_cons_succ, i64_w, i32_w]
               rfl
              refine one_ (i := 15) (N := some 42) #[true, true, true, true, true, true, true, true, true, true, true, true, true, true, true, true, false, true, true, true, false, false, false] rfl rfl (one_of HT_.out (by kernel_rfl)) (by decide) (fun K hK => ?_)
              refine Kd.R_lit_step (Kd.int .i64) _ 2 ?hg (N := 42) ?hd (xs := ([(rd_T63 t363 x20_2).f0] : List Int)) (inner := [.int .i64 ((rd_T63 t363 x20_2).f0)]) (ok := fun _ => True) (okp := fun _ => True) ?hr ?hp (fun _ hk => hk) trivial (Below.refl _ _) (Nat.le_refl _) (by simp) ?_; (case hd => rfl); (case hg => rfl); (case hr => first | (go_simp; done) | (go_simp; rfl)); (case hp => exact (Reps.one (show Kd.M (Kd.int .i64) _ _ _ ((rd_T63 t363 x20_2).f0) [.int .i64 ((rd_T63 t363 x20_2).f0)] from rfl) (Reps.none _ _)))
              intro v370 w29 ho30 hb hg_ hnew_
              clear hg_ hnew_
              (first | rw [← Ny369.out] at ho30 | (simp only [Int.reduceToNat] at ho30; rw [← Ny369.out] at ho30))
              have n0_ := Aside0.mk (Kd.R_below (by (with_reducible repeat (first | apply Kd.R_alloc | apply Kd.R_drewN | apply Kd.R_drew)); exact HO_18.out) hb)
              have n1_ := Aside0.mk (Kd.R_elder' (by (with_reducible repeat (first | apply Kd.R_alloc | apply Kd.R_drewN | apply Kd.R_drew)); exact HO377.out) (Kd.R_base ho30) hb)
              have n2_ := Aside0.mk (Kd.R_lower (Kd.R_new' ho30 (Kd.R_lt (by (with_reducible repeat (first | apply Kd.R_alloc | apply Kd.R_drewN | apply Kd.R_drew)); exact HO377.out))) (below_size (by repeat (first | (with_reducible first | exact HB.out | apply below_alloc | apply pw_below_drewN | apply below_drew1 | refine below_set ?_ GE367.out) | exact HB.out))))
              have n3_ := Aside0.mk (blk_below (g := gb367) (o := .cells #[.int .i64 ((rd_T63 t363 x20_2).f0), .int .i64 ((rd_T63 t363 x20_2).f1), .int .i64 ((rd_T63 t363 x20_2).f2), .bool false] 63 (0, 0)) (by (with_reducible repeat (first | refine blk_drewN ?_ _ | refine blk_drew ?_ | refine blk_alloc ?_ _)); exact BK367.out) hb)
              have n4_ := Aside0.mk (below_step (by repeat (first | (with_reducible first | exact HB.out | apply below_alloc | apply pw_below_drewN | apply below_drew1 | refine below_set ?_ GE367.out) | exact HB.out)) hb)
              clear HO_18
              clear HO377
              clear BK367
              clear HB
              have HO_18 := n0_
              have HO377 := n1_
              have HO371 := n2_
              have BK367 := n3_
              have HB := n4_
              clear n0_ n1_ n2_ n3_ n4_
              clear hb ho30
              obtain ⟨Ao31, co31, eo31⟩ := Kd.R_slice HO371.out
              (first | subst eo31 | (injection eo31 with f1_ f2_ f3_; have f4_ := f1_.symm; have f5_ := f3_.symm; clear f1_ f2_ f3_; subst f4_; subst f5_))
              refine hK.out _ _ ⟨(blk_cell BK367.out 0).trans rfl, (blk_cell BK367.out 1).trans rfl, (blk_cell BK367.out 2).trans rfl, (blk_cell BK367.out 3).trans rfl⟩ (fun hHeld => ?_)
              clear hK K
              refine norm_ (a' := ?_) ?_ ?_
              rotate_left
              ·show Act.put _ (some 42) _ = _
               simp only [Act.put, List.setIfInBounds_toArray, List.set_cons_zero, List.set_cons_succ, i64_w, i32_w]
               rfl
              refine one_ (i := 16) (N := some 43) #[true, true, true, true, true, true, true, true, true, true, true, true, true, true, true, true, true, true, true, true, false, false, false] rfl rfl (one_of HT_.out (by kernel_rfl)) (by decide) (fun K hK => ?_)
              refine goes_ Tryd.func53 (by kernel_rfl) rfl #[.int .i64 a0, .slice Ao31 y369.length co31] (by rfl) rfl rfl (by (try simp only [List.map_toArray, List.map_cons, List.map_nil]); first | done | rfl | (simp only [List.length_drop, List.length_take]; rfl)) ?_
              with_reducible refine (impl_normal.calls k2 a0 _ _ y369 t372 _ ?side1 ?side2 A23.out).mono ?_
              (case side1 => repeat (first | exact (Kd.R_reads' HO371.out).2.2 | (with_reducible refine Kd.C_alloc ?_ _) | (with_reducible refine Kd.C_drewN ?_ _) | (with_reducible refine Kd.C_drew ?_)))
              (case side2 => exact (Kd.R_reads' HO371.out).2.1)
              rintro e w32 ⟨v373, rfl, ho0, hb⟩
              refine ⟨_, rfl, ?_⟩
              have n0_ := Aside0.mk (Kd.R_below (by (with_reducible repeat (first | apply Kd.R_alloc | apply Kd.R_drewN | apply Kd.R_drew)); exact HO_18.out) hb)
              have n1_ := Aside0.mk (Kd.R_elder' (by (with_reducible repeat (first | apply Kd.R_alloc | apply Kd.R_drewN | apply Kd.R_drew)); exact HO377.out) (Kd.R_base ho0) hb)
              have n2_ := Aside0.mk (Kd.R_elder' (by (with_reducible repeat (first | apply Kd.R_alloc | apply Kd.R_drewN | apply Kd.R_drew)); exact HO371.out) (Kd.R_base ho0) hb)
              have n3_ := Aside0.mk (Kd.R_lower (Kd.R_new' (Kd.R_new' ho0 (Kd.R_lt (by (with_reducible repeat (first | apply Kd.R_alloc | apply Kd.R_drewN | apply Kd.R_drew)); exact HO377.out))) (Kd.R_lt (by (with_reducible repeat (first | apply Kd.R_alloc | apply Kd.R_drewN | apply Kd.R_drew)); exact HO371.out))) (below_size (by repeat (first | (with_reducible first | exact HB.out | apply below_alloc | apply pw_below_drewN | apply below_drew1 | refine below_set ?_ GE367.out) | exact HB.out))))
              have n4_ := Aside0.mk (blk_below (g := gb367) (o := .cells #[.int .i64 ((rd_T63 t363 x20_2).f0), .int .i64 ((rd_T63 t363 x20_2).f1), .int .i64 ((rd_T63 t363 x20_2).f2), .bool false] 63 (0, 0)) (by (with_reducible repeat (first | refine blk_drewN ?_ _ | refine blk_drew ?_ | refine blk_alloc ?_ _)); exact BK367.out) hb)
              have n5_ := Aside0.mk (below_step (by repeat (first | (with_reducible first | exact HB.out | apply below_alloc | apply pw_below_drewN | apply below_drew1 | refine below_set ?_ GE367.out) | exact HB.out)) hb)
              clear HO_18
              clear HO377
              clear HO371
              clear BK367
              clear HB
              have HO_18 := n0_
              have HO377 := n1_
              have HO371 := n2_
              have HO374 := n3_
              have BK367 := n4_
              have HB := n5_
              clear n0_ n1_ n2_ n3_ n4_ n5_
              (try clear hb)
              (try clear hb2)
              (try clear hk)
              (try clear hi)
              (try clear ho0)
              refine hK.out _ _ ⟨(blk_cell BK367.out 0).trans rfl, (blk_cell BK367.out 1).trans rfl, (blk_cell BK367.out 2).trans rfl, (blk_cell BK367.out 3).trans rfl⟩ (fun hHeld => ?_)
              clear hK K
              refine norm_ (a' := ?_) ?_ ?_
              rotate_left
              ·show Act.put _ (some 43) _ = _
               simp only [Act.put, List.setIfInBounds_toArray, List.set_cons_zero, List.set_cons_succ, i64_w, i32_w]
               rfl
              exact norm_ (by simp only [putAll, Act.put, List.setIfInBounds_toArray, List.set_cons_zero, List.set_cons_succ]) (hCont (.slice Ao31 y369.length co31, v373, v376) _ ⟨hHeld, (by (with_reducible repeat (first | apply Kd.R_alloc | apply Kd.R_drewN | apply Kd.R_drew)); exact Kd.R_mono HO371.out (fun _ hk => ⟨hk.2, hk.1.2⟩)), (by (with_reducible repeat (first | apply Kd.R_alloc | apply Kd.R_drewN | apply Kd.R_drew)); exact Kd.R_mono HO374.out (fun _ hk => ⟨hk.2, hk.1.2⟩)), (by (with_reducible repeat (first | apply Kd.R_alloc | apply Kd.R_drewN | apply Kd.R_drew)); exact Kd.R_mono HO377.out (fun _ hk => ⟨hk.1.2, hk.2⟩)), (by (with_reducible repeat (first | apply Kd.R_alloc | apply Kd.R_drewN | apply Kd.R_drew)); exact HO_18.out), (by (with_reducible repeat (first | refine blk_drewN ?_ _ | refine blk_drew ?_ | refine blk_alloc ?_ _)); exact BK367.out), (by repeat (first | (with_reducible first | exact HB.out | apply below_alloc | apply pw_below_drewN | apply below_drew1 | refine below_set ?_ GE367.out) | exact HB.out))⟩)
            rintro ⟨v370, v373, v376⟩ w33 ⟨hS_, h0_, h1_, h2_, h3_, h4_, h5_⟩
            have n0_ : Aside0 (Kd.R (Kd.int .i64) 2 w33 w.heap.size (fun k_ => some k_ ≠ (v373 : Value).ownBlock ∧ some k_ ≠ (v376 : Value).ownBlock) v370 y369) := ⟨h0_⟩
            have n1_ : Aside0 (Kd.R (Kd.int .i64) 2 w33 w.heap.size (fun k_ => some k_ ≠ (v370 : Value).ownBlock ∧ some k_ ≠ (v376 : Value).ownBlock) v373 t372) := ⟨h1_⟩
            have n2_ : Aside0 (Kd.R (Kd.int .i64) 2 w33 w.heap.size (fun k_ => some k_ ≠ (v370 : Value).ownBlock ∧ some k_ ≠ (v373 : Value).ownBlock) v376 y375) := ⟨h2_⟩
            have n3_ : Aside0 (Kd.R k63 63 w33 w.heap.size (fun k_ => k_ ≠ gb367) (.slice (some ad366) t363.length co10) t363) := ⟨h3_⟩
            have n4_ : Aside0 (w33.heap[gb367]? = some (.cells #[.int .i64 ((rd_T63 t363 x20_2).f0), .int .i64 ((rd_T63 t363 x20_2).f1), .int .i64 ((rd_T63 t363 x20_2).f2), .bool false] 63 (0, 0))) := ⟨h4_⟩
            have n5_ : Aside0 (Below w.heap.size w w33) := ⟨h5_⟩
            clear HO_18
            clear BK367
            clear HB
            clear h0_ h1_ h2_ h3_ h4_ h5_
            have HO371 := n0_
            have HO374 := n1_
            have HO377 := n2_
            have HO_18 := n3_
            have BK367 := n4_
            have HB := n5_
            clear n0_ n1_ n2_ n3_ n4_ n5_
            have hHeld : w33.cell? ⟨gb367, 0, none⟩ = some (.int .i64 ((rd_T63 t363 x20_2).f0)) ∧ w33.cell? ⟨gb367, 1, none⟩ = some (.int .i64 ((rd_T63 t363 x20_2).f1)) ∧ w33.cell? ⟨gb367, 2, none⟩ = some (.int .i64 ((rd_T63 t363 x20_2).f2)) ∧ w33.cell? ⟨gb367, 3, none⟩ = some (.bool false) := hS_
            obtain ⟨Ao34, co34, eo34⟩ := Kd.R_slice HO374.out
            (first | subst eo34 | (injection eo34 with f1_ f2_ f3_; have f4_ := f1_.symm; have f5_ := f3_.symm; clear f1_ f2_ f3_; subst f4_; subst f5_))
            obtain ⟨Ao35, co35, eo35⟩ := Kd.R_slice HO377.out
            (first | subst eo35 | (injection eo35 with f1_ f2_ f3_; have f4_ := f1_.symm; have f5_ := f3_.symm; clear f1_ f2_ f3_; subst f4_; subst f5_))
            refine norm_ (a' := ?_) ?_ ?_
            rotate_left
            ·simp only [putAll, Act.put, List.setIfInBounds_toArray, List.set_cons_zero, List.set_cons_succ]
             rfl
            refine one_ (i := 20) (N := some 47) #[true, true, true, true, true, true, true, true, true, true, true, true, true, true, true, true, true, true, true, true, true, false, false] rfl rfl (one_of HT_.out (by kernel_rfl)) (by decide) (fun K hK => ?_)
            refine goes_ Tryd.func52 (by kernel_rfl) rfl #[.slice Ao34 t372.length co34, .slice Ao35 y375.length co35] (by rfl) rfl rfl (by (try simp only [List.map_toArray, List.map_cons, List.map_nil]); first | done | rfl | (simp only [List.length_drop, List.length_take]; rfl)) ?_
            with_reducible refine (slices_Equal_int64_int64.calls k2 _ _ t372 _ _ y375 t378 _ ?side1 ?side2 ?side3 ?side4 A24.out).mono ?_
            (case side1 => repeat (first | exact (Kd.R_reads' HO374.out).2.2 | (with_reducible refine Kd.C_alloc ?_ _) | (with_reducible refine Kd.C_drewN ?_ _) | (with_reducible refine Kd.C_drew ?_)))
            (case side2 => exact (Kd.R_reads' HO374.out).2.1)
            (case side3 => repeat (first | exact (Kd.R_reads' HO377.out).2.2 | (with_reducible refine Kd.C_alloc ?_ _) | (with_reducible refine Kd.C_drewN ?_ _) | (with_reducible refine Kd.C_drew ?_)))
            (case side4 => exact (Kd.R_reads' HO377.out).2.1)
            rintro e w' ⟨rfl, ⟨nd, rfl⟩⟩
            refine ⟨_, rfl, ?_⟩
            refine hK.out _ _ ⟨(blk_cell BK367.out 0).trans rfl, (blk_cell BK367.out 1).trans rfl, (blk_cell BK367.out 2).trans rfl, (blk_cell BK367.out 3).trans rfl⟩ (fun hHeld => ?_)
            clear hK K
            refine norm_ (a' := ?_) ?_ ?_
            rotate_left
            ·show Act.put _ (some 47) _ = _
             simp only [Act.put, List.setIfInBounds_toArray, List.set_cons_zero, List.set_cons_succ, i64_w, i32_w]
             rfl
            refine pq 21 48 HT_.out ?_
            refine pq 22 49 HT_.out ?_
            refine done_ (done_of HT_.out (by kernel_rfl)) ?_
            try go_wp2
            go_meet
            case rel => (try rw [← Nbq18.out]); exact ⟨_, (!t378), (by first | rfl | (simp; done) | (simp [*]; done)), H', ⟨by have := HJ2.out; have := HK2.out; first | omega | exact Nat.le_refl _⟩, ⟨by (with_reducible repeat (first | apply Kd.R_alloc | apply Kd.R_drewN | apply Kd.R_drew)); exact HO_18.out⟩, ⟨by (with_reducible repeat (first | refine blk_drewN ?_ _ | refine blk_drew ?_ | refine blk_alloc ?_ _)); exact BK367.out⟩, ⟨by repeat (first | (with_reducible first | exact HB.out | apply below_alloc | apply pw_below_drewN | apply below_drew1 | refine below_set ?_ GE367.out) | exact HB.out)⟩⟩
           ·rw [if_neg c22] at H
            have c22b0 : (t368 == 0) = false := beq_eq_false_iff_ne.mpr c22
            have c22b1 : (t368 != 0) = true := bne_iff_ne.mpr c22
            by_cases c36 : t368 < x6_2
            ·rw [if_pos c36] at H
             have c36b0 : decide (t368 < x6_2) = true := decide_eq_true c36
             clear c36
             have H' := Aside0.mk H
             clear H
             try go_wp2
             have n0_ : Aside0 (Kd.R k63 63 ((((w16.setCell ⟨gb367, 0, none⟩ (.int .i64 ((rd_T63 t363 x20_2).f0))).setCell ⟨gb367, 1, none⟩ (.int .i64 ((rd_T63 t363 x20_2).f1))).setCell ⟨gb367, 2, none⟩ (.int .i64 ((rd_T63 t363 x20_2).f2))).setCell ⟨gb367, 3, none⟩ (.bool (false))) w.heap.size (fun k_ => k_ ≠ gb367) (.slice (some ad366) t363.length co10) t363) := ⟨by (with_reducible repeat (first | apply Kd.R_alloc | apply Kd.R_drewN | apply Kd.R_drew)); exact Kd.R_mono (Kd.R_far (p := ⟨gb367, 3, none⟩) (Kd.R_far (p := ⟨gb367, 2, none⟩) (Kd.R_far (p := ⟨gb367, 1, none⟩) (Kd.R_far (p := ⟨gb367, 0, none⟩) (Kd.R_mono HO_18.out (fun k_ hk => (⟨hk, hk.2⟩ : _ ∧ k_ ≠ gb367))) (fun _ hk => hk.2) (.int .i64 ((rd_T63 t363 x20_2).f0))) (fun _ hk => hk.2) (.int .i64 ((rd_T63 t363 x20_2).f1))) (fun _ hk => hk.2) (.int .i64 ((rd_T63 t363 x20_2).f2))) (fun _ hk => hk.2) (.bool (false))) (fun _ hk => hk.1.2)⟩
             have n1_ : Aside0 (((((w16.setCell ⟨gb367, 0, none⟩ (.int .i64 ((rd_T63 t363 x20_2).f0))).setCell ⟨gb367, 1, none⟩ (.int .i64 ((rd_T63 t363 x20_2).f1))).setCell ⟨gb367, 2, none⟩ (.int .i64 ((rd_T63 t363 x20_2).f2))).setCell ⟨gb367, 3, none⟩ (.bool (false))).heap[gb367]? = some (.cells #[.int .i64 ((rd_T63 t363 x20_2).f0), .int .i64 ((rd_T63 t363 x20_2).f1), .int .i64 ((rd_T63 t363 x20_2).f2), .bool false] 63 (0, 0))) := ⟨by (with_reducible repeat (first | refine blk_drewN ?_ _ | refine blk_drew ?_ | refine blk_alloc ?_ _)); refine blk_put (cs := #[.int .i64 ((rd_T63 t363 x20_2).f0), .int .i64 ((rd_T63 t363 x20_2).f1), .int .i64 ((rd_T63 t363 x20_2).f2), .bool false]) ?_ 3 _ rfl; (with_reducible repeat (first | refine blk_drewN ?_ _ | refine blk_drew ?_ | refine blk_alloc ?_ _)); refine blk_put (cs := #[.int .i64 ((rd_T63 t363 x20_2).f0), .int .i64 ((rd_T63 t363 x20_2).f1), .int .i64 0, .bool false]) ?_ 2 _ rfl; (with_reducible repeat (first | refine blk_drewN ?_ _ | refine blk_drew ?_ | refine blk_alloc ?_ _)); refine blk_put (cs := #[.int .i64 ((rd_T63 t363 x20_2).f0), .int .i64 0, .int .i64 0, .bool false]) ?_ 1 _ rfl; (with_reducible repeat (first | refine blk_drewN ?_ _ | refine blk_drew ?_ | refine blk_alloc ?_ _)); refine blk_put (cs := #[.int .i64 0, .int .i64 0, .int .i64 0, .bool false]) ?_ 0 _ rfl; (with_reducible repeat (first | refine blk_drewN ?_ _ | refine blk_drew ?_ | refine blk_alloc ?_ _)); exact BK367.out⟩
             have n2_ : Aside0 (Below w.heap.size w ((((w16.setCell ⟨gb367, 0, none⟩ (.int .i64 ((rd_T63 t363 x20_2).f0))).setCell ⟨gb367, 1, none⟩ (.int .i64 ((rd_T63 t363 x20_2).f1))).setCell ⟨gb367, 2, none⟩ (.int .i64 ((rd_T63 t363 x20_2).f2))).setCell ⟨gb367, 3, none⟩ (.bool (false)))) := ⟨by repeat (first | (with_reducible first | exact HB.out | apply below_alloc | apply pw_below_drewN | apply below_drew1 | refine below_set ?_ GE367.out) | exact HB.out)⟩
             (try clear HO_18)
             (try clear BK367)
             (try clear HB)
             generalize ((((w16.setCell ⟨gb367, 0, none⟩ (.int .i64 ((rd_T63 t363 x20_2).f0))).setCell ⟨gb367, 1, none⟩ (.int .i64 ((rd_T63 t363 x20_2).f1))).setCell ⟨gb367, 2, none⟩ (.int .i64 ((rd_T63 t363 x20_2).f2))).setCell ⟨gb367, 3, none⟩ (.bool (false))) = w37 at n0_ n1_ n2_ ⊢
             have HO_18 := n0_
             have BK367 := n1_
             have HB := n2_
             clear n0_ n1_ n2_
             try (have n0_ := Aside0.mk (Kd.R_drewN HO_18.out nd); have n1_ := Aside0.mk (blk_drewN BK367.out nd); have n2_ := Aside0.mk (pw_below_drewN HB.out nd); clear HO_18 BK367 HB; generalize World.drewN w37 nd = w37 at n0_ n1_ n2_ ⊢; have HO_18 := n0_; have BK367 := n1_; have HB := n2_; clear n0_ n1_ n2_)
             have n0_ := Aside0.mk (Kd.R_drew HO_18.out)
             have n1_ := Aside0.mk (blk_drew BK367.out)
             have n2_ := Aside0.mk (below_drew1 HB.out)
             clear HO_18
             clear BK367
             clear HB
             have HO_18 := n0_
             have BK367 := n1_
             have HB := n2_
             clear n0_ n1_ n2_
             refine start_ (n := 23) (S := fun w' => w'.cell? ⟨gb367, 0, none⟩ = some (.int .i64 ((rd_T63 t363 x20_2).f0)) ∧ w'.cell? ⟨gb367, 1, none⟩ = some (.int .i64 ((rd_T63 t363 x20_2).f1)) ∧ w'.cell? ⟨gb367, 2, none⟩ = some (.int .i64 ((rd_T63 t363 x20_2).f2)) ∧ w'.cell? ⟨gb367, 3, none⟩ = some (.bool false)) (ds := []) #[false, false, false, false, false, false, false, false, false, false, false, false, false, false, false, false, false, false, false, false, false, false, false] (by kernel_rfl) rfl rfl ⟨(blk_cell BK367.out 0).trans rfl, (blk_cell BK367.out 1).trans rfl, (blk_cell BK367.out 2).trans rfl, (blk_cell BK367.out 3).trans rfl⟩ (fun hHeld => ?_); refine with_tabW impl_QuickCheck.tab9 impl_QuickCheck.bits9 (fun HT_ HW_ => ?_)
             generalize w37.drew = w38 at HO_18 BK367 HB hHeld ⊢
             refine pq 0 27 HT_.out ?_
             refine take_ (i := 1) (N := some 28) (v := ?_) (a' := ?_) #[true, true, false, false, false, false, false, false, false, false, false, false, false, false, false, false, false, false, false, false, false, false, false] rfl rfl (take_ofW HT_.out HW_.out (by kernel_rfl)) (fun _ _ _ h => h) (Or.inl ⟨by rfl, ?_⟩) hHeld ?_ ?_
             rotate_left
             ·rintro w' ⟨s0, s1, s2, s3⟩
              go_simp
              with_reducible rfl
             rotate_left
             ·simp only [Act.put, List.setIfInBounds_toArray, List.set_cons_zero, List.set_cons_succ, i64_w, i32_w]
              rfl
             refine pq 2 29 HT_.out ?_
             refine pq 3 30 HT_.out ?_
             refine pq 4 31 HT_.out ?_
             refine pq 5 32 HT_.out ?_
             refine pq 6 33 HT_.out ?_
             refine pq 7 34 HT_.out ?_
             refine pq 8 35 HT_.out ?_
             refine pq 9 36 HT_.out ?_
             refine pq 10 37 HT_.out ?_
             refine pq 11 38 HT_.out ?_
             refine pu 12 39 HT_.out ?_
             refine pu 13 40 HT_.out ?_
             refine pu 14 41 HT_.out ?_
             refine pu 15 42 HT_.out ?_
             refine pu 16 43 HT_.out ?_
             refine pu 17 44 HT_.out ?_
             refine pu 18 45 HT_.out ?_
             refine pu 19 46 HT_.out ?_
             refine pu 20 47 HT_.out ?_
             refine pu 21 48 HT_.out ?_
             refine pq 22 49 HT_.out ?_
             refine done_ (done_of HT_.out (by kernel_rfl)) ?_
             try go_wp2
             go_meet
             case rel => (try rw [← Nbq18.out]); exact ⟨_, (true), (by first | rfl | (simp; done) | (simp [*]; done)), H', ⟨by have := HJ2.out; have := HK2.out; first | omega | exact Nat.le_refl _⟩, ⟨by (with_reducible repeat (first | apply Kd.R_alloc | apply Kd.R_drewN | apply Kd.R_drew)); exact HO_18.out⟩, ⟨by (with_reducible repeat (first | refine blk_drewN ?_ _ | refine blk_drew ?_ | refine blk_alloc ?_ _)); exact BK367.out⟩, ⟨by repeat (first | (with_reducible first | exact HB.out | apply below_alloc | apply pw_below_drewN | apply below_drew1 | refine below_set ?_ GE367.out) | exact HB.out)⟩⟩
            ·rw [if_neg c36] at H
             have c36b0 : decide (t368 < x6_2) = false := decide_eq_false c36
             clear c36
             obtain ⟨y379, hy379⟩ : ∃ y_ : List Int, y_ = (([(rd_T63 t363 x20_2).f0] : List Int)) := ⟨_, rfl⟩
             replace H : ((impl_normal.f k2 a0 y379).bind fun t382 => ((slices_Equal_int64_int64.f k2 t382 (([(rd_T63 t363 x20_2).f0] : List Int))).bind fun t388 => (impl_QuickCheck.j2 k2 a0 x5_2 t368 t363 (t363.length : Int) x20_2 (!t388) ((rd_T63 t363 x20_2).f0) ((rd_T63 t363 x20_2).f1) ((rd_T63 t363 x20_2).f2) false))) = some r := by first | (rw [hy379]; with_reducible exact H) | (have H2_ := (Option.bind_some _ _).symm.trans H; rw [hy379]; with_reducible exact H2_) | (have H2_ := (Option.bind_some _ _).symm.trans H; with_reducible exact H2_) | with_reducible exact H | (rw [hy379]; exact H) | exact H
             have Ny379 := Aside0.mk hy379
             clear hy379
             replace H := Option.bind_eq_some_iff.mp H
             obtain ⟨t382, A390, H⟩ := H
             replace H : ((slices_Equal_int64_int64.f k2 t382 (([(rd_T63 t363 x20_2).f0] : List Int))).bind fun t388 => (impl_QuickCheck.j2 k2 a0 x5_2 t368 t363 (t363.length : Int) x20_2 (!t388) ((rd_T63 t363 x20_2).f0) ((rd_T63 t363 x20_2).f1) ((rd_T63 t363 x20_2).f2) false)) = some r := H
             have A39 := Aside0.mk A390
             clear A390
             obtain ⟨y385, hy385⟩ : ∃ y_ : List Int, y_ = (([(rd_T63 t363 x20_2).f0] : List Int)) := ⟨_, rfl⟩
             replace H : ((slices_Equal_int64_int64.f k2 t382 y385).bind fun t388 => (impl_QuickCheck.j2 k2 a0 x5_2 t368 t363 (t363.length : Int) x20_2 (!t388) ((rd_T63 t363 x20_2).f0) ((rd_T63 t363 x20_2).f1) ((rd_T63 t363 x20_2).f2) false)) = some r := by first | (rw [hy385]; with_reducible exact H) | (have H2_ := (Option.bind_some _ _).symm.trans H; rw [hy385]; with_reducible exact H2_) | (have H2_ := (Option.bind_some _ _).symm.trans H; with_reducible exact H2_) | with_reducible exact H | (rw [hy385]; exact H) | exact H
             have Ny385 := Aside0.mk hy385
             clear hy385
             replace H := Option.bind_eq_some_iff.mp H
             obtain ⟨t388, A400, H⟩ := H
             replace H : (impl_QuickCheck.j2 k2 a0 x5_2 t368 t363 (t363.length : Int) x20_2 (!t388) ((rd_T63 t363 x20_2).f0) ((rd_T63 t363 x20_2).f1) ((rd_T63 t363 x20_2).f2) false) = some r := H
             have A40 := Aside0.mk A400
             clear A400
             have H' := Aside0.mk H
             clear H
             try go_wp2
             have n0_ : Aside0 (Kd.R k63 63 ((((w16.setCell ⟨gb367, 0, none⟩ (.int .i64 ((rd_T63 t363 x20_2).f0))).setCell ⟨gb367, 1, none⟩ (.int .i64 ((rd_T63 t363 x20_2).f1))).setCell ⟨gb367, 2, none⟩ (.int .i64 ((rd_T63 t363 x20_2).f2))).setCell ⟨gb367, 3, none⟩ (.bool (false))) w.heap.size (fun k_ => k_ ≠ gb367) (.slice (some ad366) t363.length co10) t363) := ⟨by (with_reducible repeat (first | apply Kd.R_alloc | apply Kd.R_drewN | apply Kd.R_drew)); exact Kd.R_mono (Kd.R_far (p := ⟨gb367, 3, none⟩) (Kd.R_far (p := ⟨gb367, 2, none⟩) (Kd.R_far (p := ⟨gb367, 1, none⟩) (Kd.R_far (p := ⟨gb367, 0, none⟩) (Kd.R_mono HO_18.out (fun k_ hk => (⟨hk, hk.2⟩ : _ ∧ k_ ≠ gb367))) (fun _ hk => hk.2) (.int .i64 ((rd_T63 t363 x20_2).f0))) (fun _ hk => hk.2) (.int .i64 ((rd_T63 t363 x20_2).f1))) (fun _ hk => hk.2) (.int .i64 ((rd_T63 t363 x20_2).f2))) (fun _ hk => hk.2) (.bool (false))) (fun _ hk => hk.1.2)⟩
             have n1_ : Aside0 (((((w16.setCell ⟨gb367, 0, none⟩ (.int .i64 ((rd_T63 t363 x20_2).f0))).setCell ⟨gb367, 1, none⟩ (.int .i64 ((rd_T63 t363 x20_2).f1))).setCell ⟨gb367, 2, none⟩ (.int .i64 ((rd_T63 t363 x20_2).f2))).setCell ⟨gb367, 3, none⟩ (.bool (false))).heap[gb367]? = some (.cells #[.int .i64 ((rd_T63 t363 x20_2).f0), .int .i64 ((rd_T63 t363 x20_2).f1), .int .i64 ((rd_T63 t363 x20_2).f2), .bool false] 63 (0, 0))) := ⟨by (with_reducible repeat (first | refine blk_drewN ?_ _ | refine blk_drew ?_ | refine blk_alloc ?_ _)); refine blk_put (cs := #[.int .i64 ((rd_T63 t363 x20_2).f0), .int .i64 ((rd_T63 t363 x20_2).f1), .int .i64 ((rd_T63 t363 x20_2).f2), .bool false]) ?_ 3 _ rfl; (with_reducible repeat (first | refine blk_drewN ?_ _ | refine blk_drew ?_ | refine blk_alloc ?_ _)); refine blk_put (cs := #[.int .i64 ((rd_T63 t363 x20_2).f0), .int .i64 ((rd_T63 t363 x20_2).f1), .int .i64 0, .bool false]) ?_ 2 _ rfl; (with_reducible repeat (first | refine blk_drewN ?_ _ | refine blk_drew ?_ | refine blk_alloc ?_ _)); refine blk_put (cs := #[.int .i64 ((rd_T63 t363 x20_2).f0), .int .i64 0, .int .i64 0, .bool false]) ?_ 1 _ rfl; (with_reducible repeat (first | refine blk_drewN ?_ _ | refine blk_drew ?_ | refine blk_alloc ?_ _)); refine blk_put (cs := #[.int .i64 0, .int .i64 0, .int .i64 0, .bool false]) ?_ 0 _ rfl; (with_reducible repeat (first | refine blk_drewN ?_ _ | refine blk_drew ?_ | refine blk_alloc ?_ _)); exact BK367.out⟩
             have n2_ : Aside0 (Below w.heap.size w ((((w16.setCell ⟨gb367, 0, none⟩ (.int .i64 ((rd_T63 t363 x20_2).f0))).setCell ⟨gb367, 1, none⟩ (.int .i64 ((rd_T63 t363 x20_2).f1))).setCell ⟨gb367, 2, none⟩ (.int .i64 ((rd_T63 t363 x20_2).f2))).setCell ⟨gb367, 3, none⟩ (.bool (false)))) := ⟨by repeat (first | (with_reducible first | exact HB.out | apply below_alloc | apply pw_below_drewN | apply below_drew1 | refine below_set ?_ GE367.out) | exact HB.out)⟩
             (try clear HO_18)
             (try clear BK367)
             (try clear HB)
             generalize ((((w16.setCell ⟨gb367, 0, none⟩ (.int .i64 ((rd_T63 t363 x20_2).f0))).setCell ⟨gb367, 1, none⟩ (.int .i64 ((rd_T63 t363 x20_2).f1))).setCell ⟨gb367, 2, none⟩ (.int .i64 ((rd_T63 t363 x20_2).f2))).setCell ⟨gb367, 3, none⟩ (.bool (false))) = w41 at n0_ n1_ n2_ ⊢
             have HO_18 := n0_
             have BK367 := n1_
             have HB := n2_
             clear n0_ n1_ n2_
             try (have n0_ := Aside0.mk (Kd.R_drewN HO_18.out nd); have n1_ := Aside0.mk (blk_drewN BK367.out nd); have n2_ := Aside0.mk (pw_below_drewN HB.out nd); clear HO_18 BK367 HB; generalize World.drewN w41 nd = w41 at n0_ n1_ n2_ ⊢; have HO_18 := n0_; have BK367 := n1_; have HB := n2_; clear n0_ n1_ n2_)
             have n0_ := Aside0.mk (Kd.R_drew HO_18.out)
             have n1_ := Aside0.mk (blk_drew BK367.out)
             have n2_ := Aside0.mk (below_drew1 HB.out)
             clear HO_18
             clear BK367
             clear HB
             have HO_18 := n0_
             have BK367 := n1_
             have HB := n2_
             clear n0_ n1_ n2_
             refine start_ (n := 23) (S := fun w' => w'.cell? ⟨gb367, 0, none⟩ = some (.int .i64 ((rd_T63 t363 x20_2).f0)) ∧ w'.cell? ⟨gb367, 1, none⟩ = some (.int .i64 ((rd_T63 t363 x20_2).f1)) ∧ w'.cell? ⟨gb367, 2, none⟩ = some (.int .i64 ((rd_T63 t363 x20_2).f2)) ∧ w'.cell? ⟨gb367, 3, none⟩ = some (.bool false)) (ds := []) #[false, false, false, false, false, false, false, false, false, false, false, false, false, false, false, false, false, false, false, false, false, false, false] (by kernel_rfl) rfl rfl ⟨(blk_cell BK367.out 0).trans rfl, (blk_cell BK367.out 1).trans rfl, (blk_cell BK367.out 2).trans rfl, (blk_cell BK367.out 3).trans rfl⟩ (fun hHeld => ?_); refine with_tabW impl_QuickCheck.tab9 impl_QuickCheck.bits9 (fun HT_ HW_ => ?_)
             generalize w41.drew = w42 at HO_18 BK367 HB hHeld ⊢
             refine pq 0 27 HT_.out ?_
             refine take_ (i := 1) (N := some 28) (v := ?_) (a' := ?_) #[true, true, false, false, false, false, false, false, false, false, false, false, false, false, false, false, false, false, false, false, false, false, false] rfl rfl (take_ofW HT_.out HW_.out (by kernel_rfl)) (fun _ _ _ h => h) (Or.inl ⟨by rfl, ?_⟩) hHeld ?_ ?_
             rotate_left
             ·rintro w' ⟨s0, s1, s2, s3⟩
              go_simp
              with_reducible rfl
             rotate_left
             ·simp only [Act.put, List.setIfInBounds_toArray, List.set_cons_zero, List.set_cons_succ, i64_w, i32_w]
              rfl
             refine pq 2 29 HT_.out ?_
             refine pq 3 30 HT_.out ?_
             refine pq 4 31 HT_.out ?_
             refine pq 5 32 HT_.out ?_
             refine pq 6 33 HT_.out ?_
             refine pq 7 34 HT_.out ?_
             refine pq 8 35 HT_.out ?_
             refine pq 9 36 HT_.out ?_
             refine pq 10 37 HT_.out ?_
             refine pq 11 38 HT_.out ?_
             refine pq 12 39 HT_.out ?_
             refine pq 13 40 HT_.out ?_
             refine pq 17 44 HT_.out ?_
             refine take_ (i := 14) (N := some 41) (v := ?_) (a' := ?_) #[true, true, true, true, true, true, true, true, true, true, true, true, true, true, true, false, false, true, false, false, false, false, false] rfl rfl (take_ofW HT_.out HW_.out (by kernel_rfl)) (fun _ _ _ h => h) (Or.inl ⟨by rfl, ?_⟩) hHeld ?_ ?_
             rotate_left
             ·rintro w' ⟨s0, s1, s2, s3⟩
              go_simp
              with_reducible rfl
             rotate_left
             ·simp only [Act.put, List.setIfInBounds_toArray, List.set_cons_zero, List.set_cons_succ, i64_w, i32_w]
              rfl
             refine take_ (i := 18) (N := some 45) (v := ?_) (a' := ?_) #[true, true, true, true, true, true, true, true, true, true, true, true, true, true, true, false, false, true, true, false, false, false, false] rfl rfl (take_ofW HT_.out HW_.out (by kernel_rfl)) (fun _ _ _ h => h) (Or.inl ⟨by rfl, ?_⟩) hHeld ?_ ?_
             rotate_left
             ·rintro w' ⟨s0, s1, s2, s3⟩
              go_simp
              with_reducible rfl
             rotate_left
             ·simp only [Act.put, List.setIfInBounds_toArray, List.set_cons_zero, List.set_cons_succ, i64_w, i32_w]
              rfl
             refine join_ (σ := Value × Value × Value) 3 #[true, true, true, true, true, true, true, true, true, true, true, true, true, true, true, true, true, true, true, true, false, false, false] (fun s_ => [(42, s_.1), (43, s_.2.1), (46, s_.2.2)]) (fun s_ w' => (w'.cell? ⟨gb367, 0, none⟩ = some (.int .i64 ((rd_T63 t363 x20_2).f0)) ∧ w'.cell? ⟨gb367, 1, none⟩ = some (.int .i64 ((rd_T63 t363 x20_2).f1)) ∧ w'.cell? ⟨gb367, 2, none⟩ = some (.int .i64 ((rd_T63 t363 x20_2).f2)) ∧ w'.cell? ⟨gb367, 3, none⟩ = some (.bool false)) ∧ (Kd.R (Kd.int .i64) 2 w' w.heap.size (fun k_ => some k_ ≠ (s_.2.1 : Value).ownBlock ∧ some k_ ≠ (s_.2.2 : Value).ownBlock) s_.1 y379) ∧ (Kd.R (Kd.int .i64) 2 w' w.heap.size (fun k_ => some k_ ≠ (s_.1 : Value).ownBlock ∧ some k_ ≠ (s_.2.2 : Value).ownBlock) s_.2.1 t382) ∧ (Kd.R (Kd.int .i64) 2 w' w.heap.size (fun k_ => some k_ ≠ (s_.1 : Value).ownBlock ∧ some k_ ≠ (s_.2.1 : Value).ownBlock) s_.2.2 y385) ∧ (Kd.R k63 63 w' w.heap.size (fun k_ => k_ ≠ gb367) (.slice (some ad366) t363.length co10) t363) ∧ (w'.heap[gb367]? = some (.cells #[.int .i64 ((rd_T63 t363 x20_2).f0), .int .i64 ((rd_T63 t363 x20_2).f1), .int .i64 ((rd_T63 t363 x20_2).f2), .bool false] 63 (0, 0))) ∧ (Below w.heap.size w w')) ?_ ?_
             rotate_left
             ·intro hCont
              refine two_ (i := 15) (j := 19) (Ni := some 42) (Nj := some 46) #[true, true, true, true, true, true, true, true, true, true, true, true, true, true, true, true, false, true, true, false, false, false, false] #[true, true, true, true, true, true, true, true, true, true, true, true, true, true, true, false, false, true, true, true, false, false, false] rfl rfl rfl rfl (two_of HT_.out (by kernel_rfl)) (by decide) (by decide) (fun K hK => ?_) (fun K hK => ?_)
              ·skip
               refine Kd.R_lit_step (Kd.int .i64) _ 2 ?hg (N := 42) ?hd (xs := ([(rd_T63 t363 x20_2).f0] : List Int)) (inner := [.int .i64 ((rd_T63 t363 x20_2).f0)]) (ok := fun _ => True) (okp := fun _ => True) ?hr ?hp (fun _ hk => hk) trivial (Below.refl _ _) (Nat.le_refl _) (by simp) ?_; (case hd => rfl); (case hg => rfl); (case hr => first | (go_simp; done) | (go_simp; rfl)); (case hp => exact (Reps.one (show Kd.M (Kd.int .i64) _ _ _ ((rd_T63 t363 x20_2).f0) [.int .i64 ((rd_T63 t363 x20_2).f0)] from rfl) (Reps.none _ _)))
               intro v380 w43 ho44 hb hg_ hnew_
               clear hg_ hnew_
               (first | rw [← Ny379.out] at ho44 | (simp only [Int.reduceToNat] at ho44; rw [← Ny379.out] at ho44))
               have n0_ := Aside0.mk (Kd.R_below (by (with_reducible repeat (first | apply Kd.R_alloc | apply Kd.R_drewN | apply Kd.R_drew)); exact HO_18.out) hb)
               have n1_ := Aside0.mk (Kd.R_lower ho44 (below_size (by repeat (first | (with_reducible first | exact HB.out | apply below_alloc | apply pw_below_drewN | apply below_drew1 | refine below_set ?_ GE367.out) | exact HB.out))))
               have n2_ := Aside0.mk (blk_below (g := gb367) (o := .cells #[.int .i64 ((rd_T63 t363 x20_2).f0), .int .i64 ((rd_T63 t363 x20_2).f1), .int .i64 ((rd_T63 t363 x20_2).f2), .bool false] 63 (0, 0)) (by (with_reducible repeat (first | refine blk_drewN ?_ _ | refine blk_drew ?_ | refine blk_alloc ?_ _)); exact BK367.out) hb)
               have n3_ := Aside0.mk (below_step (by repeat (first | (with_reducible first | exact HB.out | apply below_alloc | apply pw_below_drewN | apply below_drew1 | refine below_set ?_ GE367.out) | exact HB.out)) hb)
               clear HO_18
               clear BK367
               clear HB
               have HO_18 := n0_
               have HO381 := n1_
               have BK367 := n2_
               have HB := n3_
               clear n0_ n1_ n2_ n3_
               clear hb ho44
               obtain ⟨Ao45, co45, eo45⟩ := Kd.R_slice HO381.out
               (first | subst eo45 | (injection eo45 with f1_ f2_ f3_; have f4_ := f1_.symm; have f5_ := f3_.symm; clear f1_ f2_ f3_; subst f4_; subst f5_))
               refine hK.out _ _ ⟨(blk_cell BK367.out 0).trans rfl, (blk_cell BK367.out 1).trans rfl, (blk_cell BK367.out 2).trans rfl, (blk_cell BK367.out 3).trans rfl⟩ (fun hHeld => ?_)
               clear hK K
               refine norm_ (a' := ?_) ?_ ?_
               rotate_left
               ·show Act.put _ (some 42) _ = _
                simp only [Act.put, List.setIfInBounds_toArray, List.set_cons_zero, List.set_cons_succ, i64_w, i32_w]
                rfl
               refine two_ (i := 16) (j := 19) (Ni := some 43) (Nj := some 46) #[true, true, true, true, true, true, true, true, true, true, true, true, true, true, true, true, true, true, true, false, false, false, false] #[true, true, true, true, true, true, true, true, true, true, true, true, true, true, true, true, false, true, true, true, false, false, false] rfl rfl rfl rfl (two_of HT_.out (by kernel_rfl)) (by decide) (by decide) (fun K hK => ?_) (fun K hK => ?_)
               ·skip
                refine goes_ Tryd.func53 (by kernel_rfl) rfl #[.int .i64 a0, .slice Ao45 y379.length co45] (by rfl) rfl rfl (by (try simp only [List.map_toArray, List.map_cons, List.map_nil]); first | done | rfl | (simp only [List.length_drop, List.length_take]; rfl)) ?_
                with_reducible refine (impl_normal.calls k2 a0 _ _ y379 t382 _ ?side1 ?side2 A39.out).mono ?_
                (case side1 => repeat (first | exact (Kd.R_reads' HO381.out).2.2 | (with_reducible refine Kd.C_alloc ?_ _) | (with_reducible refine Kd.C_drewN ?_ _) | (with_reducible refine Kd.C_drew ?_)))
                (case side2 => exact (Kd.R_reads' HO381.out).2.1)
                rintro e w46 ⟨v383, rfl, ho0, hb⟩
                refine ⟨_, rfl, ?_⟩
                have n0_ := Aside0.mk (Kd.R_below (by (with_reducible repeat (first | apply Kd.R_alloc | apply Kd.R_drewN | apply Kd.R_drew)); exact HO_18.out) hb)
                have n1_ := Aside0.mk (Kd.R_elder' (by (with_reducible repeat (first | apply Kd.R_alloc | apply Kd.R_drewN | apply Kd.R_drew)); exact HO381.out) (Kd.R_base ho0) hb)
                have n2_ := Aside0.mk (Kd.R_lower (Kd.R_new' ho0 (Kd.R_lt (by (with_reducible repeat (first | apply Kd.R_alloc | apply Kd.R_drewN | apply Kd.R_drew)); exact HO381.out))) (below_size (by repeat (first | (with_reducible first | exact HB.out | apply below_alloc | apply pw_below_drewN | apply below_drew1 | refine below_set ?_ GE367.out) | exact HB.out))))
                have n3_ := Aside0.mk (blk_below (g := gb367) (o := .cells #[.int .i64 ((rd_T63 t363 x20_2).f0), .int .i64 ((rd_T63 t363 x20_2).f1), .int .i64 ((rd_T63 t363 x20_2).f2), .bool false] 63 (0, 0)) (by (with_reducible repeat (first | refine blk_drewN ?_ _ | refine blk_drew ?_ | refine blk_alloc ?_ _)); exact BK367.out) hb)
                have n4_ := Aside0.mk (below_step (by repeat (first | (with_reducible first | exact HB.out | apply below_alloc | apply pw_below_drewN | apply below_drew1 | refine below_set ?_ GE367.out) | exact HB.out)) hb)
                clear HO_18
                clear HO381
                clear BK367
                clear HB
                have HO_18 := n0_
                have HO381 := n1_
                have HO384 := n2_
                have BK367 := n3_
                have HB := n4_
                clear n0_ n1_ n2_ n3_ n4_
                (try clear hb)
                (try clear hb2)
                (try clear hk)
                (try clear hi)
                (try clear ho0)
                refine hK.out _ _ ⟨(blk_cell BK367.out 0).trans rfl, (blk_cell BK367.out 1).trans rfl, (blk_cell BK367.out 2).trans rfl, (blk_cell BK367.out 3).trans rfl⟩ (fun hHeld => ?_)
                clear hK K
                refine norm_ (a' := ?_) ?_ ?_
                rotate_left
                ·show Act.put _ (some 43) _ = _
                 simp only [Act.put, List.setIfInBounds_toArray, List.set_cons_zero, List.set_cons_succ, i64_w, i32_w]
                 rfl
                refine one_ (i := 19) (N := some 46) #[true, true, true, true, true, true, true, true, true, true, true, true, true, true, true, true, true, true, true, true, false, false, false] rfl rfl (one_of HT_.out (by kernel_rfl)) (by decide) (fun K hK => ?_)
                refine Kd.R_lit_step (Kd.int .i64) _ 2 ?hg (N := 46) ?hd (xs := ([(rd_T63 t363 x20_2).f0] : List Int)) (inner := [.int .i64 ((rd_T63 t363 x20_2).f0)]) (ok := fun _ => True) (okp := fun _ => True) ?hr ?hp (fun _ hk => hk) trivial (Below.refl _ _) (Nat.le_refl _) (by simp) ?_; (case hd => rfl); (case hg => rfl); (case hr => first | (go_simp; done) | (go_simp; rfl)); (case hp => exact (Reps.one (show Kd.M (Kd.int .i64) _ _ _ ((rd_T63 t363 x20_2).f0) [.int .i64 ((rd_T63 t363 x20_2).f0)] from rfl) (Reps.none _ _)))
                intro v386 w47 ho48 hb hg_ hnew_
                clear hg_ hnew_
                (first | rw [← Ny385.out] at ho48 | (simp only [Int.reduceToNat] at ho48; rw [← Ny385.out] at ho48))
                have n0_ := Aside0.mk (Kd.R_below (by (with_reducible repeat (first | apply Kd.R_alloc | apply Kd.R_drewN | apply Kd.R_drew)); exact HO_18.out) hb)
                have n1_ := Aside0.mk (Kd.R_elder' (by (with_reducible repeat (first | apply Kd.R_alloc | apply Kd.R_drewN | apply Kd.R_drew)); exact HO381.out) (Kd.R_base ho48) hb)
                have n2_ := Aside0.mk (Kd.R_elder' (by (with_reducible repeat (first | apply Kd.R_alloc | apply Kd.R_drewN | apply Kd.R_drew)); exact HO384.out) (Kd.R_base ho48) hb)
                have n3_ := Aside0.mk (Kd.R_lower (Kd.R_new' (Kd.R_new' ho48 (Kd.R_lt (by (with_reducible repeat (first | apply Kd.R_alloc | apply Kd.R_drewN | apply Kd.R_drew)); exact HO381.out))) (Kd.R_lt (by (with_reducible repeat (first | apply Kd.R_alloc | apply Kd.R_drewN | apply Kd.R_drew)); exact HO384.out))) (below_size (by repeat (first | (with_reducible first | exact HB.out | apply below_alloc | apply pw_below_drewN | apply below_drew1 | refine below_set ?_ GE367.out) | exact HB.out))))
                have n4_ := Aside0.mk (blk_below (g := gb367) (o := .cells #[.int .i64 ((rd_T63 t363 x20_2).f0), .int .i64 ((rd_T63 t363 x20_2).f1), .int .i64 ((rd_T63 t363 x20_2).f2), .bool false] 63 (0, 0)) (by (with_reducible repeat (first | refine blk_drewN ?_ _ | refine blk_drew ?_ | refine blk_alloc ?_ _)); exact BK367.out) hb)
                have n5_ := Aside0.mk (below_step (by repeat (first | (with_reducible first | exact HB.out | apply below_alloc | apply pw_below_drewN | apply below_drew1 | refine below_set ?_ GE367.out) | exact HB.out)) hb)
                clear HO_18
                clear HO381
                clear HO384
                clear BK367
                clear HB
                have HO_18 := n0_
                have HO381 := n1_
                have HO384 := n2_
                have HO387 := n3_
                have BK367 := n4_
                have HB := n5_
                clear n0_ n1_ n2_ n3_ n4_ n5_
                clear hb ho48
                refine hK.out _ _ ⟨(blk_cell BK367.out 0).trans rfl, (blk_cell BK367.out 1).trans rfl, (blk_cell BK367.out 2).trans rfl, (blk_cell BK367.out 3).trans rfl⟩ (fun hHeld => ?_)
                clear hK K
                refine norm_ (a' := ?_) ?_ ?_
                rotate_left
                ·show Act.put _ (some 46) _ = _
                 simp only [Act.put, List.setIfInBounds_toArray, List.set_cons_zero, List.set_cons_succ, i64_w, i32_w]
                 rfl
                exact norm_ (by simp only [putAll, Act.put, List.setIfInBounds_toArray, List.set_cons_zero, List.set_cons_succ]) (hCont (.slice Ao45 y379.length co45, v383, v386) _ ⟨hHeld, (by (with_reducible repeat (first | apply Kd.R_alloc | apply Kd.R_drewN | apply Kd.R_drew)); exact Kd.R_mono HO381.out (fun _ hk => ⟨hk.1.2, hk.2⟩)), (by (with_reducible repeat (first | apply Kd.R_alloc | apply Kd.R_drewN | apply Kd.R_drew)); exact Kd.R_mono HO384.out (fun _ hk => ⟨hk.1.2, hk.2⟩)), (by (with_reducible repeat (first | apply Kd.R_alloc | apply Kd.R_drewN | apply Kd.R_drew)); exact Kd.R_mono HO387.out (fun _ hk => ⟨hk.1.2, hk.2⟩)), (by (with_reducible repeat (first | apply Kd.R_alloc | apply Kd.R_drewN | apply Kd.R_drew)); exact HO_18.out), (by (with_reducible repeat (first | refine blk_drewN ?_ _ | refine blk_drew ?_ | refine blk_alloc ?_ _)); exact BK367.out), (by repeat (first | (with_reducible first | exact HB.out | apply below_alloc | apply pw_below_drewN | apply below_drew1 | refine below_set ?_ GE367.out) | exact HB.out))⟩)
               ·skip
                refine Kd.R_lit_step (Kd.int .i64) _ 2 ?hg (N := 46) ?hd (xs := ([(rd_T63 t363 x20_2).f0] : List Int)) (inner := [.int .i64 ((rd_T63 t363 x20_2).f0)]) (ok := fun _ => True) (okp := fun _ => True) ?hr ?hp (fun _ hk => hk) trivial (Below.refl _ _) (Nat.le_refl _) (by simp) ?_; (case hd => rfl); (case hg => rfl); (case hr => first | (go_simp; done) | (go_simp; rfl)); (case hp => exact (Reps.one (show Kd.M (Kd.int .i64) _ _ _ ((rd_T63 t363 x20_2).f0) [.int .i64 ((rd_T63 t363 x20_2).f0)] from rfl) (Reps.none _ _)))
                intro v386 w45 ho46 hb hg_ hnew_
                clear hg_ hnew_
                (first | rw [← Ny385.out] at ho46 | (simp only [Int.reduceToNat] at ho46; rw [← Ny385.out] at ho46))
                have n0_ := Aside0.mk (Kd.R_below (by (with_reducible repeat (first | apply Kd.R_alloc | apply Kd.R_drewN | apply Kd.R_drew)); exact HO_18.out) hb)
                have n1_ := Aside0.mk (Kd.R_elder' (by (with_reducible repeat (first | apply Kd.R_alloc | apply Kd.R_drewN | apply Kd.R_drew)); exact HO381.out) (Kd.R_base ho46) hb)
                have n2_ := Aside0.mk (Kd.R_lower (Kd.R_new' ho46 (Kd.R_lt (by (with_reducible repeat (first | apply Kd.R_alloc | apply Kd.R_drewN | apply Kd.R_drew)); exact HO381.out))) (below_size (by repeat (first | (with_reducible first | exact HB.out | apply below_alloc | apply pw_below_drewN | apply below_drew1 | refine below_set ?_ GE367.out) | exact HB.out))))
                have n3_ := Aside0.mk (blk_below (g := gb367) (o := .cells #[.int .i64 ((rd_T63 t363 x20_2).f0), .int .i64 ((rd_T63 t363 x20_2).f1), .int .i64 ((rd_T63 t363 x20_2).f2), .bool false] 63 (0, 0)) (by (with_reducible repeat (first | refine blk_drewN ?_ _ | refine blk_drew ?_ | refine blk_alloc ?_ _)); exact BK367.out) hb)
                have n4_ := Aside0.mk (below_step (by repeat (first | (with_reducible first | exact HB.out | apply below_alloc | apply pw_below_drewN | apply below_drew1 | refine below_set ?_ GE367.out) | exact HB.out)) hb)
                clear HO_18
                clear HO381
                clear BK367
                clear HB
                have HO_18 := n0_
                have HO381 := n1_
                have HO387 := n2_
                have BK367 := n3_
                have HB := n4_
                clear n0_ n1_ n2_ n3_ n4_
                clear hb ho46
                obtain ⟨Ao47, co47, eo47⟩ := Kd.R_slice HO381.out
                (first | subst eo47 | (injection eo47 with f1_ f2_ f3_; have f4_ := f1_.symm; have f5_ := f3_.symm; clear f1_ f2_ f3_; subst f4_; subst f5_))
                refine hK.out _ _ ⟨(blk_cell BK367.out 0).trans rfl, (blk_cell BK367.out 1).trans rfl, (blk_cell BK367.out 2).trans rfl, (blk_cell BK367.out 3).trans rfl⟩ (fun hHeld => ?_)
                clear hK K
                refine norm_ (a' := ?_) ?_ ?_
                rotate_left
                ·show Act.put _ (some 46) _ = _
                 simp only [Act.put, List.setIfInBounds_toArray, List.set_cons_zero, List.set_cons_succ, i64_w, i32_w]
                 rfl
                refine one_ (i := 16) (N := some 43) #[true, true, true, true, true, true, true, true, true, true, true, true, true, true, true, true, true, true, true, true, false, false, false] rfl rfl (one_of HT_.out (by kernel_rfl)) (by decide) (fun K hK => ?_)
                refine goes_ Tryd.func53 (by kernel_rfl) rfl #[.int .i64 a0, .slice Ao47 y379.length co47] (by rfl) rfl rfl (by (try simp only [List.map_toArray, List.map_cons, List.map_nil]); first | done | rfl | (simp only [List.length_drop, List.length_take]; rfl)) ?_
                with_reducible refine (impl_normal.calls k2 a0 _ _ y379 t382 _ ?side1 ?side2 A39.out).mono ?_
                (case side1 => repeat (first | exact (Kd.R_reads' HO381.out).2.2 | (with_reducible refine Kd.C_alloc ?_ _) | (with_reducible refine Kd.C_drewN ?_ _) | (with_reducible refine Kd.C_drew ?_)))
                (case side2 => exact (Kd.R_reads' HO381.out).2.1)
                rintro e w48 ⟨v383, rfl, ho0, hb⟩
                refine ⟨_, rfl, ?_⟩
                have n0_ := Aside0.mk (Kd.R_below (by (with_reducible repeat (first | apply Kd.R_alloc | apply Kd.R_drewN | apply Kd.R_drew)); exact HO_18.out) hb)
                have n1_ := Aside0.mk (Kd.R_elder' (by (with_reducible repeat (first | apply Kd.R_alloc | apply Kd.R_drewN | apply Kd.R_drew)); exact HO381.out) (Kd.R_base ho0) hb)
                have n2_ := Aside0.mk (Kd.R_elder' (by (with_reducible repeat (first | apply Kd.R_alloc | apply Kd.R_drewN | apply Kd.R_drew)); exact HO387.out) (Kd.R_base ho0) hb)
                have n3_ := Aside0.mk (Kd.R_lower (Kd.R_new' (Kd.R_new' ho0 (Kd.R_lt (by (with_reducible repeat (first | apply Kd.R_alloc | apply Kd.R_drewN | apply Kd.R_drew)); exact HO381.out))) (Kd.R_lt (by (with_reducible repeat (first | apply Kd.R_alloc | apply Kd.R_drewN | apply Kd.R_drew)); exact HO387.out))) (below_size (by repeat (first | (with_reducible first | exact HB.out | apply below_alloc | apply pw_below_drewN | apply below_drew1 | refine below_set ?_ GE367.out) | exact HB.out))))
                have n4_ := Aside0.mk (blk_below (g := gb367) (o := .cells #[.int .i64 ((rd_T63 t363 x20_2).f0), .int .i64 ((rd_T63 t363 x20_2).f1), .int .i64 ((rd_T63 t363 x20_2).f2), .bool false] 63 (0, 0)) (by (with_reducible repeat (first | refine blk_drewN ?_ _ | refine blk_drew ?_ | refine blk_alloc ?_ _)); exact BK367.out) hb)
                have n5_ := Aside0.mk (below_step (by repeat (first | (with_reducible first | exact HB.out | apply below_alloc | apply pw_below_drewN | apply below_drew1 | refine below_set ?_ GE367.out) | exact HB.out)) hb)
                clear HO_18
                clear HO381
                clear HO387
                clear BK367
                clear HB
                have HO_18 := n0_
                have HO381 := n1_
                have HO387 := n2_
                have HO384 := n3_
                have BK367 := n4_
                have HB := n5_
                clear n0_ n1_ n2_ n3_ n4_ n5_
                (try clear hb)
                (try clear hb2)
                (try clear hk)
                (try clear hi)
                (try clear ho0)
                refine hK.out _ _ ⟨(blk_cell BK367.out 0).trans rfl, (blk_cell BK367.out 1).trans rfl, (blk_cell BK367.out 2).trans rfl, (blk_cell BK367.out 3).trans rfl⟩ (fun hHeld => ?_)
                clear hK K
                refine norm_ (a' := ?_) ?_ ?_
                rotate_left
                ·show Act.put _ (some 43) _ = _
                 simp only [Act.put, List.setIfInBounds_toArray, List.set_cons_zero, List.set_cons_succ, i64_w, i32_w]
                 rfl
                exact norm_ (by simp only [putAll, Act.put, List.setIfInBounds_toArray, List.set_cons_zero, List.set_cons_succ]) (hCont (.slice Ao47 y379.length co47, v383, v386) _ ⟨hHeld, (by (with_reducible repeat (first | apply Kd.R_alloc | apply Kd.R_drewN | apply Kd.R_drew)); exact Kd.R_mono HO381.out (fun _ hk => ⟨hk.2, hk.1.2⟩)), (by (with_reducible repeat (first | apply Kd.R_alloc | apply Kd.R_drewN | apply Kd.R_drew)); exact Kd.R_mono HO384.out (fun _ hk => ⟨hk.1.2, hk.2⟩)), (by (with_reducible repeat (first | apply Kd.R_alloc | apply Kd.R_drewN | apply Kd.R_drew)); exact Kd.R_mono HO387.out (fun _ hk => ⟨hk.1.2, hk.2⟩)), (by (with_reducible repeat (first | apply Kd.R_alloc | apply Kd.R_drewN | apply Kd.R_drew)); exact HO_18.out), (by (with_reducible repeat (first | refine blk_drewN ?_ _ | refine blk_drew ?_ | refine blk_alloc ?_ _)); exact BK367.out), (by repeat (first | (with_reducible first | exact HB.out | apply below_alloc | apply pw_below_drewN | apply below_drew1 | refine below_set ?_ GE367.out) | exact HB.out))⟩)
              ·skip
               refine Kd.R_lit_step (Kd.int .i64) _ 2 ?hg (N := 46) ?hd (xs := ([(rd_T63 t363 x20_2).f0] : List Int)) (inner := [.int .i64 ((rd_T63 t363 x20_2).f0)]) (ok := fun _ => True) (okp := fun _ => True) ?hr ?hp (fun _ hk => hk) trivial (Below.refl _ _) (Nat.le_refl _) (by simp) ?_; (case hd => rfl); (case hg => rfl); (case hr => first | (go_simp; done) | (go_simp; rfl)); (case hp => exact (Reps.one (show Kd.M (Kd.int .i64) _ _ _ ((rd_T63 t363 x20_2).f0) [.int .i64 ((rd_T63 t363 x20_2).f0)] from rfl) (Reps.none _ _)))
               intro v386 w43 ho44 hb hg_ hnew_
               clear hg_ hnew_
               (first | rw [← Ny385.out] at ho44 | (simp only [Int.reduceToNat] at ho44; rw [← Ny385.out] at ho44))
               have n0_ := Aside0.mk (Kd.R_below (by (with_reducible repeat (first | apply Kd.R_alloc | apply Kd.R_drewN | apply Kd.R_drew)); exact HO_18.out) hb)
               have n1_ := Aside0.mk (Kd.R_lower ho44 (below_size (by repeat (first | (with_reducible first | exact HB.out | apply below_alloc | apply pw_below_drewN | apply below_drew1 | refine below_set ?_ GE367.out) | exact HB.out))))
               have n2_ := Aside0.mk (blk_below (g := gb367) (o := .cells #[.int .i64 ((rd_T63 t363 x20_2).f0), .int .i64 ((rd_T63 t363 x20_2).f1), .int .i64 ((rd_T63 t363 x20_2).f2), .bool false] 63 (0, 0)) (by (with_reducible repeat (first | refine blk_drewN ?_ _ | refine blk_drew ?_ | refine blk_alloc ?_ _)); exact BK367.out) hb)
               have n3_ := Aside0.mk (below_step (by repeat (first | (with_reducible first | exact HB.out | apply below_alloc | apply pw_below_drewN | apply below_drew1 | refine below_set ?_ GE367.out) | exact HB.out)) hb)
               clear HO_18
               clear BK367
               clear HB
               have HO_18 := n0_
               have HO387 := n1_
               have BK367 := n2_
               have HB := n3_
               clear n0_ n1_ n2_ n3_
               clear hb ho44
               refine hK.out _ _ ⟨(blk_cell BK367.out 0).trans rfl, (blk_cell BK367.out 1).trans rfl, (blk_cell BK367.out 2).trans rfl, (blk_cell BK367.out 3).trans rfl⟩ (fun hHeld => ?_)
               clear hK K
               refine norm_ (a' := ?_) ?_ ?_
               rotate_left
               ·show Act.put _ (some 46) _ = _
                simp only [Act.put, List.setIfInBounds_toArray, List.set_cons_zero, List.set_cons_succ, i64_w, i32_w]
                rfl
               refine one_ (i := 15) (N := some 42) #[true, true, true, true, true, true, true, true, true, true, true, true, true, true, true, true, false, true, true, true, false, false, false] rfl rfl (one_of HT_.out (by kernel_rfl)) (by decide) (fun K hK => ?_)
               refine Kd.R_lit_step (Kd.int .i64) _ 2 ?hg (N := 42) ?hd (xs := ([(rd_T63 t363 x20_2).f0] : List Int)) (inner := [.int .i64 ((rd_T63 t363 x20_2).f0)]) (ok := fun _ => True) (okp := fun _ => True) ?hr ?hp (fun _ hk => hk) trivial (Below.refl _ _) (Nat.le_refl _) (by simp) ?_; (case hd => rfl); (case hg => rfl); (case hr => first | (go_simp; done) | (go_simp; rfl)); (case hp => exact (Reps.one (show Kd.M (Kd.int .i64) _ _ _ ((rd_T63 t363 x20_2).f0) [.int .i64 ((rd_T63 t363 x20_2).f0)] from rfl) (Reps.none _ _)))
               intro v380 w45 ho46 hb hg_ hnew_
               clear hg_ hnew_
               (first | rw [← Ny379.out] at ho46 | (simp only [Int.reduceToNat] at ho46; rw [← Ny379.out] at ho46))
               have n0_ := Aside0.mk (Kd.R_below (by (with_reducible repeat (first | apply Kd.R_alloc | apply Kd.R_drewN | apply Kd.R_drew)); exact HO_18.out) hb)
               have n1_ := Aside0.mk (Kd.R_elder' (by (with_reducible repeat (first | apply Kd.R_alloc | apply Kd.R_drewN | apply Kd.R_drew)); exact HO387.out) (Kd.R_base ho46) hb)
               have n2_ := Aside0.mk (Kd.R_lower (Kd.R_new' ho46 (Kd.R_lt (by (with_reducible repeat (first | apply Kd.R_alloc | apply Kd.R_drewN | apply Kd.R_drew)); exact HO387.out))) (below_size (by repeat (first | (with_reducible first | exact HB.out | apply below_alloc | apply pw_below_drewN | apply below_drew1 | refine below_set ?_ GE367.out) | exact HB.out))))
               have n3_ := Aside0.mk (blk_below (g := gb367) (o := .cells #[.int .i64 ((rd_T63 t363 x20_2).f0), .int .i64 ((rd_T63 t363 x20_2).f1), .int .i64 ((rd_T63 t363 x20_2).f2), .bool false] 63 (0, 0)) (by (with_reducible repeat (first | refine blk_drewN ?_ _ | refine blk_drew ?_ | refine blk_alloc ?_ _)); exact BK367.out) hb)
               have n4_ := Aside0.mk (below_step (by repeat (first | (with_reducible first | exact HB.out | apply below_alloc | apply pw_below_drewN | apply below_drew1 | refine below_set ?_ GE367.out) | exact HB.out)) hb)
               clear HO_18
               clear HO387
               clear BK367
               clear HB
               have HO_18 := n0_
               have HO387 := n1_
               have HO381 := n2_
               have BK367 := n3_
               have HB := n4_
               clear n0_ n1_ n2_ n3_ n4_
               clear hb ho46
               obtain ⟨Ao47, co47, eo47⟩ := Kd.R_slice HO381.out
               (first | subst eo47 | (injection eo47 with f1_ f2_ f3_; have f4_ := f1_.symm; have f5_ := f3_.symm; clear f1_ f2_ f3_; subst f4_; subst f5_))
               refine hK.out _ _ ⟨(blk_cell BK367.out 0).trans rfl, (blk_cell BK367.out 1).trans rfl, (blk_cell BK367.out 2).trans rfl, (blk_cell BK367.out 3).trans rfl⟩ (fun hHeld => ?_)
               clear hK K
               refine norm_ (a' := ?_) ?_ ?_
               rotate_left
               ·show Act.put _ (some 42) _ = _
                simp only [Act.put, List.setIfInBounds_toArray, List.set_cons_zero, List.set_cons_succ, i64_w, i32_w]
                rfl
               refine one_ (i := 16) (N := some 43) #[true, true, true, true, true, true, true, true, true, true, true, true, true, true, true, true, true, true, true, true, false, false, false] rfl rfl (one_of HT_.out (by kernel_rfl)) (by decide) (fun K hK => ?_)
               refine goes_ Tryd.func53 (by kernel_rfl) rfl #[.int .i64 a0, .slice Ao47 y379.length co47] (by rfl) rfl rfl (by (try simp only [List.map_toArray, List.map_cons, List.map_nil]); first | done | rfl | (simp only [List.length_drop, List.length_take]; rfl)) ?_
               with_reducible refine (impl_normal.calls k2 a0 _ _ y379 t382 _ ?side1 ?side2 A39.out).mono ?_
               (case side1 => repeat (first | exact (Kd.R_reads' HO381.out).2.2 | (with_reducible refine Kd.C_alloc ?_ _) | (with_reducible refine Kd.C_drewN ?_ _) | (with_reducible refine Kd.C_drew ?_)))
               (case side2 => exact (Kd.R_reads' HO381.out).2.1)
               rintro e w48 ⟨v383, rfl, ho0, hb⟩
               refine ⟨_, rfl, ?_⟩
               have n0_ := Aside0.mk (Kd.R_below (by (with_reducible repeat (first | apply Kd.R_alloc | apply Kd.R_drewN | apply Kd.R_drew)); exact HO_18.out) hb)
               have n1_ := Aside0.mk (Kd.R_elder' (by (with_reducible repeat (first | apply Kd.R_alloc | apply Kd.R_drewN | apply Kd.R_drew)); exact HO387.out) (Kd.R_base ho0) hb)
               have n2_ := Aside0.mk (Kd.R_elder' (by (with_reducible repeat (first | apply Kd.R_alloc | apply Kd.R_drewN | apply Kd.R_drew)); exact HO381.out) (Kd.R_base ho0) hb)
               have n3_ := Aside0.mk (Kd.R_lower (Kd.R_new' (Kd.R_new' ho0 (Kd.R_lt (by (with_reducible repeat (first | apply Kd.R_alloc | apply Kd.R_drewN | apply Kd.R_drew)); exact HO387.out))) (Kd.R_lt (by (with_reducible repeat (first | apply Kd.R_alloc | apply Kd.R_drewN | apply Kd.R_drew)); exact HO381.out))) (below_size (by repeat (first | (with_reducible first | exact HB.out | apply below_alloc | apply pw_below_drewN | apply below_drew1 | refine below_set ?_ GE367.out) | exact HB.out))))
               have n4_ := Aside0.mk (blk_below (g := gb367) (o := .cells #[.int .i64 ((rd_T63 t363 x20_2).f0), .int .i64 ((rd_T63 t363 x20_2).f1), .int .i64 ((rd_T63 t363 x20_2).f2), .bool false] 63 (0, 0)) (by (with_reducible repeat (first | refine blk_drewN ?_ _ | refine blk_drew ?_ | refine blk_alloc ?_ _)); exact BK367.out) hb)
               have n5_ := Aside0.mk (below_step (by repeat (first | (with_reducible first | exact HB.out | apply below_alloc | apply pw_below_drewN | apply below_drew1 | refine below_set ?_ GE367.out) | exact HB.out)) hb)
               clear HO_18
               clear HO387
               clear HO381
               clear BK367
               clear HB
               have HO_18 := n0_
               have HO387 := n1_
               have HO381 := n2_
               have HO384 := n3_
               have BK367 := n4_
               have HB := n5_
               clear n0_ n1_ n2_ n3_ n4_ n5_
               (try clear hb)
               (try clear hb2)
               (try clear hk)
               (try clear hi)
               (try clear ho0)
               refine hK.out _ _ ⟨(blk_cell BK367.out 0).trans rfl, (blk_cell BK367.out 1).trans rfl, (blk_cell BK367.out 2).trans rfl, (blk_cell BK367.out 3).trans rfl⟩ (fun hHeld => ?_)
               clear hK K
               refine norm_ (a' := ?_) ?_ ?_
               rotate_left
               ·show Act.put _ (some 43) _ = _
                simp only [Act.put, List.setIfInBounds_toArray, List.set_cons_zero, List.set_cons_succ, i64_w, i32_w]
                rfl
               exact norm_ (by simp only [putAll, Act.put, List.setIfInBounds_toArray, List.set_cons_zero, List.set_cons_succ]) (hCont (.slice Ao47 y379.length co47, v383, v386) _ ⟨hHeld, (by (with_reducible repeat (first | apply Kd.R_alloc | apply Kd.R_drewN | apply Kd.R_drew)); exact Kd.R_mono HO381.out (fun _ hk => ⟨hk.2, hk.1.2⟩)), (by (with_reducible repeat (first | apply Kd.R_alloc | apply Kd.R_drewN | apply Kd.R_drew)); exact Kd.R_mono HO384.out (fun _ hk => ⟨hk.2, hk.1.2⟩)), (by (with_reducible repeat (first | apply Kd.R_alloc | apply Kd.R_drewN | apply Kd.R_drew)); exact Kd.R_mono HO387.out (fun _ hk => ⟨hk.1.2, hk.2⟩)), (by (with_reducible repeat (first | apply Kd.R_alloc | apply Kd.R_drewN | apply Kd.R_drew)); exact HO_18.out), (by (with_reducible repeat (first | refine blk_drewN ?_ _ | refine blk_drew ?_ | refine blk_alloc ?_ _)); exact BK367.out), (by repeat (first | (with_reducible first | exact HB.out | apply below_alloc | apply pw_below_drewN | apply below_drew1 | refine below_set ?_ GE367.out) | exact HB.out))⟩)
             rintro ⟨v380, v383, v386⟩ w49 ⟨hS_, h0_, h1_, h2_, h3_, h4_, h5_⟩
             have n0_ : Aside0 (Kd.R (Kd.int .i64) 2 w49 w.heap.size (fun k_ => some k_ ≠ (v383 : Value).ownBlock ∧ some k_ ≠ (v386 : Value).ownBlock) v380 y379) := ⟨h0_⟩
             have n1_ : Aside0 (Kd.R (Kd.int .i64) 2 w49 w.heap.size (fun k_ => some k_ ≠ (v380 : Value).ownBlock ∧ some k_ ≠ (v386 : Value).ownBlock) v383 t382) := ⟨h1_⟩
             have n2_ : Aside0 (Kd.R (Kd.int .i64) 2 w49 w.heap.size (fun k_ => some k_ ≠ (v380 : Value).ownBlock ∧ some k_ ≠ (v383 : Value).ownBlock) v386 y385) := ⟨h2_⟩
             have n3_ : Aside0 (Kd.R k63 63 w49 w.heap.size (fun k_ => k_ ≠ gb367) (.slice (some ad366) t363.length co10) t363) := ⟨h3_⟩
             have n4_ : Aside0 (w49.heap[gb367]? = some (.cells #[.int .i64 ((rd_T63 t363 x20_2).f0), .int .i64 ((rd_T63 t363 x20_2).f1), .int .i64 ((rd_T63 t363 x20_2).f2), .bool false] 63 (0, 0))) := ⟨h4_⟩
             have n5_ : Aside0 (Below w.heap.size w w49) := ⟨h5_⟩
             clear HO_18
             clear BK367
             clear HB
             clear h0_ h1_ h2_ h3_ h4_ h5_
             have HO381 := n0_
             have HO384 := n1_
             have HO387 := n2_
             have HO_18 := n3_
             have BK367 := n4_
             have HB := n5_
             clear n0_ n1_ n2_ n3_ n4_ n5_
             have hHeld : w49.cell? ⟨gb367, 0, none⟩ = some (.int .i64 ((rd_T63 t363 x20_2).f0)) ∧ w49.cell? ⟨gb367, 1, none⟩ = some (.int .i64 ((rd_T63 t363 x20_2).f1)) ∧ w49.cell? ⟨gb367, 2, none⟩ = some (.int .i64 ((rd_T63 t363 x20_2).f2)) ∧ w49.cell? ⟨gb367, 3, none⟩ = some (.bool false) := hS_
             obtain ⟨Ao50, co50, eo50⟩ := Kd.R_slice HO384.out
             (first | subst eo50 | (injection eo50 with f1_ f2_ f3_; have f4_ := f1_.symm; have f5_ := f3_.symm; clear f1_ f2_ f3_; subst f4_; subst f5_))
             obtain ⟨Ao51, co51, eo51⟩ := Kd.R_slice HO387.out
             (first | subst eo51 | (injection eo51 with f1_ f2_ f3_; have f4_ := f1_.symm; have f5_ := f3_.symm; clear f1_ f2_ f3_; subst f4_; subst f5_))
             refine norm_ (a' := ?_) ?_ ?_
             rotate_left
             ·simp only [putAll, Act.put, List.setIfInBounds_toArray, List.set_cons_zero, List.set_cons_succ]
              rfl
             refine one_ (i := 20) (N := some 47) #[true, true, true, true, true, true, true, true, true, true, true, true, true, true, true, true, true, true, true, true, true, false, false] rfl rfl (one_of HT_.out (by kernel_rfl)) (by decide) (fun K hK => ?_)
             refine goes_ Tryd.func52 (by kernel_rfl) rfl #[.slice Ao50 t382.length co50, .slice Ao51 y385.length co51] (by rfl) rfl rfl (by (try simp only [List.map_toArray, List.map_cons, List.map_nil]); first | done | rfl | (simp only [List.length_drop, List.length_take]; rfl)) ?_
             with_reducible refine (slices_Equal_int64_int64.calls k2 _ _ t382 _ _ y385 t388 _ ?side1 ?side2 ?side3 ?side4 A40.out).mono ?_
             (case side1 => repeat (first | exact (Kd.R_reads' HO384.out).2.2 | (with_reducible refine Kd.C_alloc ?_ _) | (with_reducible refine Kd.C_drewN ?_ _) | (with_reducible refine Kd.C_drew ?_)))
             (case side2 => exact (Kd.R_reads' HO384.out).2.1)
             (case side3 => repeat (first | exact (Kd.R_reads' HO387.out).2.2 | (with_reducible refine Kd.C_alloc ?_ _) | (with_reducible refine Kd.C_drewN ?_ _) | (with_reducible refine Kd.C_drew ?_)))
             (case side4 => exact (Kd.R_reads' HO387.out).2.1)
             rintro e w' ⟨rfl, ⟨nd, rfl⟩⟩
             refine ⟨_, rfl, ?_⟩
             refine hK.out _ _ ⟨(blk_cell BK367.out 0).trans rfl, (blk_cell BK367.out 1).trans rfl, (blk_cell BK367.out 2).trans rfl, (blk_cell BK367.out 3).trans rfl⟩ (fun hHeld => ?_)
             clear hK K
             refine norm_ (a' := ?_) ?_ ?_
             rotate_left
             ·show Act.put _ (some 47) _ = _
              simp only [Act.put, List.setIfInBounds_toArray, List.set_cons_zero, List.set_cons_succ, i64_w, i32_w]
              rfl
             refine pq 21 48 HT_.out ?_
             refine pq 22 49 HT_.out ?_
             refine done_ (done_of HT_.out (by kernel_rfl)) ?_
             try go_wp2
             go_meet
             case rel => (try rw [← Nbq18.out]); exact ⟨_, (!t388), (by first | rfl | (simp; done) | (simp [*]; done)), H', ⟨by have := HJ2.out; have := HK2.out; first | omega | exact Nat.le_refl _⟩, ⟨by (with_reducible repeat (first | apply Kd.R_alloc | apply Kd.R_drewN | apply Kd.R_drew)); exact HO_18.out⟩, ⟨by (with_reducible repeat (first | refine blk_drewN ?_ _ | refine blk_drew ?_ | refine blk_alloc ?_ _)); exact BK367.out⟩, ⟨by repeat (first | (with_reducible first | exact HB.out | apply below_alloc | apply pw_below_drewN | apply below_drew1 | refine below_set ?_ GE367.out) | exact HB.out)⟩⟩
         case rest =>
          clear HC15
          try clear p2
          try clear c3
          try clear c5
          try clear c36
          try clear c36b0
          obtain ⟨kq, x49_14, rfl, HA, HJ14, HO_18, BK367, HB⟩ := hcut
          cases kq with
          | zero => exact absurd HA.out (by simp [impl_QuickCheck.j2])
          | succ kj14 =>
           have H := HA.out
           clear HA
           simp only [impl_QuickCheck.j2] at H
           by_cases c52 : x49_14 = true
           ·subst c52
            have H1 : (some 2) = some r := by rw [if_pos rfl] at H; exact H
            clear H
            have H := H1
            clear H1
            obtain rfl := Option.some.inj H
            go_wp2
            go_ret
            exact ⟨by first | rfl | (simp [errW_none, errW_some] <;> rfl) | (simp [*, errW_none, errW_some] <;> rfl), by repeat (first | (with_reducible first | exact HB.out | apply below_alloc | apply pw_below_drewN | apply below_drew1 | refine below_set ?_ GE367.out) | exact HB.out)⟩
           ·replace c52 := Bool.eq_false_iff.mpr c52
            subst c52
            have H1 : (if a0 = 2 then ((impl_isSecond.f ((rd_T63 t363 x20_2).f0)).bind fun t389 => (if t389 = true then (impl_QuickCheck.l0 kj14 a0 3 t368 t363 (t363.length : Int) (wrap64 (x20_2 + 1))) else (impl_QuickCheck.l0 kj14 a0 x5_2 t368 t363 (t363.length : Int) (wrap64 (x20_2 + 1))))) else (if a0 = 4 then ((impl_isSecond.f ((rd_T63 t363 x20_2).f0)).bind fun t390 => (if t390 = true then (impl_QuickCheck.l0 kj14 a0 3 t368 t363 (t363.length : Int) (wrap64 (x20_2 + 1))) else (impl_QuickCheck.l0 kj14 a0 x5_2 t368 t363 (t363.length : Int) (wrap64 (x20_2 + 1))))) else (impl_QuickCheck.l0 kj14 a0 x5_2 t368 t363 (t363.length : Int) (wrap64 (x20_2 + 1))))) = some r := by rw [if_neg (show ¬ (false = true) by decide)] at H; exact H
            clear H
            have H := H1
            clear H1
            by_cases c53 : a0 = 2
            ·rw [if_pos c53] at H
             have c53b0 : (a0 == 2) = true := beq_iff_eq.mpr c53
             have c53b1 : (a0 != 2) = false := bne_eq_false_iff_eq.mpr c53
             clear c53
             replace H := Option.bind_eq_some_iff.mp H
             obtain ⟨t389, A540, H⟩ := H
             replace H : (if t389 = true then (impl_QuickCheck.l0 kj14 a0 3 t368 t363 (t363.length : Int) (wrap64 (x20_2 + 1))) else (impl_QuickCheck.l0 kj14 a0 x5_2 t368 t363 (t363.length : Int) (wrap64 (x20_2 + 1)))) = some r := H
             have A54 := Aside0.mk A540
             clear A540
             by_cases c55 : t389 = true
             ·subst c55
              have H1 : (impl_QuickCheck.l0 kj14 a0 3 t368 t363 (t363.length : Int) (wrap64 (x20_2 + 1))) = some r := by rw [if_pos rfl] at H; exact H
              clear H
              have H := H1
              clear H1
              have H' := Aside0.mk H
              clear H
              have hcz56_0 : wc.cell? ⟨gb367, 0, none⟩ = some (.int .i64 ((rd_T63 t363 x20_2).f0)) := (blk_cell BK367.out 0).trans rfl
              have hcz56_1 : wc.cell? ⟨gb367, 1, none⟩ = some (.int .i64 ((rd_T63 t363 x20_2).f1)) := (blk_cell BK367.out 1).trans rfl
              have hcz56_2 : wc.cell? ⟨gb367, 2, none⟩ = some (.int .i64 ((rd_T63 t363 x20_2).f2)) := (blk_cell BK367.out 2).trans rfl
              have hcz56_3 : wc.cell? ⟨gb367, 3, none⟩ = some (.bool ((rd_T63 t363 x20_2).f3)) := (blk_cell BK367.out 3).trans rfl
              have hfz56_0 := blk_frozen BK367.out 0
              have hfz56_1 := blk_frozen BK367.out 1
              have hfz56_2 := blk_frozen BK367.out 2
              have hfz56_3 := blk_frozen BK367.out 3
              go_wp2_with (first | (go_at_call 54; (with_reducible refine (impl_isSecond.calls ((rd_T63 t363 x20_2).f0) true _ A54.out).mono ?_); rintro e w' ⟨rfl, ⟨nd, rfl⟩⟩))
              go_roundg kj14
              case measure => have := HJ2.out; have := HK2.out; have := HJ14.out; omega
              case rel => exact ⟨(3), (t368), (wrap64 (x20_2 + 1)), (by first | rfl | (simp; done) | (simp [*]; done)), (by first | rfl | (simp; done) | (simp [*]; done)), (by first | rfl | (simp; done) | (simp [*]; done)), H', ⟨by have := HJ2.out; have := HK2.out; have := HJ14.out; omega⟩, ⟨by (with_reducible repeat (first | apply Kd.R_alloc | apply Kd.R_drewN | apply Kd.R_drew)); exact Kd.R_mono HO_18.out (fun _ hk => trivial)⟩, ⟨by repeat (first | (with_reducible first | exact HB.out | apply below_alloc | apply pw_below_drewN | apply below_drew1 | refine below_set ?_ GE367.out) | exact HB.out)⟩⟩
             ·replace c55 := Bool.eq_false_iff.mpr c55
              subst c55
              have H1 : (impl_QuickCheck.l0 kj14 a0 x5_2 t368 t363 (t363.length : Int) (wrap64 (x20_2 + 1))) = some r := by rw [if_neg (show ¬ (false = true) by decide)] at H; exact H
              clear H
              have H := H1
              clear H1
              have H' := Aside0.mk H
              clear H
              have hcz57_0 : wc.cell? ⟨gb367, 0, none⟩ = some (.int .i64 ((rd_T63 t363 x20_2).f0)) := (blk_cell BK367.out 0).trans rfl
              have hcz57_1 : wc.cell? ⟨gb367, 1, none⟩ = some (.int .i64 ((rd_T63 t363 x20_2).f1)) := (blk_cell BK367.out 1).trans rfl
              have hcz57_2 : wc.cell? ⟨gb367, 2, none⟩ = some (.int .i64 ((rd_T63 t363 x20_2).f2)) := (blk_cell BK367.out 2).trans rfl
              have hcz57_3 : wc.cell? ⟨gb367, 3, none⟩ = some (.bool ((rd_T63 t363 x20_2).f3)) := (blk_cell BK367.out 3).trans rfl
              have hfz57_0 := blk_frozen BK367.out 0
              have hfz57_1 := blk_frozen BK367.out 1
              have hfz57_2 := blk_frozen BK367.out 2
              have hfz57_3 := blk_frozen BK367.out 3
              go_wp2_with (first | (go_at_call 54; (with_reducible refine (impl_isSecond.calls ((rd_T63 t363 x20_2).f0) false _ A54.out).mono ?_); rintro e w' ⟨rfl, ⟨nd, rfl⟩⟩))
              go_roundg kj14
              case measure => have := HJ2.out; have := HK2.out; have := HJ14.out; omega
              case rel => exact ⟨(x5_2), (t368), (wrap64 (x20_2 + 1)), (by first | rfl | (simp; done) | (simp [*]; done)), (by first | rfl | (simp; done) | (simp [*]; done)), (by first | rfl | (simp; done) | (simp [*]; done)), H', ⟨by have := HJ2.out; have := HK2.out; have := HJ14.out; omega⟩, ⟨by (with_reducible repeat (first | apply Kd.R_alloc | apply Kd.R_drewN | apply Kd.R_drew)); exact Kd.R_mono HO_18.out (fun _ hk => trivial)⟩, ⟨by repeat (first | (with_reducible first | exact HB.out | apply below_alloc | apply pw_below_drewN | apply below_drew1 | refine below_set ?_ GE367.out) | exact HB.out)⟩⟩
            ·rw [if_neg c53] at H
             have c53b0 : (a0 == 2) = false := beq_eq_false_iff_ne.mpr c53
             have c53b1 : (a0 != 2) = true := bne_iff_ne.mpr c53
             by_cases c58 : a0 = 4
             ·rw [if_pos c58] at H
              have c58b0 : (a0 == 4) = true := beq_iff_eq.mpr c58
              have c58b1 : (a0 != 4) = false := bne_eq_false_iff_eq.mpr c58
              clear c58
              replace H := Option.bind_eq_some_iff.mp H
              obtain ⟨t390, A590, H⟩ := H
              replace H : (if t390 = true then (impl_QuickCheck.l0 kj14 a0 3 t368 t363 (t363.length : Int) (wrap64 (x20_2 + 1))) else (impl_QuickCheck.l0 kj14 a0 x5_2 t368 t363 (t363.length : Int) (wrap64 (x20_2 + 1)))) = some r := H
              have A59 := Aside0.mk A590
              clear A590
              by_cases c60 : t390 = true
              ·subst c60
               have H1 : (impl_QuickCheck.l0 kj14 a0 3 t368 t363 (t363.length : Int) (wrap64 (x20_2 + 1))) = some r := by rw [if_pos rfl] at H; exact H
               clear H
               have H := H1
               clear H1
               have H' := Aside0.mk H
               clear H
               have hcz61_0 : wc.cell? ⟨gb367, 0, none⟩ = some (.int .i64 ((rd_T63 t363 x20_2).f0)) := (blk_cell BK367.out 0).trans rfl
               have hcz61_1 : wc.cell? ⟨gb367, 1, none⟩ = some (.int .i64 ((rd_T63 t363 x20_2).f1)) := (blk_cell BK367.out 1).trans rfl
               have hcz61_2 : wc.cell? ⟨gb367, 2, none⟩ = some (.int .i64 ((rd_T63 t363 x20_2).f2)) := (blk_cell BK367.out 2).trans rfl
               have hcz61_3 : wc.cell? ⟨gb367, 3, none⟩ = some (.bool ((rd_T63 t363 x20_2).f3)) := (blk_cell BK367.out 3).trans rfl
               have hfz61_0 := blk_frozen BK367.out 0
               have hfz61_1 := blk_frozen BK367.out 1
               have hfz61_2 := blk_frozen BK367.out 2
               have hfz61_3 := blk_frozen BK367.out 3
               go_wp2_with (first | (go_at_call 54; (with_reducible refine (impl_isSecond.calls ((rd_T63 t363 x20_2).f0) true _ A59.out).mono ?_); rintro e w' ⟨rfl, ⟨nd, rfl⟩⟩))
               go_roundg kj14
               case measure => have := HJ2.out; have := HK2.out; have := HJ14.out; omega
               case rel => exact ⟨(3), (t368), (wrap64 (x20_2 + 1)), (by first | rfl | (simp; done) | (simp [*]; done)), (by first | rfl | (simp; done) | (simp [*]; done)), (by first | rfl | (simp; done) | (simp [*]; done)), H', ⟨by have := HJ2.out; have := HK2.out; have := HJ14.out; omega⟩, ⟨by (with_reducible repeat (first | apply Kd.R_alloc | apply Kd.R_drewN | apply Kd.R_drew)); exact Kd.R_mono HO_18.out (fun _ hk => trivial)⟩, ⟨by repeat (first | (with_reducible first | exact HB.out | apply below_alloc | apply pw_below_drewN | apply below_drew1 | refine below_set ?_ GE367.out) | exact HB.out)⟩⟩
              ·replace c60 := Bool.eq_false_iff.mpr c60
               subst c60
               have H1 : (impl_QuickCheck.l0 kj14 a0 x5_2 t368 t363 (t363.length : Int) (wrap64 (x20_2 + 1))) = some r := by rw [if_neg (show ¬ (false = true) by decide)] at H; exact H
               clear H
               have H := H1
               clear H1
               have H' := Aside0.mk H
               clear H
               have hcz62_0 : wc.cell? ⟨gb367, 0, none⟩ = some (.int .i64 ((rd_T63 t363 x20_2).f0)) := (blk_cell BK367.out 0).trans rfl
               have hcz62_1 : wc.cell? ⟨gb367, 1, none⟩ = some (.int .i64 ((rd_T63 t363 x20_2).f1)) := (blk_cell BK367.out 1).trans rfl
               have hcz62_2 : wc.cell? ⟨gb367, 2, none⟩ = some (.int .i64 ((rd_T63 t363 x20_2).f2)) := (blk_cell BK367.out 2).trans rfl
               have hcz62_3 : wc.cell? ⟨gb367, 3, none⟩ = some (.bool ((rd_T63 t363 x20_2).f3)) := (blk_cell BK367.out 3).trans rfl
               have hfz62_0 := blk_frozen BK367.out 0
               have hfz62_1 := blk_frozen BK367.out 1
               have hfz62_2 := blk_frozen BK367.out 2
               have hfz62_3 := blk_frozen BK367.out 3
               go_wp2_with (first | (go_at_call 54; (with_reducible refine (impl_isSecond.calls ((rd_T63 t363 x20_2).f0) false _ A59.out).mono ?_); rintro e w' ⟨rfl, ⟨nd, rfl⟩⟩))
               go_roundg kj14
               case measure => have := HJ2.out; have := HK2.out; have := HJ14.out; omega
               case rel => exact ⟨(x5_2), (t368), (wrap64 (x20_2 + 1)), (by first | rfl | (simp; done) | (simp [*]; done)), (by first | rfl | (simp; done) | (simp [*]; done)), (by first | rfl | (simp; done) | (simp [*]; done)), H', ⟨by have := HJ2.out; have := HK2.out; have := HJ14.out; omega⟩, ⟨by (with_reducible repeat (first | apply Kd.R_alloc | apply Kd.R_drewN | apply Kd.R_drew)); exact Kd.R_mono HO_18.out (fun _ hk => trivial)⟩, ⟨by repeat (first | (with_reducible first | exact HB.out | apply below_alloc | apply pw_below_drewN | apply below_drew1 | refine below_set ?_ GE367.out) | exact HB.out)⟩⟩
             ·rw [if_neg c58] at H
              have c58b0 : (a0 == 4) = false := beq_eq_false_iff_ne.mpr c58
              have c58b1 : (a0 != 4) = true := bne_iff_ne.mpr c58
              have H' := Aside0.mk H
              clear H
              go_wp2
              go_roundg kj14
              case measure => have := HJ2.out; have := HK2.out; have := HJ14.out; omega
              case rel => exact ⟨(x5_2), (t368), (wrap64 (x20_2 + 1)), (by first | rfl | (simp; done) | (simp [*]; done)), (by first | rfl | (simp; done) | (simp [*]; done)), (by first | rfl | (simp; done) | (simp [*]; done)), H', ⟨by have := HJ2.out; have := HK2.out; have := HJ14.out; omega⟩, ⟨by (with_reducible repeat (first | apply Kd.R_alloc | apply Kd.R_drewN | apply Kd.R_drew)); exact Kd.R_mono HO_18.out (fun _ hk => trivial)⟩, ⟨by repeat (first | (with_reducible first | exact HB.out | apply below_alloc | apply pw_below_drewN | apply below_drew1 | refine below_set ?_ GE367.out) | exact HB.out)⟩⟩
        ·rw [if_neg c13] at H
         exact absurd H (by simp)
       ·rw [if_neg c12] at H
        exact absurd H (by simp)
      ·rw [if_neg c11] at H
       have c11b0 : decide (x20_2 < (t363.length : Int)) = false := decide_eq_false c11
       clear c11
       obtain rfl := Option.some.inj H
       go_wp2
       go_ret
       exact ⟨by first | rfl | (simp [errW_none, errW_some] <;> rfl) | (simp [*, errW_none, errW_some] <;> rfl), by repeat (first | (with_reducible first | exact HB.out | apply below_alloc | apply pw_below_drewN | apply below_drew1) | exact HB.out)⟩

end Go.Proofs.YtnbedmihgnjdpaaDoor.PFnExactQuickCheck

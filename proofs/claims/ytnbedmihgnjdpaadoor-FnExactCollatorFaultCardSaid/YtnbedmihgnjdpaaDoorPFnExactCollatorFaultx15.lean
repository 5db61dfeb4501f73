-- Written by a program of this session: what the printed functions compute.
import Derived.Test.YtnbedmihgnjdpaaDoorPFnExactCollatorFaultx0
import Derived.Test.YtnbedmihgnjdpaaDoorSlimMore
import Derived.Test.YtnbedmihgnjdpaaDoorSlimStep
namespace Go.Proofs.YtnbedmihgnjdpaaDoor.PFnExactCollatorFault
open Go.RowKit Go.Proofs.YtnbedmihgnjdpaaDoorW.PrintWords Go.Proofs.YtnbedmihgnjdpaaDoorW.PrintLast Go.Proofs.YtnbedmihgnjdpaaDoorW.PrintMore
attribute [local go_sem] max2_int min2_int max_two min_two max_three min_three max_four min_four
set_option linter.unusedVariables false
set_option linter.unusedSimpArgs false
def laws_eqElement.f (a0_0 : Int) (a0_1 : Int) (a0_2 : Int) (a1_0 : Int) (a1_1 : Int) (a1_2 : Int) : Option (Bool) := if a0_0 = a1_0 then (if a0_1 = a1_1 then (if a0_2 = a1_2 then (some true) else (some false)) else (some false)) else (some false)
set_option maxHeartbeats 8000000 in
set_option maxRecDepth 100000 in
theorem laws_eqElement.calls (a0_0 : Int) (a0_1 : Int) (a0_2 : Int) (a1_0 : Int) (a1_1 : Int) (a1_2 : Int) (r : Bool) (w : World) (h : laws_eqElement.f a0_0 a0_1 a0_2 a1_0 a1_1 a1_2 = some r) :
  Calls Tryd.prog 105 #[.agg #[.int .i64 a0_0, .int .i64 a0_1, .int .i64 a0_2], .agg #[.int .i64 a1_0, .int .i64 a1_1, .int .i64 a1_2]] w fun e w' => e = .returned (.bool r) ∧ Below w.heap.size w w' := by
 have hu74 := Tryd.underlying74
 have HB := am (Below.refl w.heap.size w)
 have H : (if a0_0 = a1_0 then (if a0_1 = a1_1 then (if a0_2 = a1_2 then (some true) else (some false)) else (some false)) else (some false)) = some r := h
 clear h
 by_cases c3 : a0_0 = a1_0
 ·rw [if_pos c3] at H
  have c3b0 : (a0_0 == a1_0) = true := beq_iff_eq.mpr c3
  have c3b1 : (a0_0 != a1_0) = false := bne_eq_false_iff_eq.mpr c3
  clear c3
  by_cases c4 : a0_1 = a1_1
  ·rw [if_pos c4] at H
   have c4b0 : (a0_1 == a1_1) = true := beq_iff_eq.mpr c4
   have c4b1 : (a0_1 != a1_1) = false := bne_eq_false_iff_eq.mpr c4
   clear c4
   by_cases c5 : a0_2 = a1_2
   ·rw [if_pos c5] at H
    have c5b0 : (a0_2 == a1_2) = true := beq_iff_eq.mpr c5
    have c5b1 : (a0_2 != a1_2) = false := bne_eq_false_iff_eq.mpr c5
    clear c5
    obtain rfl := Option.some.inj H
    go_enter Tryd.func105, Tryd.ntmps105
    go_wp2_with (first | ((with_reducible refine gate_dst (N := 2) rfl ?_); refine bx 2 #[.int .i64 a0_0, .int .i64 a0_1, .int .i64 a0_2] 74 ?_; intro gb492 hg w6 hbox hb; have BK492 := am (hbox); have GW492 := am ((by rw [hg]; exact (below_size bB) : w.heap.size ≤ gb492)); have GE492 := am ((by rw [hg]; exact (below_size bB) : w.heap.size ≤ gb492)); replace HB := am (below_step bB hb); clear hb hbox hg) | ((with_reducible refine gate_dst (N := 3) rfl ?_); refine bx 3 #[.int .i64 a1_0, .int .i64 a1_1, .int .i64 a1_2] 74 ?_; intro gb493 hg w7 hbox hb; have BK493 := am (hbox); have GW493 := am ((by rw [hg]; exact (below_size bS) : w.heap.size ≤ gb493)); have GE493 := am ((by rw [hg]; exact (below_size bS) : w.heap.size ≤ gb493)); replace HB := am (below_step bS hb); have NB492_493 := am ((by rw [hg]; exact Nat.ne_of_lt (blk_lt (g := gb492) (o := .cells #[.int .i64 a0_0, .int .i64 a0_1, .int .i64 a0_2] 74 (0, 0)) (bk BK492.out)) : gb492 ≠ gb493)); have NB493_492 := am ((by rw [hg]; exact Nat.ne_of_gt (blk_lt (g := gb492) (o := .cells #[.int .i64 a0_0, .int .i64 a0_1, .int .i64 a0_2] 74 (0, 0)) (bk BK492.out)) : gb493 ≠ gb492)); replace BK492 := am (blk_below (g := gb492) (o := .cells #[.int .i64 a0_0, .int .i64 a0_1, .int .i64 a0_2] 74 (0, 0)) (bk BK492.out) hb); clear hb hbox hg; have hnb8 := NB492_493.out; have hnc8 := NB493_492.out; have hcz9_0 := bc BK492.out 0 (.int .i64 a0_0); have hcz9_1 := bc BK492.out 1 (.int .i64 a0_1); have hcz9_2 := bc BK492.out 2 (.int .i64 a0_2); have hfz9_0 := blk_frozen BK492.out 0; have hfz9_1 := blk_frozen BK492.out 1; have hfz9_2 := blk_frozen BK492.out 2; have hcz10_0 := bc BK493.out 0 (.int .i64 a1_0); have hcz10_1 := bc BK493.out 1 (.int .i64 a1_1); have hcz10_2 := bc BK493.out 2 (.int .i64 a1_2); have hfz10_0 := blk_frozen BK493.out 0; have hfz10_1 := blk_frozen BK493.out 1; have hfz10_2 := blk_frozen BK493.out 2))
    go_ret
    exact ⟨rv, bS⟩
   ·rw [if_neg c5] at H
    have c5b0 : (a0_2 == a1_2) = false := beq_eq_false_iff_ne.mpr c5
    have c5b1 : (a0_2 != a1_2) = true := bne_iff_ne.mpr c5
    obtain rfl := Option.some.inj H
    go_enter Tryd.func105, Tryd.ntmps105
    go_wp2_with (first | ((with_reducible refine gate_dst (N := 2) rfl ?_); refine bx 2 #[.int .i64 a0_0, .int .i64 a0_1, .int .i64 a0_2] 74 ?_; intro gb492 hg w11 hbox hb; have BK492 := am (hbox); have GW492 := am ((by rw [hg]; exact (below_size bB) : w.heap.size ≤ gb492)); have GE492 := am ((by rw [hg]; exact (below_size bB) : w.heap.size ≤ gb492)); replace HB := am (below_step bB hb); clear hb hbox hg) | ((with_reducible refine gate_dst (N := 3) rfl ?_); refine bx 3 #[.int .i64 a1_0, .int .i64 a1_1, .int .i64 a1_2] 74 ?_; intro gb493 hg w12 hbox hb; have BK493 := am (hbox); have GW493 := am ((by rw [hg]; exact (below_size bS) : w.heap.size ≤ gb493)); have GE493 := am ((by rw [hg]; exact (below_size bS) : w.heap.size ≤ gb493)); replace HB := am (below_step bS hb); have NB492_493 := am ((by rw [hg]; exact Nat.ne_of_lt (blk_lt (g := gb492) (o := .cells #[.int .i64 a0_0, .int .i64 a0_1, .int .i64 a0_2] 74 (0, 0)) (bk BK492.out)) : gb492 ≠ gb493)); have NB493_492 := am ((by rw [hg]; exact Nat.ne_of_gt (blk_lt (g := gb492) (o := .cells #[.int .i64 a0_0, .int .i64 a0_1, .int .i64 a0_2] 74 (0, 0)) (bk BK492.out)) : gb493 ≠ gb492)); replace BK492 := am (blk_below (g := gb492) (o := .cells #[.int .i64 a0_0, .int .i64 a0_1, .int .i64 a0_2] 74 (0, 0)) (bk BK492.out) hb); clear hb hbox hg; have hnb13 := NB492_493.out; have hnc13 := NB493_492.out; have hcz14_0 := bc BK492.out 0 (.int .i64 a0_0); have hcz14_1 := bc BK492.out 1 (.int .i64 a0_1); have hcz14_2 := bc BK492.out 2 (.int .i64 a0_2); have hfz14_0 := blk_frozen BK492.out 0; have hfz14_1 := blk_frozen BK492.out 1; have hfz14_2 := blk_frozen BK492.out 2; have hcz15_0 := bc BK493.out 0 (.int .i64 a1_0); have hcz15_1 := bc BK493.out 1 (.int .i64 a1_1); have hcz15_2 := bc BK493.out 2 (.int .i64 a1_2); have hfz15_0 := blk_frozen BK493.out 0; have hfz15_1 := blk_frozen BK493.out 1; have hfz15_2 := blk_frozen BK493.out 2))
    go_ret
    exact ⟨rv, bS⟩
  ·rw [if_neg c4] at H
   have c4b0 : (a0_1 == a1_1) = false := beq_eq_false_iff_ne.mpr c4
   have c4b1 : (a0_1 != a1_1) = true := bne_iff_ne.mpr c4
   obtain rfl := Option.some.inj H
   go_enter Tryd.func105, Tryd.ntmps105
   go_wp2_with (first | ((with_reducible refine gate_dst (N := 2) rfl ?_); refine bx 2 #[.int .i64 a0_0, .int .i64 a0_1, .int .i64 a0_2] 74 ?_; intro gb492 hg w16 hbox hb; have BK492 := am (hbox); have GW492 := am ((by rw [hg]; exact (below_size bB) : w.heap.size ≤ gb492)); have GE492 := am ((by rw [hg]; exact (below_size bB) : w.heap.size ≤ gb492)); replace HB := am (below_step bB hb); clear hb hbox hg) | ((with_reducible refine gate_dst (N := 3) rfl ?_); refine bx 3 #[.int .i64 a1_0, .int .i64 a1_1, .int .i64 a1_2] 74 ?_; intro gb493 hg w17 hbox hb; have BK493 := am (hbox); have GW493 := am ((by rw [hg]; exact (below_size bS) : w.heap.size ≤ gb493)); have GE493 := am ((by rw [hg]; exact (below_size bS) : w.heap.size ≤ gb493)); replace HB := am (below_step bS hb); have NB492_493 := am ((by rw [hg]; exact Nat.ne_of_lt (blk_lt (g := gb492) (o := .cells #[.int .i64 a0_0, .int .i64 a0_1, .int .i64 a0_2] 74 (0, 0)) (bk BK492.out)) : gb492 ≠ gb493)); have NB493_492 := am ((by rw [hg]; exact Nat.ne_of_gt (blk_lt (g := gb492) (o := .cells #[.int .i64 a0_0, .int .i64 a0_1, .int .i64 a0_2] 74 (0, 0)) (bk BK492.out)) : gb493 ≠ gb492)); replace BK492 := am (blk_below (g := gb492) (o := .cells #[.int .i64 a0_0, .int .i64 a0_1, .int .i64 a0_2] 74 (0, 0)) (bk BK492.out) hb); clear hb hbox hg; have hnb18 := NB492_493.out; have hnc18 := NB493_492.out; have hcz19_0 := bc BK492.out 0 (.int .i64 a0_0); have hcz19_1 := bc BK492.out 1 (.int .i64 a0_1); have hcz19_2 := bc BK492.out 2 (.int .i64 a0_2); have hfz19_0 := blk_frozen BK492.out 0; have hfz19_1 := blk_frozen BK492.out 1; have hfz19_2 := blk_frozen BK492.out 2; have hcz20_0 := bc BK493.out 0 (.int .i64 a1_0); have hcz20_1 := bc BK493.out 1 (.int .i64 a1_1); have hcz20_2 := bc BK493.out 2 (.int .i64 a1_2); have hfz20_0 := blk_frozen BK493.out 0; have hfz20_1 := blk_frozen BK493.out 1; have hfz20_2 := blk_frozen BK493.out 2))
   go_ret
   exact ⟨rv, bS⟩
 ·rw [if_neg c3] at H
  have c3b0 : (a0_0 == a1_0) = false := beq_eq_false_iff_ne.mpr c3
  have c3b1 : (a0_0 != a1_0) = true := bne_iff_ne.mpr c3
  obtain rfl := Option.some.inj H
  go_enter Tryd.func105, Tryd.ntmps105
  go_wp2_with (first | ((with_reducible refine gate_dst (N := 2) rfl ?_); refine bx 2 #[.int .i64 a0_0, .int .i64 a0_1, .int .i64 a0_2] 74 ?_; intro gb492 hg w21 hbox hb; have BK492 := am (hbox); have GW492 := am ((by rw [hg]; exact (below_size bB) : w.heap.size ≤ gb492)); have GE492 := am ((by rw [hg]; exact (below_size bB) : w.heap.size ≤ gb492)); replace HB := am (below_step bB hb); clear hb hbox hg) | ((with_reducible refine gate_dst (N := 3) rfl ?_); refine bx 3 #[.int .i64 a1_0, .int .i64 a1_1, .int .i64 a1_2] 74 ?_; intro gb493 hg w22 hbox hb; have BK493 := am (hbox); have GW493 := am ((by rw [hg]; exact (below_size bS) : w.heap.size ≤ gb493)); have GE493 := am ((by rw [hg]; exact (below_size bS) : w.heap.size ≤ gb493)); replace HB := am (below_step bS hb); have NB492_493 := am ((by rw [hg]; exact Nat.ne_of_lt (blk_lt (g := gb492) (o := .cells #[.int .i64 a0_0, .int .i64 a0_1, .int .i64 a0_2] 74 (0, 0)) (bk BK492.out)) : gb492 ≠ gb493)); have NB493_492 := am ((by rw [hg]; exact Nat.ne_of_gt (blk_lt (g := gb492) (o := .cells #[.int .i64 a0_0, .int .i64 a0_1, .int .i64 a0_2] 74 (0, 0)) (bk BK492.out)) : gb493 ≠ gb492)); replace BK492 := am (blk_below (g := gb492) (o := .cells #[.int .i64 a0_0, .int .i64 a0_1, .int .i64 a0_2] 74 (0, 0)) (bk BK492.out) hb); clear hb hbox hg; have hnb23 := NB492_493.out; have hnc23 := NB493_492.out; have hcz24_0 := bc BK492.out 0 (.int .i64 a0_0); have hcz24_1 := bc BK492.out 1 (.int .i64 a0_1); have hcz24_2 := bc BK492.out 2 (.int .i64 a0_2); have hfz24_0 := blk_frozen BK492.out 0; have hfz24_1 := blk_frozen BK492.out 1; have hfz24_2 := blk_frozen BK492.out 2; have hcz25_0 := bc BK493.out 0 (.int .i64 a1_0); have hcz25_1 := bc BK493.out 1 (.int .i64 a1_1); have hcz25_2 := bc BK493.out 2 (.int .i64 a1_2); have hfz25_0 := blk_frozen BK493.out 0; have hfz25_1 := blk_frozen BK493.out 1; have hfz25_2 := blk_frozen BK493.out 2))
  go_ret
  exact ⟨rv, bS⟩
def laws_eqElementS.l0 : Nat → List (S74) → List (S74) → Int → Option (Bool)
 | 0, _, _, _ => none
 | k + 1, x0, x1, x5 => if x5 < (x0.length : Int) then (if 0 ≤ x5 then (if x5 < (x1.length : Int) then ((laws_eqElement.f ((rd_T74 x0 x5).f0) ((rd_T74 x0 x5).f1) ((rd_T74 x0 x5).f2) ((rd_T74 x1 x5).f0) ((rd_T74 x1 x5).f1) ((rd_T74 x1 x5).f2)).bind fun t496 => (if t496 = true then (laws_eqElementS.l0 k x0 x1 (wrap64 (x5 + 1))) else (some false))) else (none)) else (none)) else (some true)
def laws_eqElementS.f (k : Nat) (l0 : List (S74)) (l1 : List (S74)) : Option (Bool) := if (l0.length : Int) = (l1.length : Int) then (laws_eqElementS.l0 k l0 l1 0) else (some false)
def laws_eqElementS.T6 : Bool × List (List Nat × List Nat) := (true, [([], []), ([], []), ([0, 1], [0, 1]), ([2], [2]), ([], []), ([], []), ([4, 5], [4, 5]), ([6], [6]), ([3, 7], [3, 7]), ([8], [8])])
def laws_eqElementS.B6 : List Nat := [0, 0, 3, 7, 0, 0, 48, 112, 255, 511]
theorem laws_eqElementS.tab6 : rtab .any (opsOf Tryd.f96 6) = laws_eqElementS.T6 := by kernel_rfl
theorem laws_eqElementS.bits6 : waitsOk laws_eqElementS.T6.2 laws_eqElementS.B6 = true := by kernel_rfl
set_option maxHeartbeats 8000000 in
set_option maxRecDepth 100000 in
theorem laws_eqElementS.calls (k : Nat) (A0 : Option Addr) (c0 : Nat) (l0 : List (S74)) (A1 : Option Addr) (c1 : Nat) (l1 : List (S74)) (r : Bool) (w : World) (hr0 : Kd.C k74 w A0 l0.length l0) (hc0 : l0.length ≤ c0) (hr1 : Kd.C k74 w A1 l1.length l1) (hc1 : l1.length ≤ c1) (h : laws_eqElementS.f k l0 l1 = some r) :
  Calls Tryd.prog 96 #[.slice A0 l0.length c0, .slice A1 l1.length c1] w fun e w' => e = .returned (.bool r) ∧ Below w.heap.size w w' := by
 have hu74 := Tryd.underlying74
 have HR0 := am hr0
 have HC0 := am hc0
 clear hr0 hc0
 have HR1 := am hr1
 have HC1 := am hc1
 clear hr1 hc1
 have HB := am (Below.refl w.heap.size w)
 have H : (if (l0.length : Int) = (l1.length : Int) then (laws_eqElementS.l0 k l0 l1 0) else (some false)) = some r := h
 clear h
 by_cases c3 : (l0.length : Int) = (l1.length : Int)
 ·rw [if_pos c3] at H
  have c3b0 : ((l0.length : Int) == (l1.length : Int)) = true := beq_iff_eq.mpr c3
  have c3b1 : ((l0.length : Int) != (l1.length : Int)) = false := bne_eq_false_iff_eq.mpr c3
  have c3b2 : (l0.length == l1.length) = true := by first | simpa using c3 | (simp at c3 ⊢; omega)
  clear c3
  have H' := am H
  clear H
  go_enter Tryd.func96, Tryd.ntmps96
  go_wp2
  go_loopg [5] k (fun kq v5 w' => ∃ (x5_1 : Int), v5 = .int .i64 x5_1 ∧ Aside0 (laws_eqElementS.l0 kq l0 l1 x5_1 = some r) ∧ Aside0 (kq ≤ k) ∧ Aside0 (Below w.heap.size w w'))
  case atStart => exact ⟨(0), (by first | rfl | (simp; done) | (simp [*]; done)), H', ⟨Nat.le_refl _⟩, ⟨bB⟩⟩
  case round =>
   clear H'
   try clear c1
   try clear p2
   try clear c3
   try clear c3b0
   try clear c3b1
   try clear c3b2
   obtain ⟨x5_1, rfl, HA, HK1, HB⟩ := hrel
   cases gk with
   | zero => exact absurd HA.out (by simp [laws_eqElementS.l0])
   | succ k1 =>
    have H := HA.out
    clear HA
    simp only [laws_eqElementS.l0] at H
    by_cases c4 : x5_1 < (l0.length : Int)
    ·rw [if_pos c4] at H
     have c4b0 : decide (x5_1 < (l0.length : Int)) = true := decide_eq_true c4
     clear c4
     by_cases c5 : 0 ≤ x5_1
     ·rw [if_pos c5] at H
      have c5b0 : decide (0 ≤ x5_1) = true := decide_eq_true c5
      clear c5
      by_cases c6 : x5_1 < (l1.length : Int)
      ·rw [if_pos c6] at H
       have c6b0 : decide (x5_1 < (l1.length : Int)) = true := decide_eq_true c6
       clear c6
       replace H := Option.bind_eq_some_iff.mp H
       obtain ⟨t496, A70, H⟩ := H
       replace H : (if t496 = true then (laws_eqElementS.l0 k1 l0 l1 (wrap64 (x5_1 + 1))) else (some false)) = some r := H
       have A7 := am A70
       clear A70
       by_cases c8 : t496 = true
       ·subst c8
        have H1 : (laws_eqElementS.l0 k1 l0 l1 (wrap64 (x5_1 + 1))) = some r := by rw [if_pos rfl] at H; exact H
        clear H
        have H := H1
        clear H1
        have H' := am H
        clear H
        try go_wp2
        replace HB := am (below_drew1 HB.out)
        have p494 : 0 ≤ (x5_1 : Int) := od
        have q494 : x5_1 < (l0.length : Int) := od
        obtain ⟨ad494, e494, hx494_0, hx494_1, hx494_2⟩ := at_T74 HR0.out x5_1 p494 q494
        have hw494_2 := hx494_2
        have hw494_1 := hx494_1
        have hw494_0 := hx494_0
        cases e494
        replace hx494_0 := (HB.out.cell (World.block_lt_of_cell? w _ hx494_0)).trans hx494_0
        replace hx494_1 := (HB.out.cell (World.block_lt_of_cell? w _ hx494_1)).trans hx494_1
        replace hx494_2 := (HB.out.cell (World.block_lt_of_cell? w _ hx494_2)).trans hx494_2
        replace p494 := eq_true p494
        replace q494 := eq_true q494
        have p495 : 0 ≤ (x5_1 : Int) := od
        have q495 : x5_1 < (l1.length : Int) := od
        obtain ⟨ad495, e495, hx495_0, hx495_1, hx495_2⟩ := at_T74 HR1.out x5_1 p495 q495
        have hw495_2 := hx495_2
        have hw495_1 := hx495_1
        have hw495_0 := hx495_0
        cases e495
        replace hx495_0 := (HB.out.cell (World.block_lt_of_cell? w _ hx495_0)).trans hx495_0
        replace hx495_1 := (HB.out.cell (World.block_lt_of_cell? w _ hx495_1)).trans hx495_1
        replace hx495_2 := (HB.out.cell (World.block_lt_of_cell? w _ hx495_2)).trans hx495_2
        replace p495 := eq_true p495
        replace q495 := eq_true q495
        refine start_ (n := 10) (S := fun w' => w'.cell? (ad494.add ((x5_1).toNat * 3)) = some (.int .i64 ((rd_T74 l0 x5_1).f0)) ∧ w'.cell? ⟨(ad494.add ((x5_1).toNat * 3)).block, (ad494.add ((x5_1).toNat * 3)).off + 1, none⟩ = some (.int .i64 ((rd_T74 l0 x5_1).f1)) ∧ w'.cell? ⟨(ad494.add ((x5_1).toNat * 3)).block, (ad494.add ((x5_1).toNat * 3)).off + 2, none⟩ = some (.int .i64 ((rd_T74 l0 x5_1).f2)) ∧ w'.cell? (ad495.add ((x5_1).toNat * 3)) = some (.int .i64 ((rd_T74 l1 x5_1).f0)) ∧ w'.cell? ⟨(ad495.add ((x5_1).toNat * 3)).block, (ad495.add ((x5_1).toNat * 3)).off + 1, none⟩ = some (.int .i64 ((rd_T74 l1 x5_1).f1)) ∧ w'.cell? ⟨(ad495.add ((x5_1).toNat * 3)).block, (ad495.add ((x5_1).toNat * 3)).off + 2, none⟩ = some (.int .i64 ((rd_T74 l1 x5_1).f2))) (ds := []) #[false, false, false, false, false, false, false, false, false, false] (by kernel_rfl) rfl rfl ⟨((HB.out.cell (World.block_lt_of_cell? w _ hw494_0)).trans hw494_0), ((HB.out.cell (World.block_lt_of_cell? w _ hw494_1)).trans hw494_1), ((HB.out.cell (World.block_lt_of_cell? w _ hw494_2)).trans hw494_2), ((HB.out.cell (World.block_lt_of_cell? w _ hw495_0)).trans hw495_0), ((HB.out.cell (World.block_lt_of_cell? w _ hw495_1)).trans hw495_1), ((HB.out.cell (World.block_lt_of_cell? w _ hw495_2)).trans hw495_2)⟩ (fun hHeld => ?_); refine with_tabW laws_eqElementS.tab6 laws_eqElementS.bits6 (fun HT_ HW_ => ?_)
        generalize wr.drew = w9 at HB hx494_0 hx494_1 hx494_2 hx495_0 hx495_1 hx495_2 hHeld ⊢
        refine pq 0 17 HT_.out ?_
        refine pq 1 18 HT_.out ?_
        refine pq 2 19 HT_.out ?_
        refine pq 4 21 HT_.out ?_
        refine pq 5 22 HT_.out ?_
        refine pq 6 23 HT_.out ?_
        refine take_ (i := 3) (N := some 20) (v := ?_) (a' := ?_) #[true, true, true, true, true, true, true, false, false, false] rfl rfl (take_ofW HT_.out HW_.out (by kernel_rfl)) (fun _ _ _ h => h) (Or.inl ⟨by rfl, ?_⟩) hHeld ?_ ?_
        rotate_left
        ·rintro w' ⟨s0, s1, s2, s3, s4, s5⟩
         go_simp
         with_reducible rfl
        rotate_left
        ·simp only [Act.put, List.setIfInBounds_toArray, List.set_cons_zero, List.set_cons_succ, i64_w, i32_w]
         rfl
        refine take_ (i := 7) (N := some 24) (v := ?_) (a' := ?_) #[true, true, true, true, true, true, true, true, false, false] rfl rfl (take_ofW HT_.out HW_.out (by kernel_rfl)) (fun _ _ _ h => h) (Or.inl ⟨by rfl, ?_⟩) hHeld ?_ ?_
        rotate_left
        ·rintro w' ⟨s0, s1, s2, s3, s4, s5⟩
         go_simp
         with_reducible rfl
        rotate_left
        ·simp only [Act.put, List.setIfInBounds_toArray, List.set_cons_zero, List.set_cons_succ, i64_w, i32_w]
         rfl
        refine one_ (i := 8) (N := some 25) #[true, true, true, true, true, true, true, true, true, false] rfl rfl (one_of HT_.out (by kernel_rfl)) (by decide) (fun K hK => ?_)
        refine goes_ Tryd.func105 (by kernel_rfl) rfl #[.agg #[.int .i64 ((rd_T74 l0 x5_1).f0), .int .i64 ((rd_T74 l0 x5_1).f1), .int .i64 ((rd_T74 l0 x5_1).f2)], .agg #[.int .i64 ((rd_T74 l1 x5_1).f0), .int .i64 ((rd_T74 l1 x5_1).f1), .int .i64 ((rd_T74 l1 x5_1).f2)]] (by rfl) rfl rfl (by (try simp only [List.map_toArray, List.map_cons, List.map_nil]); first | done | rfl | (simp only [List.length_drop, List.length_take]; rfl)) ?_
        with_reducible refine (laws_eqElement.calls ((rd_T74 l0 x5_1).f0) ((rd_T74 l0 x5_1).f1) ((rd_T74 l0 x5_1).f2) ((rd_T74 l1 x5_1).f0) ((rd_T74 l1 x5_1).f1) ((rd_T74 l1 x5_1).f2) true _ A7.out).mono ?_
        rintro e w10 ⟨rfl, hb⟩
        refine ⟨_, rfl, ?_⟩
        replace HB := am (below_step bB hb)
        (try clear hb)
        (try clear hb2)
        (try clear hk)
        (try clear hi)
        refine hK.out _ _ ⟨((HB.out.cell (World.block_lt_of_cell? w _ hw494_0)).trans hw494_0), ((HB.out.cell (World.block_lt_of_cell? w _ hw494_1)).trans hw494_1), ((HB.out.cell (World.block_lt_of_cell? w _ hw494_2)).trans hw494_2), ((HB.out.cell (World.block_lt_of_cell? w _ hw495_0)).trans hw495_0), ((HB.out.cell (World.block_lt_of_cell? w _ hw495_1)).trans hw495_1), ((HB.out.cell (World.block_lt_of_cell? w _ hw495_2)).trans hw495_2)⟩ (fun hHeld => ?_)
        clear hK K
        refine norm_ (a' := ?_) ?_ ?_
        rotate_left
        ·show Act.put _ (some 25) _ = _
         simp only [Act.put, List.setIfInBounds_toArray, List.set_cons_zero, List.set_cons_succ, i64_w, i32_w]
         rfl
        refine pq 9 26 HT_.out ?_
        refine done_ (done_of HT_.out (by kernel_rfl)) ?_
        try go_wp2
        go_roundg k1
        case measure => have := HK1.out; omega
        case rel => exact ⟨(wrap64 (x5_1 + 1)), (by first | rfl | (simp; done) | (simp [*]; done)), H', ⟨by have := HK1.out; omega⟩, ⟨bB⟩⟩
       ·replace c8 := Bool.eq_false_iff.mpr c8
        subst c8
        have H1 : (some false) = some r := by rw [if_neg (show ¬ (false = true) by decide)] at H; exact H
        clear H
        have H := H1
        clear H1
        obtain rfl := Option.some.inj H
        try go_wp2
        replace HB := am (below_drew1 HB.out)
        have p494 : 0 ≤ (x5_1 : Int) := od
        have q494 : x5_1 < (l0.length : Int) := od
        obtain ⟨ad494, e494, hx494_0, hx494_1, hx494_2⟩ := at_T74 HR0.out x5_1 p494 q494
        have hw494_2 := hx494_2
        have hw494_1 := hx494_1
        have hw494_0 := hx494_0
        cases e494
        replace hx494_0 := (HB.out.cell (World.block_lt_of_cell? w _ hx494_0)).trans hx494_0
        replace hx494_1 := (HB.out.cell (World.block_lt_of_cell? w _ hx494_1)).trans hx494_1
        replace hx494_2 := (HB.out.cell (World.block_lt_of_cell? w _ hx494_2)).trans hx494_2
        replace p494 := eq_true p494
        replace q494 := eq_true q494
        have p495 : 0 ≤ (x5_1 : Int) := od
        have q495 : x5_1 < (l1.length : Int) := od
        obtain ⟨ad495, e495, hx495_0, hx495_1, hx495_2⟩ := at_T74 HR1.out x5_1 p495 q495
        have hw495_2 := hx495_2
        have hw495_1 := hx495_1
        have hw495_0 := hx495_0
        cases e495
        replace hx495_0 := (HB.out.cell (World.block_lt_of_cell? w _ hx495_0)).trans hx495_0
        replace hx495_1 := (HB.out.cell (World.block_lt_of_cell? w _ hx495_1)).trans hx495_1
        replace hx495_2 := (HB.out.cell (World.block_lt_of_cell? w _ hx495_2)).trans hx495_2
        replace p495 := eq_true p495
        replace q495 := eq_true q495
        refine start_ (n := 10) (S := fun w' => w'.cell? (ad494.add ((x5_1).toNat * 3)) = some (.int .i64 ((rd_T74 l0 x5_1).f0)) ∧ w'.cell? ⟨(ad494.add ((x5_1).toNat * 3)).block, (ad494.add ((x5_1).toNat * 3)).off + 1, none⟩ = some (.int .i64 ((rd_T74 l0 x5_1).f1)) ∧ w'.cell? ⟨(ad494.add ((x5_1).toNat * 3)).block, (ad494.add ((x5_1).toNat * 3)).off + 2, none⟩ = some (.int .i64 ((rd_T74 l0 x5_1).f2)) ∧ w'.cell? (ad495.add ((x5_1).toNat * 3)) = some (.int .i64 ((rd_T74 l1 x5_1).f0)) ∧ w'.cell? ⟨(ad495.add ((x5_1).toNat * 3)).block, (ad495.add ((x5_1).toNat * 3)).off + 1, none⟩ = some (.int .i64 ((rd_T74 l1 x5_1).f1)) ∧ w'.cell? ⟨(ad495.add ((x5_1).toNat * 3)).block, (ad495.add ((x5_1).toNat * 3)).off + 2, none⟩ = some (.int .i64 ((rd_T74 l1 x5_1).f2))) (ds := []) #[false, false, false, false, false, false, false, false, false, false] (by kernel_rfl) rfl rfl ⟨((HB.out.cell (World.block_lt_of_cell? w _ hw494_0)).trans hw494_0), ((HB.out.cell (World.block_lt_of_cell? w _ hw494_1)).trans hw494_1), ((HB.out.cell (World.block_lt_of_cell? w _ hw494_2)).trans hw494_2), ((HB.out.cell (World.block_lt_of_cell? w _ hw495_0)).trans hw495_0), ((HB.out.cell (World.block_lt_of_cell? w _ hw495_1)).trans hw495_1), ((HB.out.cell (World.block_lt_of_cell? w _ hw495_2)).trans hw495_2)⟩ (fun hHeld => ?_); refine with_tabW laws_eqElementS.tab6 laws_eqElementS.bits6 (fun HT_ HW_ => ?_)
        generalize wr.drew = w11 at HB hx494_0 hx494_1 hx494_2 hx495_0 hx495_1 hx495_2 hHeld ⊢
        refine pq 0 17 HT_.out ?_
        refine pq 1 18 HT_.out ?_
        refine pq 2 19 HT_.out ?_
        refine pq 4 21 HT_.out ?_
        refine pq 5 22 HT_.out ?_
        refine pq 6 23 HT_.out ?_
        refine take_ (i := 3) (N := some 20) (v := ?_) (a' := ?_) #[true, true, true, true, true, true, true, false, false, false] rfl rfl (take_ofW HT_.out HW_.out (by kernel_rfl)) (fun _ _ _ h => h) (Or.inl ⟨by rfl, ?_⟩) hHeld ?_ ?_
        rotate_left
        ·rintro w' ⟨s0, s1, s2, s3, s4, s5⟩
         go_simp
         with_reducible rfl
        rotate_left
        ·simp only [Act.put, List.setIfInBounds_toArray, List.set_cons_zero, List.set_cons_succ, i64_w, i32_w]
         rfl
        refine take_ (i := 7) (N := some 24) (v := ?_) (a' := ?_) #[true, true, true, true, true, true, true, true, false, false] rfl rfl (take_ofW HT_.out HW_.out (by kernel_rfl)) (fun _ _ _ h => h) (Or.inl ⟨by rfl, ?_⟩) hHeld ?_ ?_
        rotate_left
        ·rintro w' ⟨s0, s1, s2, s3, s4, s5⟩
         go_simp
         with_reducible rfl
        rotate_left
        ·simp only [Act.put, List.setIfInBounds_toArray, List.set_cons_zero, List.set_cons_succ, i64_w, i32_w]
         rfl
        refine one_ (i := 8) (N := some 25) #[true, true, true, true, true, true, true, true, true, false] rfl rfl (one_of HT_.out (by kernel_rfl)) (by decide) (fun K hK => ?_)
        refine goes_ Tryd.func105 (by kernel_rfl) rfl #[.agg #[.int .i64 ((rd_T74 l0 x5_1).f0), .int .i64 ((rd_T74 l0 x5_1).f1), .int .i64 ((rd_T74 l0 x5_1).f2)], .agg #[.int .i64 ((rd_T74 l1 x5_1).f0), .int .i64 ((rd_T74 l1 x5_1).f1), .int .i64 ((rd_T74 l1 x5_1).f2)]] (by rfl) rfl rfl (by (try simp only [List.map_toArray, List.map_cons, List.map_nil]); first | done | rfl | (simp only [List.length_drop, List.length_take]; rfl)) ?_
        with_reducible refine (laws_eqElement.calls ((rd_T74 l0 x5_1).f0) ((rd_T74 l0 x5_1).f1) ((rd_T74 l0 x5_1).f2) ((rd_T74 l1 x5_1).f0) ((rd_T74 l1 x5_1).f1) ((rd_T74 l1 x5_1).f2) false _ A7.out).mono ?_
        rintro e w12 ⟨rfl, hb⟩
        refine ⟨_, rfl, ?_⟩
        replace HB := am (below_step bB hb)
        (try clear hb)
        (try clear hb2)
        (try clear hk)
        (try clear hi)
        refine hK.out _ _ ⟨((HB.out.cell (World.block_lt_of_cell? w _ hw494_0)).trans hw494_0), ((HB.out.cell (World.block_lt_of_cell? w _ hw494_1)).trans hw494_1), ((HB.out.cell (World.block_lt_of_cell? w _ hw494_2)).trans hw494_2), ((HB.out.cell (World.block_lt_of_cell? w _ hw495_0)).trans hw495_0), ((HB.out.cell (World.block_lt_of_cell? w _ hw495_1)).trans hw495_1), ((HB.out.cell (World.block_lt_of_cell? w _ hw495_2)).trans hw495_2)⟩ (fun hHeld => ?_)
        clear hK K
        refine norm_ (a' := ?_) ?_ ?_
        rotate_left
        ·show Act.put _ (some 25) _ = _
         simp only [Act.put, List.setIfInBounds_toArray, List.set_cons_zero, List.set_cons_succ, i64_w, i32_w]
         rfl
        refine pq 9 26 HT_.out ?_
        refine done_ (done_of HT_.out (by kernel_rfl)) ?_
        try go_wp2
        go_ret
        exact ⟨rv, bB⟩
      ·rw [if_neg c6] at H
       exact absurd H (by simp)
     ·rw [if_neg c5] at H
      exact absurd H (by simp)
    ·rw [if_neg c4] at H
     have c4b0 : decide (x5_1 < (l0.length : Int)) = false := decide_eq_false c4
     clear c4
     obtain rfl := Option.some.inj H
     go_wp2
     go_ret
     exact ⟨rv, bB⟩
 ·rw [if_neg c3] at H
  have c3b0 : ((l0.length : Int) == (l1.length : Int)) = false := beq_eq_false_iff_ne.mpr c3
  have c3b1 : ((l0.length : Int) != (l1.length : Int)) = true := bne_iff_ne.mpr c3
  have c3b2 : (l0.length == l1.length) = false := by first | simpa using c3 | (simp at c3 ⊢; omega)
  obtain rfl := Option.some.inj H
  go_enter Tryd.func96, Tryd.ntmps96
  go_wp2
  go_ret
  exact ⟨rv, bB⟩
def laws_eqEntry.f (k : Nat) (a0_0 : ByteArray) (l0_1 : List (S74)) (a1_0 : ByteArray) (l1_1 : List (S74)) : Option (Bool) := if a0_0.toList = a1_0.toList then ((laws_eqElementS.f k l0_1 l1_1).bind fun t499 => (if t499 = true then (some true) else (some false))) else (some false)
set_option maxHeartbeats 8000000 in
set_option maxRecDepth 100000 in
theorem laws_eqEntry.calls (k : Nat) (a0_0 : ByteArray) (A0_1 : Option Addr) (c0_1 : Nat) (l0_1 : List (S74)) (a1_0 : ByteArray) (A1_1 : Option Addr) (c1_1 : Nat) (l1_1 : List (S74)) (r : Bool) (w : World) (hr0_1 : Kd.C k74 w A0_1 l0_1.length l0_1) (hc0_1 : l0_1.length ≤ c0_1) (hr1_1 : Kd.C k74 w A1_1 l1_1.length l1_1) (hc1_1 : l1_1.length ≤ c1_1) (h : laws_eqEntry.f k a0_0 l0_1 a1_0 l1_1 = some r) :
  Calls Tryd.prog 85 #[.agg #[.string a0_0, .slice A0_1 l0_1.length c0_1], .agg #[.string a1_0, .slice A1_1 l1_1.length c1_1]] w fun e w' => e = .returned (.bool r) ∧ Below w.heap.size w w' := by
 have hu72 := Tryd.underlying72
 have HR0_1 := am hr0_1
 have HC0_1 := am hc0_1
 clear hr0_1 hc0_1
 have HR1_1 := am hr1_1
 have HC1_1 := am hc1_1
 clear hr1_1 hc1_1
 have HB := am (Below.refl w.heap.size w)
 have H : (if a0_0.toList = a1_0.toList then ((laws_eqElementS.f k l0_1 l1_1).bind fun t499 => (if t499 = true then (some true) else (some false))) else (some false)) = some r := h
 clear h
 by_cases c3 : a0_0.toList = a1_0.toList
 ·rw [if_pos c3] at H
  have c3b0 : (a0_0.toList == a1_0.toList) = true := beq_iff_eq.mpr c3
  have c3b1 : (a0_0.toList != a1_0.toList) = false := bne_eq_false_iff_eq.mpr c3
  clear c3
  replace H := Option.bind_eq_some_iff.mp H
  obtain ⟨t499, A40, H⟩ := H
  replace H : (if t499 = true then (some true) else (some false)) = some r := H
  have A4 := am A40
  clear A40
  by_cases c5 : t499 = true
  ·subst c5
   have H1 : (some true) = some r := by rw [if_pos rfl] at H; exact H
   clear H
   have H := H1
   clear H1
   obtain rfl := Option.some.inj H
   go_enter Tryd.func85, Tryd.ntmps85
   go_wp2_with (first | ((with_reducible refine gate_dst (N := 2) rfl ?_); refine bx 2 #[.string a0_0, .slice A0_1 l0_1.length c0_1] 72 ?_; intro gb497 hg w6 hbox hb; have BK497 := am (hbox); have GW497 := am ((by rw [hg]; exact (below_size bB) : w.heap.size ≤ gb497)); have GE497 := am ((by rw [hg]; exact (below_size bB) : w.heap.size ≤ gb497)); replace HB := am (below_step bB hb); clear hb hbox hg) | ((with_reducible refine gate_dst (N := 3) rfl ?_); refine bx 3 #[.string a1_0, .slice A1_1 l1_1.length c1_1] 72 ?_; intro gb498 hg w7 hbox hb; have BK498 := am (hbox); have GW498 := am ((by rw [hg]; exact (below_size bS) : w.heap.size ≤ gb498)); have GE498 := am ((by rw [hg]; exact (below_size bS) : w.heap.size ≤ gb498)); replace HB := am (below_step bS hb); have NB497_498 := am ((by rw [hg]; exact Nat.ne_of_lt (blk_lt (g := gb497) (o := .cells #[.string a0_0, .slice A0_1 l0_1.length c0_1] 72 (0, 0)) (bk BK497.out)) : gb497 ≠ gb498)); have NB498_497 := am ((by rw [hg]; exact Nat.ne_of_gt (blk_lt (g := gb497) (o := .cells #[.string a0_0, .slice A0_1 l0_1.length c0_1] 72 (0, 0)) (bk BK497.out)) : gb498 ≠ gb497)); replace BK497 := am (blk_below (g := gb497) (o := .cells #[.string a0_0, .slice A0_1 l0_1.length c0_1] 72 (0, 0)) (bk BK497.out) hb); clear hb hbox hg; have hnb8 := NB497_498.out; have hnc8 := NB498_497.out; have hcz9_0 := bc BK497.out 0 (.string a0_0); have hcz9_1 := bc BK497.out 1 (.slice A0_1 l0_1.length c0_1); have hfz9_0 := blk_frozen BK497.out 0; have hfz9_1 := blk_frozen BK497.out 1; have hcz10_0 := bc BK498.out 0 (.string a1_0); have hcz10_1 := bc BK498.out 1 (.slice A1_1 l1_1.length c1_1); have hfz10_0 := blk_frozen BK498.out 0; have hfz10_1 := blk_frozen BK498.out 1) | ((with_reducible refine gate_callee (f := 96) rfl ?_); refine gl 14 Tryd.func96 #[.slice A0_1 l0_1.length c0_1, .slice A1_1 l1_1.length c1_1] ?_; (with_reducible refine (laws_eqElementS.calls k _ _ l0_1 _ _ l1_1 true _ ?side1 ?side2 ?side3 ?side4 A4.out).mono ?_); (case side1 => exact cC (Kd.C_below HR0_1.out HB.out)); (case side2 => exact HC0_1.out); (case side3 => exact cC (Kd.C_below HR1_1.out HB.out)); (case side4 => exact HC1_1.out); rintro e w11 ⟨rfl, hb⟩; refine ⟨_, rfl, ?_⟩; replace BK497 := am (blk_below (g := gb497) (o := .cells #[.string a0_0, .slice A0_1 l0_1.length c0_1] 72 (0, 0)) (bk BK497.out) hb); replace BK498 := am (blk_below (g := gb498) (o := .cells #[.string a1_0, .slice A1_1 l1_1.length c1_1] 72 (0, 0)) (bk BK498.out) hb); replace HB := am (below_step bS hb); (try clear hb); (try clear hb2); (try clear hk); (try clear hi)))
   go_ret
   exact ⟨rv, bS⟩
  ·replace c5 := Bool.eq_false_iff.mpr c5
   subst c5
   have H1 : (some false) = some r := by rw [if_neg (show ¬ (false = true) by decide)] at H; exact H
   clear H
   have H := H1
   clear H1
   obtain rfl := Option.some.inj H
   go_enter Tryd.func85, Tryd.ntmps85
   go_wp2_with (first | ((with_reducible refine gate_dst (N := 2) rfl ?_); refine bx 2 #[.string a0_0, .slice A0_1 l0_1.length c0_1] 72 ?_; intro gb497 hg w12 hbox hb; have BK497 := am (hbox); have GW497 := am ((by rw [hg]; exact (below_size bB) : w.heap.size ≤ gb497)); have GE497 := am ((by rw [hg]; exact (below_size bB) : w.heap.size ≤ gb497)); replace HB := am (below_step bB hb); clear hb hbox hg) | ((with_reducible refine gate_dst (N := 3) rfl ?_); refine bx 3 #[.string a1_0, .slice A1_1 l1_1.length c1_1] 72 ?_; intro gb498 hg w13 hbox hb; have BK498 := am (hbox); have GW498 := am ((by rw [hg]; exact (below_size bS) : w.heap.size ≤ gb498)); have GE498 := am ((by rw [hg]; exact (below_size bS) : w.heap.size ≤ gb498)); replace HB := am (below_step bS hb); have NB497_498 := am ((by rw [hg]; exact Nat.ne_of_lt (blk_lt (g := gb497) (o := .cells #[.string a0_0, .slice A0_1 l0_1.length c0_1] 72 (0, 0)) (bk BK497.out)) : gb497 ≠ gb498)); have NB498_497 := am ((by rw [hg]; exact Nat.ne_of_gt (blk_lt (g := gb497) (o := .cells #[.string a0_0, .slice A0_1 l0_1.length c0_1] 72 (0, 0)) (bk BK497.out)) : gb498 ≠ gb497)); replace BK497 := am (blk_below (g := gb497) (o := .cells #[.string a0_0, .slice A0_1 l0_1.length c0_1] 72 (0, 0)) (bk BK497.out) hb); clear hb hbox hg; have hnb14 := NB497_498.out; have hnc14 := NB498_497.out; have hcz15_0 := bc BK497.out 0 (.string a0_0); have hcz15_1 := bc BK497.out 1 (.slice A0_1 l0_1.length c0_1); have hfz15_0 := blk_frozen BK497.out 0; have hfz15_1 := blk_frozen BK497.out 1; have hcz16_0 := bc BK498.out 0 (.string a1_0); have hcz16_1 := bc BK498.out 1 (.slice A1_1 l1_1.length c1_1); have hfz16_0 := blk_frozen BK498.out 0; have hfz16_1 := blk_frozen BK498.out 1) | ((with_reducible refine gate_callee (f := 96) rfl ?_); refine gl 14 Tryd.func96 #[.slice A0_1 l0_1.length c0_1, .slice A1_1 l1_1.length c1_1] ?_; (with_reducible refine (laws_eqElementS.calls k _ _ l0_1 _ _ l1_1 false _ ?side1 ?side2 ?side3 ?side4 A4.out).mono ?_); (case side1 => exact cC (Kd.C_below HR0_1.out HB.out)); (case side2 => exact HC0_1.out); (case side3 => exact cC (Kd.C_below HR1_1.out HB.out)); (case side4 => exact HC1_1.out); rintro e w17 ⟨rfl, hb⟩; refine ⟨_, rfl, ?_⟩; replace BK497 := am (blk_below (g := gb497) (o := .cells #[.string a0_0, .slice A0_1 l0_1.length c0_1] 72 (0, 0)) (bk BK497.out) hb); replace BK498 := am (blk_below (g := gb498) (o := .cells #[.string a1_0, .slice A1_1 l1_1.length c1_1] 72 (0, 0)) (bk BK498.out) hb); replace HB := am (below_step bS hb); (try clear hb); (try clear hb2); (try clear hk); (try clear hi)))
   go_ret
   exact ⟨rv, bS⟩
 ·rw [if_neg c3] at H
  have c3b0 : (a0_0.toList == a1_0.toList) = false := beq_eq_false_iff_ne.mpr c3
  have c3b1 : (a0_0.toList != a1_0.toList) = true := bne_iff_ne.mpr c3
  obtain rfl := Option.some.inj H
  go_enter Tryd.func85, Tryd.ntmps85
  go_wp2_with (first | ((with_reducible refine gate_dst (N := 2) rfl ?_); refine bx 2 #[.string a0_0, .slice A0_1 l0_1.length c0_1] 72 ?_; intro gb497 hg w18 hbox hb; have BK497 := am (hbox); have GW497 := am ((by rw [hg]; exact (below_size bB) : w.heap.size ≤ gb497)); have GE497 := am ((by rw [hg]; exact (below_size bB) : w.heap.size ≤ gb497)); replace HB := am (below_step bB hb); clear hb hbox hg) | ((with_reducible refine gate_dst (N := 3) rfl ?_); refine bx 3 #[.string a1_0, .slice A1_1 l1_1.length c1_1] 72 ?_; intro gb498 hg w19 hbox hb; have BK498 := am (hbox); have GW498 := am ((by rw [hg]; exact (below_size bS) : w.heap.size ≤ gb498)); have GE498 := am ((by rw [hg]; exact (below_size bS) : w.heap.size ≤ gb498)); replace HB := am (below_step bS hb); have NB497_498 := am ((by rw [hg]; exact Nat.ne_of_lt (blk_lt (g := gb497) (o := .cells #[.string a0_0, .slice A0_1 l0_1.length c0_1] 72 (0, 0)) (bk BK497.out)) : gb497 ≠ gb498)); have NB498_497 := am ((by rw [hg]; exact Nat.ne_of_gt (blk_lt (g := gb497) (o := .cells #[.string a0_0, .slice A0_1 l0_1.length c0_1] 72 (0, 0)) (bk BK497.out)) : gb498 ≠ gb497)); replace BK497 := am (blk_below (g := gb497) (o := .cells #[.string a0_0, .slice A0_1 l0_1.length c0_1] 72 (0, 0)) (bk BK497.out) hb); clear hb hbox hg; have hnb20 := NB497_498.out; have hnc20 := NB498_497.out; have hcz21_0 := bc BK497.out 0 (.string a0_0); have hcz21_1 := bc BK497.out 1 (.slice A0_1 l0_1.length c0_1); have hfz21_0 := blk_frozen BK497.out 0; have hfz21_1 := blk_frozen BK497.out 1; have hcz22_0 := bc BK498.out 0 (.string a1_0); have hcz22_1 := bc BK498.out 1 (.slice A1_1 l1_1.length c1_1); have hfz22_0 := blk_frozen BK498.out 0; have hfz22_1 := blk_frozen BK498.out 1))
  go_ret
  exact ⟨rv, bS⟩
end Go.Proofs.YtnbedmihgnjdpaaDoor.PFnExactCollatorFault

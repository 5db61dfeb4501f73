-- Written by a program of this session: what the printed functions compute.
import Derived.Test.YtnbedmihgnjdpaaDoorPFnExactCollatorFaultx0
import Derived.Test.YtnbedmihgnjdpaaDoorSlimMore
import Derived.Test.YtnbedmihgnjdpaaDoorSlimStep
import Derived.Test.YtnbedmihgnjdpaaDoorPFnExactCollatorFaultx8
import Derived.Test.YtnbedmihgnjdpaaDoorPFnExactCollatorFaultx12
import Derived.Test.YtnbedmihgnjdpaaDoorPFnExactCollatorFaultx13
namespace Go.Proofs.YtnbedmihgnjdpaaDoor.PFnExactCollatorFault
open Go.RowKit Go.Proofs.YtnbedmihgnjdpaaDoorW.PrintWords Go.Proofs.YtnbedmihgnjdpaaDoorW.PrintLast Go.Proofs.YtnbedmihgnjdpaaDoorW.PrintMore
attribute [local go_sem] max2_int min2_int max_two min_two max_three min_three max_four min_four
set_option linter.unusedVariables false
set_option linter.unusedSimpArgs false
mutual
def impl_CollatorFault.j0 : Nat → Bool → List (S72) → Int → Bool → Option (Int)
 | 0, _, _, _, _ => none
 | k + 1, x21, x480000, x480001, x480002 => if x21 = true then (some 1) else (impl_CollatorFault.l0 k x480000 (x480000.length : Int) 0 x480000 x480001 x480002)
def impl_CollatorFault.l0 : Nat → List (S72) → Int → Int → List (S72) → Int → Bool → Option (Int)
 | 0, _, _, _, _, _, _ => none
 | k + 1, x23, x24, x25, x480000, x480001, x480002 => if x25 < x24 then (if 0 ≤ x25 then (if x25 < (x23.length : Int) then ((impl_points.f k ((rd_T72 x23 x25).f0)).bind fun t482 => ((impl_IsNormal.f k 1 ((rd_T72 x23 x25).f0)).bind fun t485 => (if t485 = true then (if (t482.length : Int) < 1 then (impl_CollatorFault.j2 k x23 x24 x25 true x480000 x480001 x480002 ((rd_T72 x23 x25).f0) ((rd_T72 x23 x25).f1)) else (if (t482.length : Int) > 3 then (impl_CollatorFault.j2 k x23 x24 x25 true x480000 x480001 x480002 ((rd_T72 x23 x25).f0) ((rd_T72 x23 x25).f1)) else (if x25 > 0 then (if 0 ≤ (wrap64 (x25 - 1)) then (if (wrap64 (x25 - 1)) < (x480000.length : Int) then (if ((Op.bytesLess (((rd_T72 x480000 (wrap64 (x25 - 1))).f0).toList) (((rd_T72 x23 x25).f0).toList)) = true) then (impl_CollatorFault.j2 k x23 x24 x25 (decide ((((rd_T72 x23 x25).f1).length : Int) > 20)) x480000 x480001 x480002 ((rd_T72 x23 x25).f0) ((rd_T72 x23 x25).f1)) else (impl_CollatorFault.j2 k x23 x24 x25 true x480000 x480001 x480002 ((rd_T72 x23 x25).f0) ((rd_T72 x23 x25).f1))) else (none)) else (none)) else (impl_CollatorFault.j2 k x23 x24 x25 (decide ((((rd_T72 x23 x25).f1).length : Int) > 20)) x480000 x480001 x480002 ((rd_T72 x23 x25).f0) ((rd_T72 x23 x25).f1))))) else (impl_CollatorFault.j2 k x23 x24 x25 true x480000 x480001 x480002 ((rd_T72 x23 x25).f0) ((rd_T72 x23 x25).f1))))) else (none)) else (none)) else (some 0)
def impl_CollatorFault.j2 : Nat → List (S72) → Int → Int → Bool → List (S72) → Int → Bool → ByteArray → List (S74) → Option (Int)
 | 0, _, _, _, _, _, _, _, _, _ => none
 | k + 1, x23, x24, x25, x68, x480000, x480001, x480002, x482000, x482001 => if x68 = true then (some 1) else (impl_CollatorFault.l1 k x23 x24 x25 x482001 (x482001.length : Int) 0 x480000 x480001 x480002)
def impl_CollatorFault.l1 : Nat → List (S72) → Int → Int → List (S74) → Int → Int → List (S72) → Int → Bool → Option (Int)
 | 0, _, _, _, _, _, _, _, _, _ => none
 | k + 1, x23, x24, x25, x70, x71, x72, x480000, x480001, x480002 => if x72 < x71 then (if 0 ≤ x72 then (if x72 < (x70.length : Int) then ((impl_in.f ((rd_T74 x70 x72).f0) 0 1000000000000).bind fun t489 => (if t489 = true then ((impl_in.f ((rd_T74 x70 x72).f1) 0 1000000000000).bind fun t490 => (if t490 = true then ((impl_in.f ((rd_T74 x70 x72).f2) 0 1000000000000).bind fun t491 => (if t491 = true then (impl_CollatorFault.l1 k x23 x24 x25 x70 x71 (wrap64 (x72 + 1)) x480000 x480001 x480002) else (some 1))) else (some 1))) else (some 1))) else (none)) else (none)) else (impl_CollatorFault.l0 k x23 x24 (wrap64 (x25 + 1)) x480000 x480001 x480002)
end
def impl_CollatorFault.f (k : Nat) (l0_0 : List (S72)) (a0_1 : Int) (a0_2 : Bool) : Option (Int) := if a0_1 < 1 then (impl_CollatorFault.j0 k true l0_0 a0_1 a0_2) else (if a0_1 > 4 then (impl_CollatorFault.j0 k true l0_0 a0_1 a0_2) else (impl_CollatorFault.j0 k (decide ((l0_0.length : Int) > 200)) l0_0 a0_1 a0_2))
def impl_CollatorFault.T7 : Bool × List (List Nat × List Nat) := (true, [([], []), ([0], [0]), ([1], [1]), ([2], [2]), ([3, 2], [3]), ([4], [4]), ([5, 4], [4, 5]), ([6, 4], [4, 6]), ([4, 7], [4, 7]), ([8, 4], [8]), ([9], [9]), ([10, 9], [9, 10]), ([11, 9], [9, 11]), ([9, 12], [9, 12]), ([13, 9], [13]), ([14], [14]), ([15, 14], [14, 15]), ([16, 14, 14], [14, 16]), ([17], [17]), ([18, 17], [17, 18]), ([17], [17]), ([20, 17], [17, 20]), ([19, 21, 17], [17, 19, 21]), ([22, 17], [17, 22]), ([23, 17], [17, 23]), ([17], [17]), ([25, 17], [17, 25]), ([24, 26, 17], [17, 24, 26]), ([17, 27, 14], [14, 17, 27]), ([14, 28], [14, 28]), ([29, 17], [29]), ([30], [30]), ([31, 30], [30, 31]), ([32, 30], [30, 32]), ([33, 30], [30, 33]), ([30, 34], [30, 34])])
def impl_CollatorFault.B7 : List Nat := [0, 1, 3, 7, 15, 31, 63, 127, 255, 511, 1023, 2047, 4095, 8191, 16383, 32767, 65535, 131071, 262143, 524287, 262143, 1310719, 4194303, 8388607, 16777215, 262143, 33816575, 134217727, 268435455, 536870911, 1073741823, 2147483647, 4294967295, 8589934591, 17179869183, 34359738367]
theorem impl_CollatorFault.tab7 : rtab .any (opsOf Tryd.f34 7) = impl_CollatorFault.T7 := by kernel_rfl
theorem impl_CollatorFault.bits7 : waitsOk impl_CollatorFault.T7.2 impl_CollatorFault.B7 = true := by kernel_rfl
set_option maxHeartbeats 8000000 in
set_option maxRecDepth 100000 in
theorem impl_CollatorFault.calls (k : Nat) (A0_0 : Option Addr) (c0_0 : Nat) (l0_0 : List (S72)) (a0_1 : Int) (a0_2 : Bool) (r : Int) (w : World) (hr0_0 : Kd.C k72 w A0_0 l0_0.length l0_0) (hc0_0 : l0_0.length ≤ c0_0) (hG : GL w) (h : impl_CollatorFault.f k l0_0 a0_1 a0_2 = some r) :
  Calls Tryd.prog 34 #[.agg #[.slice A0_0 l0_0.length c0_0, .int .i64 a0_1, .bool a0_2]] w fun e w' => e = .returned (.int .i64 r) ∧ Below w.heap.size w w' := by
 have hu48 := Tryd.underlying48
 have hu72 := Tryd.underlying72
 have hu74 := Tryd.underlying74
 have HR0_0 := am hr0_0
 have HC0_0 := am hc0_0
 clear hr0_0 hc0_0
 have HGL := am hG
 clear hG
 have HB := am (Below.refl w.heap.size w)
 have H : (if a0_1 < 1 then (impl_CollatorFault.j0 k true l0_0 a0_1 a0_2) else (if a0_1 > 4 then (impl_CollatorFault.j0 k true l0_0 a0_1 a0_2) else (impl_CollatorFault.j0 k (decide ((l0_0.length : Int) > 200)) l0_0 a0_1 a0_2))) = some r := h
 clear h
 have HC2 := am H
 clear H
 go_enter Tryd.func34, Tryd.ntmps34
 go_upto_region 1 with (first | ((with_reducible refine gate_dst (N := 1) rfl ?_); (try (refine gate_guard (by rfl) ?_; dsimp only)); refine bx 1 #[.slice A0_0 l0_0.length c0_0, .int .i64 a0_1, .bool a0_2] 48 ?_; intro gb479 hg w3 hbox hb; have BK479 := am (hbox); have GW479 := am ((by rw [hg]; exact (below_size bB) : w.heap.size ≤ gb479)); have GE479 := am ((by rw [hg]; exact (below_size bB) : w.heap.size ≤ gb479)); replace HB := am (below_step bB hb); clear hb hbox hg))
 (try simp only [Act.put, List.setIfInBounds_toArray, List.set_cons_zero, List.set_cons_succ])
 go_cut [21] (fun v21 wc => ∃ (kq : Nat) (x21_1 : Bool), v21 = .bool x21_1 ∧ Aside0 (impl_CollatorFault.j0 kq x21_1 l0_0 a0_1 a0_2 = some r) ∧ Aside0 (kq ≤ k) ∧ Aside0 (wc.heap[gb479]? = some (.cells #[(.slice A0_0 l0_0.length c0_0), .int .i64 a0_1, .bool a0_2] 48 (0, 0))) ∧ Aside0 (Below w.heap.size w wc))
 case first =>
  have H := HC2.out
  clear HC2
  by_cases c4 : a0_1 < 1
  ·rw [if_pos c4] at H
   have c4b0 : decide (a0_1 < 1) = true := decide_eq_true c4
   clear c4
   (first | rw [c4b0] | (simp only [i64_w, i32_w]; rw [c4b0]) | skip)
   have H' := am H
   clear H
   have hcz5_0 := bc BK479.out 0 (.slice A0_0 l0_0.length c0_0)
   have hcz5_1 := bc BK479.out 1 (.int .i64 a0_1)
   have hcz5_2 := bc BK479.out 2 (.bool a0_2)
   have hfz5_0 := blk_frozen BK479.out 0
   have hfz5_1 := blk_frozen BK479.out 1
   have hfz5_2 := blk_frozen BK479.out 2
   go_wp2
   go_meet
   case rel => exact ⟨_, (true), (by first | rfl | (simp; done) | (simp [*]; done)), H', ⟨by first | omega | exact Nat.le_refl _⟩, ⟨bk BK479.out⟩, ⟨bS⟩⟩
  ·rw [if_neg c4] at H
   have c4b0 : decide (a0_1 < 1) = false := decide_eq_false c4
   clear c4
   (first | rw [c4b0] | (simp only [i64_w, i32_w]; rw [c4b0]) | skip)
   by_cases c6 : a0_1 > 4
   ·rw [if_pos c6] at H
    have c6b0 : decide (4 < a0_1) = true := decide_eq_true c6
    clear c6
    have H' := am H
    clear H
    have hcz7_0 := bc BK479.out 0 (.slice A0_0 l0_0.length c0_0)
    have hcz7_1 := bc BK479.out 1 (.int .i64 a0_1)
    have hcz7_2 := bc BK479.out 2 (.bool a0_2)
    have hfz7_0 := blk_frozen BK479.out 0
    have hfz7_1 := blk_frozen BK479.out 1
    have hfz7_2 := blk_frozen BK479.out 2
    go_wp2
    go_meet
    case rel => exact ⟨_, (true), (by first | rfl | (simp; done) | (simp [*]; done)), H', ⟨by first | omega | exact Nat.le_refl _⟩, ⟨bk BK479.out⟩, ⟨bS⟩⟩
   ·rw [if_neg c6] at H
    have c6b0 : decide (4 < a0_1) = false := decide_eq_false c6
    clear c6
    have H' := am H
    clear H
    have hcz8_0 := bc BK479.out 0 (.slice A0_0 l0_0.length c0_0)
    have hcz8_1 := bc BK479.out 1 (.int .i64 a0_1)
    have hcz8_2 := bc BK479.out 2 (.bool a0_2)
    have hfz8_0 := blk_frozen BK479.out 0
    have hfz8_1 := blk_frozen BK479.out 1
    have hfz8_2 := blk_frozen BK479.out 2
    go_wp2
    go_meet
    case rel => exact ⟨_, (decide ((l0_0.length : Int) > 200)), (by first | rfl | (simp; done) | (simp [*]; done)), H', ⟨by first | omega | exact Nat.le_refl _⟩, ⟨bk BK479.out⟩, ⟨bS⟩⟩
 case rest =>
  clear HC2
  try clear p2
  try clear c3
  try clear c4
  try clear c4b0
  try clear c6
  try clear c6b0
  try clear hcz5_0
  try clear hcz5_1
  try clear hcz5_2
  try clear hcz7_0
  try clear hcz7_1
  try clear hcz7_2
  try clear hcz8_0
  try clear hcz8_1
  try clear hcz8_2
  try clear hfz5_0
  try clear hfz5_1
  try clear hfz5_2
  try clear hfz7_0
  try clear hfz7_1
  try clear hfz7_2
  try clear hfz8_0
  try clear hfz8_1
  try clear hfz8_2
  obtain ⟨kq, x21_1, rfl, HA, HJ1, BK479, HB⟩ := hcut
  cases kq with
  | zero => exact absurd HA.out (by simp [impl_CollatorFault.j0])
  | succ kj1 =>
   have H := HA.out
   clear HA
   simp only [impl_CollatorFault.j0] at H
   by_cases c9 : x21_1 = true
   ·subst c9
    have H1 : (some 1) = some r := by rw [if_pos rfl] at H; exact H
    clear H
    have H := H1
    clear H1
    obtain rfl := Option.some.inj H
    go_wp2
    go_ret
    exact ⟨rv, bS⟩
   ·replace c9 := Bool.eq_false_iff.mpr c9
    subst c9
    have H1 : (impl_CollatorFault.l0 kj1 l0_0 (l0_0.length : Int) 0 l0_0 a0_1 a0_2) = some r := by rw [if_neg (show ¬ (false = true) by decide)] at H; exact H
    clear H
    have H := H1
    clear H1
    have H' := am H
    clear H
    have hcz10_0 := bc BK479.out 0 (.slice A0_0 l0_0.length c0_0)
    have hcz10_1 := bc BK479.out 1 (.int .i64 a0_1)
    have hcz10_2 := bc BK479.out 2 (.bool a0_2)
    have hfz10_0 := blk_frozen BK479.out 0
    have hfz10_1 := blk_frozen BK479.out 1
    have hfz10_2 := blk_frozen BK479.out 2
    go_wp2
    go_loopg [25] kj1 (fun kq v25 w' => ∃ (x25_2 : Int), v25 = .int .i64 x25_2 ∧ Aside0 (impl_CollatorFault.l0 kq l0_0 (l0_0.length : Int) x25_2 l0_0 a0_1 a0_2 = some r) ∧ Aside0 (kq ≤ kj1) ∧ Aside0 (w'.heap[gb479]? = some (.cells #[(.slice A0_0 l0_0.length c0_0), .int .i64 a0_1, .bool a0_2] 48 (0, 0))) ∧ Aside0 (Below w.heap.size w w'))
    case atStart => exact ⟨(0), (by first | rfl | (simp; done) | (simp [*]; done)), H', ⟨Nat.le_refl _⟩, ⟨bk BK479.out⟩, ⟨bS⟩⟩
    case round =>
     clear H'
     try clear p2
     try clear c3
     try clear c4
     try clear c4b0
     try clear c6
     try clear c6b0
     try clear c9
     try clear hcz10_0
     try clear hcz10_1
     try clear hcz10_2
     try clear hcz5_0
     try clear hcz5_1
     try clear hcz5_2
     try clear hcz7_0
     try clear hcz7_1
     try clear hcz7_2
     try clear hcz8_0
     try clear hcz8_1
     try clear hcz8_2
     try clear hfz10_0
     try clear hfz10_1
     try clear hfz10_2
     try clear hfz5_0
     try clear hfz5_1
     try clear hfz5_2
     try clear hfz7_0
     try clear hfz7_1
     try clear hfz7_2
     try clear hfz8_0
     try clear hfz8_1
     try clear hfz8_2
     try clear p2
     obtain ⟨x25_2, rfl, HA, HK2, BK479, HB⟩ := hrel
     cases gk with
     | zero => exact absurd HA.out (by simp [impl_CollatorFault.l0])
     | succ k2 =>
      have H := HA.out
      clear HA
      simp only [impl_CollatorFault.l0] at H
      by_cases c11 : x25_2 < (l0_0.length : Int)
      ·rw [if_pos c11] at H
       have c11b0 : decide (x25_2 < (l0_0.length : Int)) = true := decide_eq_true c11
       clear c11
       by_cases c12 : 0 ≤ x25_2
       ·rw [if_pos c12] at H
        have c12b0 : decide (0 ≤ x25_2) = true := decide_eq_true c12
        clear c12
        by_cases c13 : x25_2 < (l0_0.length : Int)
        ·rw [if_pos c13] at H
         have c13b0 : decide (x25_2 < (l0_0.length : Int)) = true := decide_eq_true c13
         clear c13
         replace H := Option.bind_eq_some_iff.mp H
         obtain ⟨t482, A140, H⟩ := H
         replace H : ((impl_IsNormal.f k2 1 ((rd_T72 l0_0 x25_2).f0)).bind fun t485 => (if t485 = true then (if (t482.length : Int) < 1 then (impl_CollatorFault.j2 k2 l0_0 (l0_0.length : Int) x25_2 true l0_0 a0_1 a0_2 ((rd_T72 l0_0 x25_2).f0) ((rd_T72 l0_0 x25_2).f1)) else (if (t482.length : Int) > 3 then (impl_CollatorFault.j2 k2 l0_0 (l0_0.length : Int) x25_2 true l0_0 a0_1 a0_2 ((rd_T72 l0_0 x25_2).f0) ((rd_T72 l0_0 x25_2).f1)) else (if x25_2 > 0 then (if 0 ≤ (wrap64 (x25_2 - 1)) then (if (wrap64 (x25_2 - 1)) < (l0_0.length : Int) then (if ((Op.bytesLess (((rd_T72 l0_0 (wrap64 (x25_2 - 1))).f0).toList) (((rd_T72 l0_0 x25_2).f0).toList)) = true) then (impl_CollatorFault.j2 k2 l0_0 (l0_0.length : Int) x25_2 (decide ((((rd_T72 l0_0 x25_2).f1).length : Int) > 20)) l0_0 a0_1 a0_2 ((rd_T72 l0_0 x25_2).f0) ((rd_T72 l0_0 x25_2).f1)) else (impl_CollatorFault.j2 k2 l0_0 (l0_0.length : Int) x25_2 true l0_0 a0_1 a0_2 ((rd_T72 l0_0 x25_2).f0) ((rd_T72 l0_0 x25_2).f1))) else (none)) else (none)) else (impl_CollatorFault.j2 k2 l0_0 (l0_0.length : Int) x25_2 (decide ((((rd_T72 l0_0 x25_2).f1).length : Int) > 20)) l0_0 a0_1 a0_2 ((rd_T72 l0_0 x25_2).f0) ((rd_T72 l0_0 x25_2).f1))))) else (impl_CollatorFault.j2 k2 l0_0 (l0_0.length : Int) x25_2 true l0_0 a0_1 a0_2 ((rd_T72 l0_0 x25_2).f0) ((rd_T72 l0_0 x25_2).f1)))) = some r := H
         have A14 := am A140
         clear A140
         have HC15 := am H
         clear H
         have p480 : 0 ≤ (x25_2 : Int) := od
         have q480 : x25_2 < (l0_0.length : Int) := od
         obtain ⟨ad480, A480_1, c480_1, e480, hx480_0, hx480_1, hl480_1, hi480_1⟩ := at_T72 HR0_0.out x25_2 p480 q480
         cases e480
         replace hx480_0 := (HB.out.cell (World.block_lt_of_cell? w _ hx480_0)).trans hx480_0
         replace hx480_1 := (HB.out.cell (World.block_lt_of_cell? w _ hx480_1)).trans hx480_1
         have HR480_1 := am hi480_1
         have HC480_1 := am hl480_1
         clear hi480_1 hl480_1
         replace p480 := eq_true p480
         replace q480 := eq_true q480
         go_upto_region 7 with (first | ((with_reducible refine gate_dst (N := 4) rfl ?_); (try (refine gate_guard (by rfl) ?_; dsimp only)); refine bx 4 #[.string (⟨#[]⟩ : ByteArray), .slice none 0 0] 72 ?_; intro gb481 hg w16 hbox hb; have BK481 := am (hbox); have GW481 := am ((by rw [hg]; exact (below_size bS) : w.heap.size ≤ gb481)); have GE481 := am ((by rw [hg]; exact (below_size bS) : w.heap.size ≤ gb481)); replace HB := am (below_step bS hb); have NB479_481 := am ((by rw [hg]; exact Nat.ne_of_lt (blk_lt (g := gb479) (o := .cells #[.slice (some ad480) l0_0.length c0_0, .int .i64 a0_1, .bool a0_2] 48 (0, 0)) (bk BK479.out)) : gb479 ≠ gb481)); have NB481_479 := am ((by rw [hg]; exact Nat.ne_of_gt (blk_lt (g := gb479) (o := .cells #[.slice (some ad480) l0_0.length c0_0, .int .i64 a0_1, .bool a0_2] 48 (0, 0)) (bk BK479.out)) : gb481 ≠ gb479)); replace BK479 := am (blk_below (g := gb479) (o := .cells #[.slice (some ad480) l0_0.length c0_0, .int .i64 a0_1, .bool a0_2] 48 (0, 0)) (bk BK479.out) hb); clear hb hbox hg; have hnb17 := NB481_479.out; have hnc17 := NB479_481.out; have hcz18_0 := bc BK481.out 0 (.string (⟨#[]⟩ : ByteArray)); have hcz18_1 := bc BK481.out 1 (.slice none 0 0); have hfz18_0 := blk_frozen BK481.out 0; have hfz18_1 := blk_frozen BK481.out 1) | ((with_reducible refine gate_callee (f := 58) rfl ?_); refine gl 32 Tryd.func58 #[.string ((rd_T72 l0_0 x25_2).f0)] ?_; (with_reducible refine (impl_points.calls k2 ((rd_T72 l0_0 x25_2).f0) t482 _ ?side1 A14.out).mono ?_); (case side1 => first | exact HGL.out | exact GL_below HGL.out bS); rintro e w19 ⟨v483, rfl, ho0, hb⟩; refine ⟨_, rfl, ?_⟩; have HO484 := am (Kd.R_lower ho0 (below_size bS)); replace BK479 := am (blk_below (g := gb479) (o := .cells #[.slice (some ad480) l0_0.length c0_0, .int .i64 a0_1, .bool a0_2] 48 (0, 0)) (by (with_reducible repeat (first | refine blk_drewN ?_ _ | refine blk_drew ?_ | refine blk_alloc ?_ _)); refine blk_far ?_ NB479_481.out _; (with_reducible repeat (first | refine blk_drewN ?_ _ | refine blk_drew ?_ | refine blk_alloc ?_ _)); refine blk_far ?_ NB479_481.out _; (with_reducible repeat (first | refine blk_drewN ?_ _ | refine blk_drew ?_ | refine blk_alloc ?_ _)); exact BK479.out) hb); replace BK481 := am (blk_below (g := gb481) (o := .cells #[.string ((rd_T72 l0_0 x25_2).f0), .slice A480_1 ((rd_T72 l0_0 x25_2).f1).length c480_1] 72 (0, 0)) (by (with_reducible repeat (first | refine blk_drewN ?_ _ | refine blk_drew ?_ | refine blk_alloc ?_ _)); refine blk_put (cs := #[.string ((rd_T72 l0_0 x25_2).f0), .slice none 0 0]) ?_ 1 _ rfl; (with_reducible repeat (first | refine blk_drewN ?_ _ | refine blk_drew ?_ | refine blk_alloc ?_ _)); refine blk_put (cs := #[.string (⟨#[]⟩ : ByteArray), .slice none 0 0]) ?_ 0 _ rfl; (with_reducible repeat (first | refine blk_drewN ?_ _ | refine blk_drew ?_ | refine blk_alloc ?_ _)); exact BK481.out) hb); replace HB := am (below_step bS hb); (try clear hb); (try clear hb2); (try clear hk); (try clear hi); (try clear ho0)))
         (try simp only [Act.put, List.setIfInBounds_toArray, List.set_cons_zero, List.set_cons_succ])
         go_cut [68] (fun v68 wc => ∃ (kq : Nat) (x68_14 : Bool), v68 = .bool x68_14 ∧ Aside0 (impl_CollatorFault.j2 kq l0_0 (l0_0.length : Int) x25_2 x68_14 l0_0 a0_1 a0_2 ((rd_T72 l0_0 x25_2).f0) ((rd_T72 l0_0 x25_2).f1) = some r) ∧ Aside0 (kq ≤ k2) ∧ Aside0 (wc.heap[gb479]? = some (.cells #[(.slice (some ad480) l0_0.length c0_0), .int .i64 a0_1, .bool a0_2] 48 (0, 0))) ∧ Aside0 (wc.heap[gb481]? = some (.cells #[.string ((rd_T72 l0_0 x25_2).f0), (.slice A480_1 ((rd_T72 l0_0 x25_2).f1).length c480_1)] 72 (0, 0))) ∧ Aside0 (Below w.heap.size w wc))
         case first =>
          have H := HC15.out
          clear HC15
          replace H := Option.bind_eq_some_iff.mp H
          obtain ⟨t485, A200, H⟩ := H
          replace H : (if t485 = true then (if (t482.length : Int) < 1 then (impl_CollatorFault.j2 k2 l0_0 (l0_0.length : Int) x25_2 true l0_0 a0_1 a0_2 ((rd_T72 l0_0 x25_2).f0) ((rd_T72 l0_0 x25_2).f1)) else (if (t482.length : Int) > 3 then (impl_CollatorFault.j2 k2 l0_0 (l0_0.length : Int) x25_2 true l0_0 a0_1 a0_2 ((rd_T72 l0_0 x25_2).f0) ((rd_T72 l0_0 x25_2).f1)) else (if x25_2 > 0 then (if 0 ≤ (wrap64 (x25_2 - 1)) then (if (wrap64 (x25_2 - 1)) < (l0_0.length : Int) then (if ((Op.bytesLess (((rd_T72 l0_0 (wrap64 (x25_2 - 1))).f0).toList) (((rd_T72 l0_0 x25_2).f0).toList)) = true) then (impl_CollatorFault.j2 k2 l0_0 (l0_0.length : Int) x25_2 (decide ((((rd_T72 l0_0 x25_2).f1).length : Int) > 20)) l0_0 a0_1 a0_2 ((rd_T72 l0_0 x25_2).f0) ((rd_T72 l0_0 x25_2).f1)) else (impl_CollatorFault.j2 k2 l0_0 (l0_0.length : Int) x25_2 true l0_0 a0_1 a0_2 ((rd_T72 l0_0 x25_2).f0) ((rd_T72 l0_0 x25_2).f1))) else (none)) else (none)) else (impl_CollatorFault.j2 k2 l0_0 (l0_0.length : Int) x25_2 (decide ((((rd_T72 l0_0 x25_2).f1).length : Int) > 20)) l0_0 a0_1 a0_2 ((rd_T72 l0_0 x25_2).f0) ((rd_T72 l0_0 x25_2).f1))))) else (impl_CollatorFault.j2 k2 l0_0 (l0_0.length : Int) x25_2 true l0_0 a0_1 a0_2 ((rd_T72 l0_0 x25_2).f0) ((rd_T72 l0_0 x25_2).f1))) = some r := H
          have A20 := am A200
          clear A200
          by_cases c21 : t485 = true
          ·subst c21
           have H1 : (if (t482.length : Int) < 1 then (impl_CollatorFault.j2 k2 l0_0 (l0_0.length : Int) x25_2 true l0_0 a0_1 a0_2 ((rd_T72 l0_0 x25_2).f0) ((rd_T72 l0_0 x25_2).f1)) else (if (t482.length : Int) > 3 then (impl_CollatorFault.j2 k2 l0_0 (l0_0.length : Int) x25_2 true l0_0 a0_1 a0_2 ((rd_T72 l0_0 x25_2).f0) ((rd_T72 l0_0 x25_2).f1)) else (if x25_2 > 0 then (if 0 ≤ (wrap64 (x25_2 - 1)) then (if (wrap64 (x25_2 - 1)) < (l0_0.length : Int) then (if ((Op.bytesLess (((rd_T72 l0_0 (wrap64 (x25_2 - 1))).f0).toList) (((rd_T72 l0_0 x25_2).f0).toList)) = true) then (impl_CollatorFault.j2 k2 l0_0 (l0_0.length : Int) x25_2 (decide ((((rd_T72 l0_0 x25_2).f1).length : Int) > 20)) l0_0 a0_1 a0_2 ((rd_T72 l0_0 x25_2).f0) ((rd_T72 l0_0 x25_2).f1)) else (impl_CollatorFault.j2 k2 l0_0 (l0_0.length : Int) x25_2 true l0_0 a0_1 a0_2 ((rd_T72 l0_0 x25_2).f0) ((rd_T72 l0_0 x25_2).f1))) else (none)) else (none)) else (impl_CollatorFault.j2 k2 l0_0 (l0_0.length : Int) x25_2 (decide ((((rd_T72 l0_0 x25_2).f1).length : Int) > 20)) l0_0 a0_1 a0_2 ((rd_T72 l0_0 x25_2).f0) ((rd_T72 l0_0 x25_2).f1))))) = some r := by rw [if_pos rfl] at H; exact H
           clear H
           have H := H1
           clear H1
           by_cases c22 : (t482.length : Int) < 1
           ·rw [if_pos c22] at H
            have c22b0 : decide ((t482.length : Int) < 1) = true := decide_eq_true c22
            have c22b1 : decide (t482.length < 1) = true := decide_eq_true (by omega)
            clear c22
            (first | rw [c22b0] | (simp only [i64_w, i32_w]; rw [c22b0]) | skip)
            have H' := am H
            clear H
            try go_wp2
            replace HO484 := am (Kd.R_drew HO484.out)
            replace BK479 := am (blk_drew BK479.out)
            replace BK481 := am (blk_drew BK481.out)
            replace HB := am (below_drew1 HB.out)
            refine start_ (n := 36) (S := fun w' => w'.cell? ⟨gb481, 0, none⟩ = some (.string ((rd_T72 l0_0 x25_2).f0)) ∧ w'.cell? ⟨gb481, 1, none⟩ = some (.slice A480_1 ((rd_T72 l0_0 x25_2).f1).length c480_1)) (ds := []) #[false, false, false, false, false, false, false, false, false, false, false, false, false, false, false, false, false, false, false, false, false, false, false, false, false, false, false, false, false, false, false, false, false, false, false, false] (by kernel_rfl) rfl rfl ⟨(blk_cell BK481.out 0).trans rfl, (blk_cell BK481.out 1).trans rfl⟩ (fun hHeld => ?_); refine with_tabW impl_CollatorFault.tab7 impl_CollatorFault.bits7 (fun HT_ HW_ => ?_)
            generalize w19.drew = w23 at HO484 BK479 BK481 HB hHeld ⊢
            refine pq 0 33 HT_.out ?_
            refine take_ (i := 1) (N := some 34) (v := ?_) (a' := ?_) #[true, true, false, false, false, false, false, false, false, false, false, false, false, false, false, false, false, false, false, false, false, false, false, false, false, false, false, false, false, false, false, false, false, false, false, false] rfl rfl (take_ofW HT_.out HW_.out (by kernel_rfl)) (fun _ _ _ h => h) (Or.inl ⟨by rfl, ?_⟩) hHeld ?_ ?_
            rotate_left
            ·rintro w' ⟨s0, s1⟩
             go_simp
             with_reducible rfl
            rotate_left
            ·simp only [Act.put, List.setIfInBounds_toArray, List.set_cons_zero, List.set_cons_succ, i64_w, i32_w]
             rfl
            refine one_ (i := 2) (N := some 35) #[true, true, true, false, false, false, false, false, false, false, false, false, false, false, false, false, false, false, false, false, false, false, false, false, false, false, false, false, false, false, false, false, false, false, false, false] rfl rfl (one_of HT_.out (by kernel_rfl)) (by decide) (fun K hK => ?_)
            refine goes_ Tryd.func15 (by kernel_rfl) rfl #[.int .i64 1, .string ((rd_T72 l0_0 x25_2).f0)] (by rfl) rfl rfl (by (try simp only [List.map_toArray, List.map_cons, List.map_nil]); first | done | rfl | (simp only [List.length_drop, List.length_take]; rfl)) ?_
            with_reducible refine (impl_IsNormal.calls k2 1 ((rd_T72 l0_0 x25_2).f0) true _ ?side1 A20.out).mono ?_
            (case side1 => first | exact HGL.out | exact GL_below HGL.out bS)
            rintro e w24 ⟨rfl, hb⟩
            refine ⟨_, rfl, ?_⟩
            replace HO484 := am (Kd.R_below (kR HO484.out) hb)
            replace BK479 := am (blk_below (g := gb479) (o := .cells #[.slice (some ad480) l0_0.length c0_0, .int .i64 a0_1, .bool a0_2] 48 (0, 0)) (bk BK479.out) hb)
            replace BK481 := am (blk_below (g := gb481) (o := .cells #[.string ((rd_T72 l0_0 x25_2).f0), .slice A480_1 ((rd_T72 l0_0 x25_2).f1).length c480_1] 72 (0, 0)) (bk BK481.out) hb)
            replace HB := am (below_step bS hb)
            (try clear hb)
            (try clear hb2)
            (try clear hk)
            (try clear hi)
            obtain ⟨Ao25, co25, eo25⟩ := Kd.R_slice HO484.out
            (first | subst eo25 | (injection eo25 with f1_ f2_ f3_; have f4_ := f1_.symm; have f5_ := f3_.symm; clear f1_ f2_ f3_; subst f4_; subst f5_))
            refine hK.out _ _ ⟨(blk_cell BK481.out 0).trans rfl, (blk_cell BK481.out 1).trans rfl⟩ (fun hHeld => ?_)
            clear hK K
            refine norm_ (a' := ?_) ?_ ?_
            rotate_left
            ·show Act.put _ (some 35) _ = _
             simp only [Act.put, List.setIfInBounds_toArray, List.set_cons_zero, List.set_cons_succ, i64_w, i32_w]
             rfl
            refine pq 3 36 HT_.out ?_
            refine pq 4 37 HT_.out ?_
            refine pq 5 38 HT_.out ?_
            refine pq 6 39 HT_.out ?_
            refine pq 7 40 HT_.out ?_
            refine pq 8 41 HT_.out ?_
            refine pq 9 42 HT_.out ?_
            refine pu 10 43 HT_.out ?_
            refine pu 11 44 HT_.out ?_
            refine pu 12 45 HT_.out ?_
            refine pq 13 46 HT_.out ?_
            refine pq 14 47 HT_.out ?_
            refine pu 15 48 HT_.out ?_
            refine pu 16 49 HT_.out ?_
            refine pu 17 50 HT_.out ?_
            refine pu 18 51 HT_.out ?_
            refine pu 19 52 HT_.out ?_
            refine pu 20 53 HT_.out ?_
            refine pu 21 54 HT_.out ?_
            refine pu 22 55 HT_.out ?_
            refine pu 23 56 HT_.out ?_
            refine pu 24 57 HT_.out ?_
            refine pu 25 58 HT_.out ?_
            refine pu 26 59 HT_.out ?_
            refine pu 27 60 HT_.out ?_
            refine pu 28 61 HT_.out ?_
            refine pq 29 62 HT_.out ?_
            refine pq 30 63 HT_.out ?_
            refine pu 31 64 HT_.out ?_
            refine pu 32 65 HT_.out ?_
            refine pu 33 66 HT_.out ?_
            refine pu 34 67 HT_.out ?_
            refine pq 35 68 HT_.out ?_
            refine done_ (done_of HT_.out (by kernel_rfl)) ?_
            try go_wp2
            go_meet
            case rel => exact ⟨_, (true), (by first | rfl | (simp; done) | (simp [*]; done)), H', ⟨by have := HJ1.out; have := HK2.out; first | omega | exact Nat.le_refl _⟩, ⟨bk BK479.out⟩, ⟨bk BK481.out⟩, ⟨bS⟩⟩
           ·rw [if_neg c22] at H
            have c22b0 : decide ((t482.length : Int) < 1) = false := decide_eq_false c22
            have c22b1 : decide (t482.length < 1) = false := decide_eq_false (by omega)
            clear c22
            (first | rw [c22b0] | (simp only [i64_w, i32_w]; rw [c22b0]) | skip)
            by_cases c26 : (t482.length : Int) > 3
            ·rw [if_pos c26] at H
             have c26b0 : decide (3 < (t482.length : Int)) = true := decide_eq_true c26
             have c26b1 : decide (3 < t482.length) = true := decide_eq_true (by omega)
             clear c26
             have H' := am H
             clear H
             try go_wp2
             replace HO484 := am (Kd.R_drew HO484.out)
             replace BK479 := am (blk_drew BK479.out)
             replace BK481 := am (blk_drew BK481.out)
             replace HB := am (below_drew1 HB.out)
             refine start_ (n := 36) (S := fun w' => w'.cell? ⟨gb481, 0, none⟩ = some (.string ((rd_T72 l0_0 x25_2).f0)) ∧ w'.cell? ⟨gb481, 1, none⟩ = some (.slice A480_1 ((rd_T72 l0_0 x25_2).f1).length c480_1)) (ds := []) #[false, false, false, false, false, false, false, false, false, false, false, false, false, false, false, false, false, false, false, false, false, false, false, false, false, false, false, false, false, false, false, false, false, false, false, false] (by kernel_rfl) rfl rfl ⟨(blk_cell BK481.out 0).trans rfl, (blk_cell BK481.out 1).trans rfl⟩ (fun hHeld => ?_); refine with_tabW impl_CollatorFault.tab7 impl_CollatorFault.bits7 (fun HT_ HW_ => ?_)
             generalize w19.drew = w27 at HO484 BK479 BK481 HB hHeld ⊢
             refine pq 0 33 HT_.out ?_
             refine take_ (i := 1) (N := some 34) (v := ?_) (a' := ?_) #[true, true, false, false, false, false, false, false, false, false, false, false, false, false, false, false, false, false, false, false, false, false, false, false, false, false, false, false, false, false, false, false, false, false, false, false] rfl rfl (take_ofW HT_.out HW_.out (by kernel_rfl)) (fun _ _ _ h => h) (Or.inl ⟨by rfl, ?_⟩) hHeld ?_ ?_
             rotate_left
             ·rintro w' ⟨s0, s1⟩
              go_simp
              with_reducible rfl
             rotate_left
             ·simp only [Act.put, List.setIfInBounds_toArray, List.set_cons_zero, List.set_cons_succ, i64_w, i32_w]
              rfl
             refine one_ (i := 2) (N := some 35) #[true, true, true, false, false, false, false, false, false, false, false, false, false, false, false, false, false, false, false, false, false, false, false, false, false, false, false, false, false, false, false, false, false, false, false, false] rfl rfl (one_of HT_.out (by kernel_rfl)) (by decide) (fun K hK => ?_)
             refine goes_ Tryd.func15 (by kernel_rfl) rfl #[.int .i64 1, .string ((rd_T72 l0_0 x25_2).f0)] (by rfl) rfl rfl (by (try simp only [List.map_toArray, List.map_cons, List.map_nil]); first | done | rfl | (simp only [List.length_drop, List.length_take]; rfl)) ?_
             with_reducible refine (impl_IsNormal.calls k2 1 ((rd_T72 l0_0 x25_2).f0) true _ ?side1 A20.out).mono ?_
             (case side1 => first | exact HGL.out | exact GL_below HGL.out bS)
             rintro e w28 ⟨rfl, hb⟩
             refine ⟨_, rfl, ?_⟩
             replace HO484 := am (Kd.R_below (kR HO484.out) hb)
             replace BK479 := am (blk_below (g := gb479) (o := .cells #[.slice (some ad480) l0_0.length c0_0, .int .i64 a0_1, .bool a0_2] 48 (0, 0)) (bk BK479.out) hb)
             replace BK481 := am (blk_below (g := gb481) (o := .cells #[.string ((rd_T72 l0_0 x25_2).f0), .slice A480_1 ((rd_T72 l0_0 x25_2).f1).length c480_1] 72 (0, 0)) (bk BK481.out) hb)
             replace HB := am (below_step bS hb)
             (try clear hb)
             (try clear hb2)
             (try clear hk)
             (try clear hi)
             obtain ⟨Ao29, co29, eo29⟩ := Kd.R_slice HO484.out
             (first | subst eo29 | (injection eo29 with f1_ f2_ f3_; have f4_ := f1_.symm; have f5_ := f3_.symm; clear f1_ f2_ f3_; subst f4_; subst f5_))
             refine hK.out _ _ ⟨(blk_cell BK481.out 0).trans rfl, (blk_cell BK481.out 1).trans rfl⟩ (fun hHeld => ?_)
             clear hK K
             refine norm_ (a' := ?_) ?_ ?_
             rotate_left
             ·show Act.put _ (some 35) _ = _
              simp only [Act.put, List.setIfInBounds_toArray, List.set_cons_zero, List.set_cons_succ, i64_w, i32_w]
              rfl
             refine pq 3 36 HT_.out ?_
             refine pq 4 37 HT_.out ?_
             refine pq 5 38 HT_.out ?_
             refine pq 6 39 HT_.out ?_
             refine pq 7 40 HT_.out ?_
             refine pq 8 41 HT_.out ?_
             refine pq 9 42 HT_.out ?_
             refine pq 10 43 HT_.out ?_
             refine pq 11 44 HT_.out ?_
             refine pq 12 45 HT_.out ?_
             refine pq 13 46 HT_.out ?_
             refine pq 14 47 HT_.out ?_
             refine pu 15 48 HT_.out ?_
             refine pu 16 49 HT_.out ?_
             refine pu 17 50 HT_.out ?_
             refine pu 18 51 HT_.out ?_
             refine pu 19 52 HT_.out ?_
             refine pu 20 53 HT_.out ?_
             refine pu 21 54 HT_.out ?_
             refine pu 22 55 HT_.out ?_
             refine pu 23 56 HT_.out ?_
             refine pu 24 57 HT_.out ?_
             refine pu 25 58 HT_.out ?_
             refine pu 26 59 HT_.out ?_
             refine pu 27 60 HT_.out ?_
             refine pu 28 61 HT_.out ?_
             refine pq 29 62 HT_.out ?_
             refine pq 30 63 HT_.out ?_
             refine pu 31 64 HT_.out ?_
             refine pu 32 65 HT_.out ?_
             refine pu 33 66 HT_.out ?_
             refine pu 34 67 HT_.out ?_
             refine pq 35 68 HT_.out ?_
             refine done_ (done_of HT_.out (by kernel_rfl)) ?_
             try go_wp2
             go_meet
             case rel => exact ⟨_, (true), (by first | rfl | (simp; done) | (simp [*]; done)), H', ⟨by have := HJ1.out; have := HK2.out; first | omega | exact Nat.le_refl _⟩, ⟨bk BK479.out⟩, ⟨bk BK481.out⟩, ⟨bS⟩⟩
            ·rw [if_neg c26] at H
             have c26b0 : decide (3 < (t482.length : Int)) = false := decide_eq_false c26
             have c26b1 : decide (3 < t482.length) = false := decide_eq_false (by omega)
             clear c26
             by_cases c30 : x25_2 > 0
             ·rw [if_pos c30] at H
              have c30b0 : decide (0 < x25_2) = true := decide_eq_true c30
              clear c30
              obtain ⟨ji31, hji31⟩ : ∃ j_ : Int, (wrap64 (x25_2 - 1)) = j_ := ⟨_, rfl⟩
              replace H : (if 0 ≤ (ji31) then (if (ji31) < (l0_0.length : Int) then (if ((Op.bytesLess (((rd_T72 l0_0 (ji31)).f0).toList) (((rd_T72 l0_0 x25_2).f0).toList)) = true) then (impl_CollatorFault.j2 k2 l0_0 (l0_0.length : Int) x25_2 (decide ((((rd_T72 l0_0 x25_2).f1).length : Int) > 20)) l0_0 a0_1 a0_2 ((rd_T72 l0_0 x25_2).f0) ((rd_T72 l0_0 x25_2).f1)) else (impl_CollatorFault.j2 k2 l0_0 (l0_0.length : Int) x25_2 true l0_0 a0_1 a0_2 ((rd_T72 l0_0 x25_2).f0) ((rd_T72 l0_0 x25_2).f1))) else (none)) else (none)) = some r := by first | (rw [hji31] at H; exact H) | (simp only [hji31] at H ⊢; exact H)
              (try rw [hji31] at A20)
              have hji31w : (IntKind.i64.wrap (x25_2 - 1)) = ji31 := (i64_w _).trans hji31
              by_cases c32 : 0 ≤ (ji31)
              ·rw [if_pos c32] at H
               have c32b0 : decide (0 ≤ (ji31)) = true := decide_eq_true c32
               clear c32
               by_cases c33 : (ji31) < (l0_0.length : Int)
               ·rw [if_pos c33] at H
                have c33b0 : decide ((ji31) < (l0_0.length : Int)) = true := decide_eq_true c33
                clear c33
                by_cases c34 : ((Op.bytesLess (((rd_T72 l0_0 (ji31)).f0).toList) (((rd_T72 l0_0 x25_2).f0).toList)) = true)
                ·rw [if_pos c34] at H
                 have c34b0 : (Op.bytesLess (((rd_T72 l0_0 (ji31)).f0).toList) (((rd_T72 l0_0 x25_2).f0).toList)) = true := c34
                 clear c34
                 have H' := am H
                 clear H
                 try go_wp2
                 replace HO484 := am (Kd.R_drew HO484.out)
                 replace BK479 := am (blk_drew BK479.out)
                 replace BK481 := am (blk_drew BK481.out)
                 replace HB := am (below_drew1 HB.out)
                 have p486 : 0 ≤ ((ji31) : Int) := od
                 have q486 : (ji31) < (l0_0.length : Int) := od
                 obtain ⟨ad486, A486_1, c486_1, e486, hx486_0, hx486_1, hl486_1, hi486_1⟩ := at_T72 HR0_0.out (ji31) p486 q486
                 have hw486_1 := hx486_1
                 have hw486_0 := hx486_0
                 obtain rfl : ad480 = ad486 := (by injection e486)
                 replace hx486_0 := (HB.out.cell (World.block_lt_of_cell? w _ hx486_0)).trans hx486_0
                 replace hx486_1 := (HB.out.cell (World.block_lt_of_cell? w _ hx486_1)).trans hx486_1
                 have HR486_1 := am hi486_1
                 have HC486_1 := am hl486_1
                 clear hi486_1 hl486_1
                 replace p486 := eq_true p486
                 replace q486 := eq_true q486
                 refine start_ (n := 36) (S := fun w' => w'.cell? ⟨gb481, 0, none⟩ = some (.string ((rd_T72 l0_0 x25_2).f0)) ∧ w'.cell? ⟨gb481, 1, none⟩ = some (.slice A480_1 ((rd_T72 l0_0 x25_2).f1).length c480_1) ∧ w'.cell? ⟨gb479, 0, none⟩ = some (.slice (some ad480) l0_0.length c0_0) ∧ w'.cell? ⟨gb479, 1, none⟩ = some (.int .i64 a0_1) ∧ w'.cell? ⟨gb479, 2, none⟩ = some (.bool a0_2) ∧ w'.cell? (ad480.add (((ji31)).toNat * 2)) = some (.string ((rd_T72 l0_0 (ji31)).f0)) ∧ w'.cell? ⟨(ad480.add (((ji31)).toNat * 2)).block, (ad480.add (((ji31)).toNat * 2)).off + 1, none⟩ = some (.slice A486_1 ((rd_T72 l0_0 (ji31)).f1).length c486_1)) (ds := []) #[false, false, false, false, false, false, false, false, false, false, false, false, false, false, false, false, false, false, false, false, false, false, false, false, false, false, false, false, false, false, false, false, false, false, false, false] (by kernel_rfl) rfl rfl ⟨(blk_cell BK481.out 0).trans rfl, (blk_cell BK481.out 1).trans rfl, (blk_cell BK479.out 0).trans rfl, (blk_cell BK479.out 1).trans rfl, (blk_cell BK479.out 2).trans rfl, ((HB.out.cell (World.block_lt_of_cell? w _ hw486_0)).trans hw486_0), ((HB.out.cell (World.block_lt_of_cell? w _ hw486_1)).trans hw486_1)⟩ (fun hHeld => ?_); refine with_tabW impl_CollatorFault.tab7 impl_CollatorFault.bits7 (fun HT_ HW_ => ?_)
                 generalize w19.drew = w35 at HO484 BK479 BK481 HB HR486_1 hx486_0 hx486_1 hHeld ⊢
                 refine pq 0 33 HT_.out ?_
                 refine take_ (i := 1) (N := some 34) (v := ?_) (a' := ?_) #[true, true, false, false, false, false, false, false, false, false, false, false, false, false, false, false, false, false, false, false, false, false, false, false, false, false, false, false, false, false, false, false, false, false, false, false] rfl rfl (take_ofW HT_.out HW_.out (by kernel_rfl)) (fun _ _ _ h => h) (Or.inl ⟨by rfl, ?_⟩) hHeld ?_ ?_
                 rotate_left
                 ·rintro w' ⟨s0, s1, s2, s3, s4, s5, s6⟩
                  go_simp
                  with_reducible rfl
                 rotate_left
                 ·simp only [Act.put, List.setIfInBounds_toArray, List.set_cons_zero, List.set_cons_succ, i64_w, i32_w]
                  rfl
                 refine one_ (i := 2) (N := some 35) #[true, true, true, false, false, false, false, false, false, false, false, false, false, false, false, false, false, false, false, false, false, false, false, false, false, false, false, false, false, false, false, false, false, false, false, false] rfl rfl (one_of HT_.out (by kernel_rfl)) (by decide) (fun K hK => ?_)
                 refine goes_ Tryd.func15 (by kernel_rfl) rfl #[.int .i64 1, .string ((rd_T72 l0_0 x25_2).f0)] (by rfl) rfl rfl (by (try simp only [List.map_toArray, List.map_cons, List.map_nil]); first | done | rfl | (simp only [List.length_drop, List.length_take]; rfl)) ?_
                 with_reducible refine (impl_IsNormal.calls k2 1 ((rd_T72 l0_0 x25_2).f0) true _ ?side1 A20.out).mono ?_
                 (case side1 => first | exact HGL.out | exact GL_below HGL.out bS)
                 rintro e w36 ⟨rfl, hb⟩
                 refine ⟨_, rfl, ?_⟩
                 replace HO484 := am (Kd.R_below (kR HO484.out) hb)
                 replace BK479 := am (blk_below (g := gb479) (o := .cells #[.slice (some ad480) l0_0.length c0_0, .int .i64 a0_1, .bool a0_2] 48 (0, 0)) (bk BK479.out) hb)
                 replace BK481 := am (blk_below (g := gb481) (o := .cells #[.string ((rd_T72 l0_0 x25_2).f0), .slice A480_1 ((rd_T72 l0_0 x25_2).f1).length c480_1] 72 (0, 0)) (bk BK481.out) hb)
                 replace HB := am (below_step bS hb)
                 (try clear hb)
                 (try clear hb2)
                 (try clear hk)
                 (try clear hi)
                 obtain ⟨Ao37, co37, eo37⟩ := Kd.R_slice HO484.out
                 (first | subst eo37 | (injection eo37 with f1_ f2_ f3_; have f4_ := f1_.symm; have f5_ := f3_.symm; clear f1_ f2_ f3_; subst f4_; subst f5_))
                 refine hK.out _ _ ⟨(blk_cell BK481.out 0).trans rfl, (blk_cell BK481.out 1).trans rfl, (blk_cell BK479.out 0).trans rfl, (blk_cell BK479.out 1).trans rfl, (blk_cell BK479.out 2).trans rfl, ((HB.out.cell (World.block_lt_of_cell? w _ hw486_0)).trans hw486_0), ((HB.out.cell (World.block_lt_of_cell? w _ hw486_1)).trans hw486_1)⟩ (fun hHeld => ?_)
                 clear hK K
                 refine norm_ (a' := ?_) ?_ ?_
                 rotate_left
                 ·show Act.put _ (some 35) _ = _
                  simp only [Act.put, List.setIfInBounds_toArray, List.set_cons_zero, List.set_cons_succ, i64_w, i32_w]
                  rfl
                 refine pq 3 36 HT_.out ?_
                 refine pq 4 37 HT_.out ?_
                 refine pq 5 38 HT_.out ?_
                 refine pq 6 39 HT_.out ?_
                 refine pq 7 40 HT_.out ?_
                 refine pq 8 41 HT_.out ?_
                 refine pq 9 42 HT_.out ?_
                 refine pq 10 43 HT_.out ?_
                 refine pq 11 44 HT_.out ?_
                 refine pq 12 45 HT_.out ?_
                 refine pq 13 46 HT_.out ?_
                 refine pq 14 47 HT_.out ?_
                 refine pq 15 48 HT_.out ?_
                 refine pq 16 49 HT_.out ?_
                 refine pq 17 50 HT_.out ?_
                 refine pq 18 51 HT_.out ?_
                 refine pq 20 53 HT_.out ?_
                 refine pq 21 54 HT_.out ?_
                 refine pq 25 58 HT_.out ?_
                 refine take_ (i := 19) (N := some 52) (v := ?_) (a' := ?_) #[true, true, true, true, true, true, true, true, true, true, true, true, true, true, true, true, true, true, true, true, true, true, false, false, false, true, false, false, false, false, false, false, false, false, false, false] rfl rfl (take_ofW HT_.out HW_.out (by kernel_rfl)) (fun _ _ _ h => h) (Or.inl ⟨by rfl, ?_⟩) hHeld ?_ ?_
                 rotate_left
                 ·rintro w' ⟨s0, s1, s2, s3, s4, s5, s6⟩
                  go_simp
                  with_reducible rfl
                 rotate_left
                 ·simp only [Act.put, List.setIfInBounds_toArray, List.set_cons_zero, List.set_cons_succ, i64_w, i32_w]
                  rfl
                 refine pq 22 55 HT_.out ?_
                 refine pq 23 56 HT_.out ?_
                 refine take_ (i := 24) (N := some 57) (v := ?_) (a' := ?_) #[true, true, true, true, true, true, true, true, true, true, true, true, true, true, true, true, true, true, true, true, true, true, true, true, true, true, false, false, false, false, false, false, false, false, false, false] rfl rfl (take_ofW HT_.out HW_.out (by kernel_rfl)) (fun _ _ _ h => h) (Or.inl ⟨by rfl, ?_⟩) hHeld ?_ ?_
                 rotate_left
                 ·rintro w' ⟨s0, s1, s2, s3, s4, s5, s6⟩
                  go_simp
                  with_reducible rfl
                 rotate_left
                 ·simp only [Act.put, List.setIfInBounds_toArray, List.set_cons_zero, List.set_cons_succ, i64_w, i32_w]
                  rfl
                 refine take_ (i := 26) (N := some 59) (v := ?_) (a' := ?_) #[true, true, true, true, true, true, true, true, true, true, true, true, true, true, true, true, true, true, true, true, true, true, true, true, true, true, true, false, false, false, false, false, false, false, false, false] rfl rfl (take_ofW HT_.out HW_.out (by kernel_rfl)) (fun _ _ _ h => h) (Or.inl ⟨by rfl, ?_⟩) hHeld ?_ ?_
                 rotate_left
                 ·rintro w' ⟨s0, s1, s2, s3, s4, s5, s6⟩
                  go_simp
                  with_reducible rfl
                 rotate_left
                 ·simp only [Act.put, List.setIfInBounds_toArray, List.set_cons_zero, List.set_cons_succ, i64_w, i32_w]
                  rfl
                 refine pq 27 60 HT_.out ?_
                 refine pq 28 61 HT_.out ?_
                 refine pq 29 62 HT_.out ?_
                 refine pq 30 63 HT_.out ?_
                 refine pq 31 64 HT_.out ?_
                 refine take_ (i := 32) (N := some 65) (v := ?_) (a' := ?_) #[true, true, true, true, true, true, true, true, true, true, true, true, true, true, true, true, true, true, true, true, true, true, true, true, true, true, true, true, true, true, true, true, true, false, false, false] rfl rfl (take_ofW HT_.out HW_.out (by kernel_rfl)) (fun _ _ _ h => h) (Or.inl ⟨by rfl, ?_⟩) hHeld ?_ ?_
                 rotate_left
                 ·rintro w' ⟨s0, s1, s2, s3, s4, s5, s6⟩
                  go_simp
                  with_reducible rfl
                 rotate_left
                 ·simp only [Act.put, List.setIfInBounds_toArray, List.set_cons_zero, List.set_cons_succ, i64_w, i32_w]
                  rfl
                 refine pq 33 66 HT_.out ?_
                 refine pq 34 67 HT_.out ?_
                 refine pq 35 68 HT_.out ?_
                 refine done_ (done_of HT_.out (by kernel_rfl)) ?_
                 try go_wp2
                 go_meet
                 case rel => exact ⟨_, (decide ((((rd_T72 l0_0 x25_2).f1).length : Int) > 20)), (by first | rfl | (simp; done) | (simp [*]; done)), H', ⟨by have := HJ1.out; have := HK2.out; first | omega | exact Nat.le_refl _⟩, ⟨bk BK479.out⟩, ⟨bk BK481.out⟩, ⟨bS⟩⟩
                ·rw [if_neg c34] at H
                 have c34b0 : (Op.bytesLess (((rd_T72 l0_0 (ji31)).f0).toList) (((rd_T72 l0_0 x25_2).f0).toList)) = false := by simpa using c34
                 clear c34
                 have H' := am H
                 clear H
                 try go_wp2
                 replace HO484 := am (Kd.R_drew HO484.out)
                 replace BK479 := am (blk_drew BK479.out)
                 replace BK481 := am (blk_drew BK481.out)
                 replace HB := am (below_drew1 HB.out)
                 have p486 : 0 ≤ ((ji31) : Int) := od
                 have q486 : (ji31) < (l0_0.length : Int) := od
                 obtain ⟨ad486, A486_1, c486_1, e486, hx486_0, hx486_1, hl486_1, hi486_1⟩ := at_T72 HR0_0.out (ji31) p486 q486
                 have hw486_1 := hx486_1
                 have hw486_0 := hx486_0
                 obtain rfl : ad480 = ad486 := (by injection e486)
                 replace hx486_0 := (HB.out.cell (World.block_lt_of_cell? w _ hx486_0)).trans hx486_0
                 replace hx486_1 := (HB.out.cell (World.block_lt_of_cell? w _ hx486_1)).trans hx486_1
                 have HR486_1 := am hi486_1
                 have HC486_1 := am hl486_1
                 clear hi486_1 hl486_1
                 replace p486 := eq_true p486
                 replace q486 := eq_true q486
                 refine start_ (n := 36) (S := fun w' => w'.cell? ⟨gb481, 0, none⟩ = some (.string ((rd_T72 l0_0 x25_2).f0)) ∧ w'.cell? ⟨gb481, 1, none⟩ = some (.slice A480_1 ((rd_T72 l0_0 x25_2).f1).length c480_1) ∧ w'.cell? ⟨gb479, 0, none⟩ = some (.slice (some ad480) l0_0.length c0_0) ∧ w'.cell? ⟨gb479, 1, none⟩ = some (.int .i64 a0_1) ∧ w'.cell? ⟨gb479, 2, none⟩ = some (.bool a0_2) ∧ w'.cell? (ad480.add (((ji31)).toNat * 2)) = some (.string ((rd_T72 l0_0 (ji31)).f0)) ∧ w'.cell? ⟨(ad480.add (((ji31)).toNat * 2)).block, (ad480.add (((ji31)).toNat * 2)).off + 1, none⟩ = some (.slice A486_1 ((rd_T72 l0_0 (ji31)).f1).length c486_1)) (ds := []) #[false, false, false, false, false, false, false, false, false, false, false, false, false, false, false, false, false, false, false, false, false, false, false, false, false, false, false, false, false, false, false, false, false, false, false, false] (by kernel_rfl) rfl rfl ⟨(blk_cell BK481.out 0).trans rfl, (blk_cell BK481.out 1).trans rfl, (blk_cell BK479.out 0).trans rfl, (blk_cell BK479.out 1).trans rfl, (blk_cell BK479.out 2).trans rfl, ((HB.out.cell (World.block_lt_of_cell? w _ hw486_0)).trans hw486_0), ((HB.out.cell (World.block_lt_of_cell? w _ hw486_1)).trans hw486_1)⟩ (fun hHeld => ?_); refine with_tabW impl_CollatorFault.tab7 impl_CollatorFault.bits7 (fun HT_ HW_ => ?_)
                 generalize w19.drew = w38 at HO484 BK479 BK481 HB HR486_1 hx486_0 hx486_1 hHeld ⊢
                 refine pq 0 33 HT_.out ?_
                 refine take_ (i := 1) (N := some 34) (v := ?_) (a' := ?_) #[true, true, false, false, false, false, false, false, false, false, false, false, false, false, false, false, false, false, false, false, false, false, false, false, false, false, false, false, false, false, false, false, false, false, false, false] rfl rfl (take_ofW HT_.out HW_.out (by kernel_rfl)) (fun _ _ _ h => h) (Or.inl ⟨by rfl, ?_⟩) hHeld ?_ ?_
                 rotate_left
                 ·rintro w' ⟨s0, s1, s2, s3, s4, s5, s6⟩
                  go_simp
                  with_reducible rfl
                 rotate_left
                 ·simp only [Act.put, List.setIfInBounds_toArray, List.set_cons_zero, List.set_cons_succ, i64_w, i32_w]
                  rfl
                 refine one_ (i := 2) (N := some 35) #[true, true, true, false, false, false, false, false, false, false, false, false, false, false, false, false, false, false, false, false, false, false, false, false, false, false, false, false, false, false, false, false, false, false, false, false] rfl rfl (one_of HT_.out (by kernel_rfl)) (by decide) (fun K hK => ?_)
                 refine goes_ Tryd.func15 (by kernel_rfl) rfl #[.int .i64 1, .string ((rd_T72 l0_0 x25_2).f0)] (by rfl) rfl rfl (by (try simp only [List.map_toArray, List.map_cons, List.map_nil]); first | done | rfl | (simp only [List.length_drop, List.length_take]; rfl)) ?_
                 with_reducible refine (impl_IsNormal.calls k2 1 ((rd_T72 l0_0 x25_2).f0) true _ ?side1 A20.out).mono ?_
                 (case side1 => first | exact HGL.out | exact GL_below HGL.out bS)
                 rintro e w39 ⟨rfl, hb⟩
                 refine ⟨_, rfl, ?_⟩
                 replace HO484 := am (Kd.R_below (kR HO484.out) hb)
                 replace BK479 := am (blk_below (g := gb479) (o := .cells #[.slice (some ad480) l0_0.length c0_0, .int .i64 a0_1, .bool a0_2] 48 (0, 0)) (bk BK479.out) hb)
                 replace BK481 := am (blk_below (g := gb481) (o := .cells #[.string ((rd_T72 l0_0 x25_2).f0), .slice A480_1 ((rd_T72 l0_0 x25_2).f1).length c480_1] 72 (0, 0)) (bk BK481.out) hb)
                 replace HB := am (below_step bS hb)
                 (try clear hb)
                 (try clear hb2)
                 (try clear hk)
                 (try clear hi)
                 obtain ⟨Ao40, co40, eo40⟩ := Kd.R_slice HO484.out
                 (first | subst eo40 | (injection eo40 with f1_ f2_ f3_; have f4_ := f1_.symm; have f5_ := f3_.symm; clear f1_ f2_ f3_; subst f4_; subst f5_))
                 refine hK.out _ _ ⟨(blk_cell BK481.out 0).trans rfl, (blk_cell BK481.out 1).trans rfl, (blk_cell BK479.out 0).trans rfl, (blk_cell BK479.out 1).trans rfl, (blk_cell BK479.out 2).trans rfl, ((HB.out.cell (World.block_lt_of_cell? w _ hw486_0)).trans hw486_0), ((HB.out.cell (World.block_lt_of_cell? w _ hw486_1)).trans hw486_1)⟩ (fun hHeld => ?_)
                 clear hK K
                 refine norm_ (a' := ?_) ?_ ?_
                 rotate_left
                 ·show Act.put _ (some 35) _ = _
                  simp only [Act.put, List.setIfInBounds_toArray, List.set_cons_zero, List.set_cons_succ, i64_w, i32_w]
                  rfl
                 refine pq 3 36 HT_.out ?_
                 refine pq 4 37 HT_.out ?_
                 refine pq 5 38 HT_.out ?_
                 refine pq 6 39 HT_.out ?_
                 refine pq 7 40 HT_.out ?_
                 refine pq 8 41 HT_.out ?_
                 refine pq 9 42 HT_.out ?_
                 refine pq 10 43 HT_.out ?_
                 refine pq 11 44 HT_.out ?_
                 refine pq 12 45 HT_.out ?_
                 refine pq 13 46 HT_.out ?_
                 refine pq 14 47 HT_.out ?_
                 refine pq 15 48 HT_.out ?_
                 refine pq 16 49 HT_.out ?_
                 refine pq 17 50 HT_.out ?_
                 refine pq 18 51 HT_.out ?_
                 refine pq 20 53 HT_.out ?_
                 refine pq 21 54 HT_.out ?_
                 refine pq 25 58 HT_.out ?_
                 refine take_ (i := 19) (N := some 52) (v := ?_) (a' := ?_) #[true, true, true, true, true, true, true, true, true, true, true, true, true, true, true, true, true, true, true, true, true, true, false, false, false, true, false, false, false, false, false, false, false, false, false, false] rfl rfl (take_ofW HT_.out HW_.out (by kernel_rfl)) (fun _ _ _ h => h) (Or.inl ⟨by rfl, ?_⟩) hHeld ?_ ?_
                 rotate_left
                 ·rintro w' ⟨s0, s1, s2, s3, s4, s5, s6⟩
                  go_simp
                  with_reducible rfl
                 rotate_left
                 ·simp only [Act.put, List.setIfInBounds_toArray, List.set_cons_zero, List.set_cons_succ, i64_w, i32_w]
                  rfl
                 refine pq 22 55 HT_.out ?_
                 refine pq 23 56 HT_.out ?_
                 refine take_ (i := 24) (N := some 57) (v := ?_) (a' := ?_) #[true, true, true, true, true, true, true, true, true, true, true, true, true, true, true, true, true, true, true, true, true, true, true, true, true, true, false, false, false, false, false, false, false, false, false, false] rfl rfl (take_ofW HT_.out HW_.out (by kernel_rfl)) (fun _ _ _ h => h) (Or.inl ⟨by rfl, ?_⟩) hHeld ?_ ?_
                 rotate_left
                 ·rintro w' ⟨s0, s1, s2, s3, s4, s5, s6⟩
                  go_simp
                  with_reducible rfl
                 rotate_left
                 ·simp only [Act.put, List.setIfInBounds_toArray, List.set_cons_zero, List.set_cons_succ, i64_w, i32_w]
                  rfl
                 refine take_ (i := 26) (N := some 59) (v := ?_) (a' := ?_) #[true, true, true, true, true, true, true, true, true, true, true, true, true, true, true, true, true, true, true, true, true, true, true, true, true, true, true, false, false, false, false, false, false, false, false, false] rfl rfl (take_ofW HT_.out HW_.out (by kernel_rfl)) (fun _ _ _ h => h) (Or.inl ⟨by rfl, ?_⟩) hHeld ?_ ?_
                 rotate_left
                 ·rintro w' ⟨s0, s1, s2, s3, s4, s5, s6⟩
                  go_simp
                  with_reducible rfl
                 rotate_left
                 ·simp only [Act.put, List.setIfInBounds_toArray, List.set_cons_zero, List.set_cons_succ, i64_w, i32_w]
                  rfl
                 refine pq 27 60 HT_.out ?_
                 refine pq 28 61 HT_.out ?_
                 refine pq 29 62 HT_.out ?_
                 refine pq 30 63 HT_.out ?_
                 refine pu 31 64 HT_.out ?_
                 refine pu 32 65 HT_.out ?_
                 refine pu 33 66 HT_.out ?_
                 refine pu 34 67 HT_.out ?_
                 refine pq 35 68 HT_.out ?_
                 refine done_ (done_of HT_.out (by kernel_rfl)) ?_
                 try go_wp2
                 go_meet
                 case rel => exact ⟨_, (true), (by first | rfl | (simp; done) | (simp [*]; done)), H', ⟨by have := HJ1.out; have := HK2.out; first | omega | exact Nat.le_refl _⟩, ⟨bk BK479.out⟩, ⟨bk BK481.out⟩, ⟨bS⟩⟩
               ·rw [if_neg c33] at H
                exact absurd H (by simp)
              ·rw [if_neg c32] at H
               exact absurd H (by simp)
             ·rw [if_neg c30] at H
              have c30b0 : decide (0 < x25_2) = false := decide_eq_false c30
              clear c30
              have H' := am H
              clear H
              try go_wp2
              replace HO484 := am (Kd.R_drew HO484.out)
              replace BK479 := am (blk_drew BK479.out)
              replace BK481 := am (blk_drew BK481.out)
              replace HB := am (below_drew1 HB.out)
              refine start_ (n := 36) (S := fun w' => w'.cell? ⟨gb481, 0, none⟩ = some (.string ((rd_T72 l0_0 x25_2).f0)) ∧ w'.cell? ⟨gb481, 1, none⟩ = some (.slice A480_1 ((rd_T72 l0_0 x25_2).f1).length c480_1)) (ds := []) #[false, false, false, false, false, false, false, false, false, false, false, false, false, false, false, false, false, false, false, false, false, false, false, false, false, false, false, false, false, false, false, false, false, false, false, false] (by kernel_rfl) rfl rfl ⟨(blk_cell BK481.out 0).trans rfl, (blk_cell BK481.out 1).trans rfl⟩ (fun hHeld => ?_); refine with_tabW impl_CollatorFault.tab7 impl_CollatorFault.bits7 (fun HT_ HW_ => ?_)
              generalize w19.drew = w41 at HO484 BK479 BK481 HB hHeld ⊢
              refine pq 0 33 HT_.out ?_
              refine take_ (i := 1) (N := some 34) (v := ?_) (a' := ?_) #[true, true, false, false, false, false, false, false, false, false, false, false, false, false, false, false, false, false, false, false, false, false, false, false, false, false, false, false, false, false, false, false, false, false, false, false] rfl rfl (take_ofW HT_.out HW_.out (by kernel_rfl)) (fun _ _ _ h => h) (Or.inl ⟨by rfl, ?_⟩) hHeld ?_ ?_
              rotate_left
              ·rintro w' ⟨s0, s1⟩
               go_simp
               with_reducible rfl
              rotate_left
              ·simp only [Act.put, List.setIfInBounds_toArray, List.set_cons_zero, List.set_cons_succ, i64_w, i32_w]
               rfl
              refine one_ (i := 2) (N := some 35) #[true, true, true, false, false, false, false, false, false, false, false, false, false, false, false, false, false, false, false, false, false, false, false, false, false, false, false, false, false, false, false, false, false, false, false, false] rfl rfl (one_of HT_.out (by kernel_rfl)) (by decide) (fun K hK => ?_)
              refine goes_ Tryd.func15 (by kernel_rfl) rfl #[.int .i64 1, .string ((rd_T72 l0_0 x25_2).f0)] (by rfl) rfl rfl (by (try simp only [List.map_toArray, List.map_cons, List.map_nil]); first | done | rfl | (simp only [List.length_drop, List.length_take]; rfl)) ?_
              with_reducible refine (impl_IsNormal.calls k2 1 ((rd_T72 l0_0 x25_2).f0) true _ ?side1 A20.out).mono ?_
              (case side1 => first | exact HGL.out | exact GL_below HGL.out bS)
              rintro e w42 ⟨rfl, hb⟩
              refine ⟨_, rfl, ?_⟩
              replace HO484 := am (Kd.R_below (kR HO484.out) hb)
              replace BK479 := am (blk_below (g := gb479) (o := .cells #[.slice (some ad480) l0_0.length c0_0, .int .i64 a0_1, .bool a0_2] 48 (0, 0)) (bk BK479.out) hb)
              replace BK481 := am (blk_below (g := gb481) (o := .cells #[.string ((rd_T72 l0_0 x25_2).f0), .slice A480_1 ((rd_T72 l0_0 x25_2).f1).length c480_1] 72 (0, 0)) (bk BK481.out) hb)
              replace HB := am (below_step bS hb)
              (try clear hb)
              (try clear hb2)
              (try clear hk)
              (try clear hi)
              obtain ⟨Ao43, co43, eo43⟩ := Kd.R_slice HO484.out
              (first | subst eo43 | (injection eo43 with f1_ f2_ f3_; have f4_ := f1_.symm; have f5_ := f3_.symm; clear f1_ f2_ f3_; subst f4_; subst f5_))
              refine hK.out _ _ ⟨(blk_cell BK481.out 0).trans rfl, (blk_cell BK481.out 1).trans rfl⟩ (fun hHeld => ?_)
              clear hK K
              refine norm_ (a' := ?_) ?_ ?_
              rotate_left
              ·show Act.put _ (some 35) _ = _
               simp only [Act.put, List.setIfInBounds_toArray, List.set_cons_zero, List.set_cons_succ, i64_w, i32_w]
               rfl
              refine pq 3 36 HT_.out ?_
              refine pq 4 37 HT_.out ?_
              refine pq 5 38 HT_.out ?_
              refine pq 6 39 HT_.out ?_
              refine pq 7 40 HT_.out ?_
              refine pq 8 41 HT_.out ?_
              refine pq 9 42 HT_.out ?_
              refine pq 10 43 HT_.out ?_
              refine pq 11 44 HT_.out ?_
              refine pq 12 45 HT_.out ?_
              refine pq 13 46 HT_.out ?_
              refine pq 14 47 HT_.out ?_
              refine pq 15 48 HT_.out ?_
              refine pq 16 49 HT_.out ?_
              refine pq 17 50 HT_.out ?_
              refine pu 18 51 HT_.out ?_
              refine pu 19 52 HT_.out ?_
              refine pu 20 53 HT_.out ?_
              refine pu 21 54 HT_.out ?_
              refine pu 22 55 HT_.out ?_
              refine pu 23 56 HT_.out ?_
              refine pu 24 57 HT_.out ?_
              refine pu 25 58 HT_.out ?_
              refine pu 26 59 HT_.out ?_
              refine pu 27 60 HT_.out ?_
              refine pq 28 61 HT_.out ?_
              refine pq 29 62 HT_.out ?_
              refine pq 30 63 HT_.out ?_
              refine pq 31 64 HT_.out ?_
              refine take_ (i := 32) (N := some 65) (v := ?_) (a' := ?_) #[true, true, true, true, true, true, true, true, true, true, true, true, true, true, true, true, true, true, true, true, true, true, true, true, true, true, true, true, true, true, true, true, true, false, false, false] rfl rfl (take_ofW HT_.out HW_.out (by kernel_rfl)) (fun _ _ _ h => h) (Or.inl ⟨by rfl, ?_⟩) hHeld ?_ ?_
              rotate_left
              ·rintro w' ⟨s0, s1⟩
               go_simp
               with_reducible rfl
              rotate_left
              ·simp only [Act.put, List.setIfInBounds_toArray, List.set_cons_zero, List.set_cons_succ, i64_w, i32_w]
               rfl
              refine pq 33 66 HT_.out ?_
              refine pq 34 67 HT_.out ?_
              refine pq 35 68 HT_.out ?_
              refine done_ (done_of HT_.out (by kernel_rfl)) ?_
              try go_wp2
              go_meet
              case rel => exact ⟨_, (decide ((((rd_T72 l0_0 x25_2).f1).length : Int) > 20)), (by first | rfl | (simp; done) | (simp [*]; done)), H', ⟨by have := HJ1.out; have := HK2.out; first | omega | exact Nat.le_refl _⟩, ⟨bk BK479.out⟩, ⟨bk BK481.out⟩, ⟨bS⟩⟩
          ·replace c21 := Bool.eq_false_iff.mpr c21
           subst c21
           have H1 : (impl_CollatorFault.j2 k2 l0_0 (l0_0.length : Int) x25_2 true l0_0 a0_1 a0_2 ((rd_T72 l0_0 x25_2).f0) ((rd_T72 l0_0 x25_2).f1)) = some r := by rw [if_neg (show ¬ (false = true) by decide)] at H; exact H
           clear H
           have H := H1
           clear H1
           have H' := am H
           clear H
           try go_wp2
           replace HO484 := am (Kd.R_drew HO484.out)
           replace BK479 := am (blk_drew BK479.out)
           replace BK481 := am (blk_drew BK481.out)
           replace HB := am (below_drew1 HB.out)
           refine start_ (n := 36) (S := fun w' => w'.cell? ⟨gb481, 0, none⟩ = some (.string ((rd_T72 l0_0 x25_2).f0)) ∧ w'.cell? ⟨gb481, 1, none⟩ = some (.slice A480_1 ((rd_T72 l0_0 x25_2).f1).length c480_1)) (ds := []) #[false, false, false, false, false, false, false, false, false, false, false, false, false, false, false, false, false, false, false, false, false, false, false, false, false, false, false, false, false, false, false, false, false, false, false, false] (by kernel_rfl) rfl rfl ⟨(blk_cell BK481.out 0).trans rfl, (blk_cell BK481.out 1).trans rfl⟩ (fun hHeld => ?_); refine with_tabW impl_CollatorFault.tab7 impl_CollatorFault.bits7 (fun HT_ HW_ => ?_)
           generalize w19.drew = w44 at HO484 BK479 BK481 HB hHeld ⊢
           refine pq 0 33 HT_.out ?_
           refine take_ (i := 1) (N := some 34) (v := ?_) (a' := ?_) #[true, true, false, false, false, false, false, false, false, false, false, false, false, false, false, false, false, false, false, false, false, false, false, false, false, false, false, false, false, false, false, false, false, false, false, false] rfl rfl (take_ofW HT_.out HW_.out (by kernel_rfl)) (fun _ _ _ h => h) (Or.inl ⟨by rfl, ?_⟩) hHeld ?_ ?_
           rotate_left
           ·rintro w' ⟨s0, s1⟩
            go_simp
            with_reducible rfl
           rotate_left
           ·simp only [Act.put, List.setIfInBounds_toArray, List.set_cons_zero, List.set_cons_succ, i64_w, i32_w]
            rfl
           refine one_ (i := 2) (N := some 35) #[true, true, true, false, false, false, false, false, false, false, false, false, false, false, false, false, false, false, false, false, false, false, false, false, false, false, false, false, false, false, false, false, false, false, false, false] rfl rfl (one_of HT_.out (by kernel_rfl)) (by decide) (fun K hK => ?_)
           refine goes_ Tryd.func15 (by kernel_rfl) rfl #[.int .i64 1, .string ((rd_T72 l0_0 x25_2).f0)] (by rfl) rfl rfl (by (try simp only [List.map_toArray, List.map_cons, List.map_nil]); first | done | rfl | (simp only [List.length_drop, List.length_take]; rfl)) ?_
           with_reducible refine (impl_IsNormal.calls k2 1 ((rd_T72 l0_0 x25_2).f0) false _ ?side1 A20.out).mono ?_
           (case side1 => first | exact HGL.out | exact GL_below HGL.out bS)
           rintro e w45 ⟨rfl, hb⟩
           refine ⟨_, rfl, ?_⟩
           replace HO484 := am (Kd.R_below (kR HO484.out) hb)
           replace BK479 := am (blk_below (g := gb479) (o := .cells #[.slice (some ad480) l0_0.length c0_0, .int .i64 a0_1, .bool a0_2] 48 (0, 0)) (bk BK479.out) hb)
           replace BK481 := am (blk_below (g := gb481) (o := .cells #[.string ((rd_T72 l0_0 x25_2).f0), .slice A480_1 ((rd_T72 l0_0 x25_2).f1).length c480_1] 72 (0, 0)) (bk BK481.out) hb)
           replace HB := am (below_step bS hb)
           (try clear hb)
           (try clear hb2)
           (try clear hk)
           (try clear hi)
           refine hK.out _ _ ⟨(blk_cell BK481.out 0).trans rfl, (blk_cell BK481.out 1).trans rfl⟩ (fun hHeld => ?_)
           clear hK K
           refine norm_ (a' := ?_) ?_ ?_
           rotate_left
           ·show Act.put _ (some 35) _ = _
            simp only [Act.put, List.setIfInBounds_toArray, List.set_cons_zero, List.set_cons_succ, i64_w, i32_w]
            rfl
           refine pq 3 36 HT_.out ?_
           refine pq 4 37 HT_.out ?_
           refine pu 5 38 HT_.out ?_
           refine pu 6 39 HT_.out ?_
           refine pu 7 40 HT_.out ?_
           refine pq 8 41 HT_.out ?_
           refine pq 9 42 HT_.out ?_
           refine pu 10 43 HT_.out ?_
           refine pu 11 44 HT_.out ?_
           refine pu 12 45 HT_.out ?_
           refine pq 13 46 HT_.out ?_
           refine pq 14 47 HT_.out ?_
           refine pu 15 48 HT_.out ?_
           refine pu 16 49 HT_.out ?_
           refine pu 17 50 HT_.out ?_
           refine pu 18 51 HT_.out ?_
           refine pu 19 52 HT_.out ?_
           refine pu 20 53 HT_.out ?_
           refine pu 21 54 HT_.out ?_
           refine pu 22 55 HT_.out ?_
           refine pu 23 56 HT_.out ?_
           refine pu 24 57 HT_.out ?_
           refine pu 25 58 HT_.out ?_
           refine pu 26 59 HT_.out ?_
           refine pu 27 60 HT_.out ?_
           refine pu 28 61 HT_.out ?_
           refine pq 29 62 HT_.out ?_
           refine pq 30 63 HT_.out ?_
           refine pu 31 64 HT_.out ?_
           refine pu 32 65 HT_.out ?_
           refine pu 33 66 HT_.out ?_
           refine pu 34 67 HT_.out ?_
           refine pq 35 68 HT_.out ?_
           refine done_ (done_of HT_.out (by kernel_rfl)) ?_
           try go_wp2
           go_meet
           case rel => exact ⟨_, (true), (by first | rfl | (simp; done) | (simp [*]; done)), H', ⟨by have := HJ1.out; have := HK2.out; first | omega | exact Nat.le_refl _⟩, ⟨bk BK479.out⟩, ⟨bk BK481.out⟩, ⟨bS⟩⟩
         case rest =>
          clear HC15
          try clear c1
          try clear c2
          try clear p2
          try clear c3
          try clear c4
          try clear c15
          try clear c21
          try clear c30
          try clear c30b0
          try clear c32
          try clear c33
          obtain ⟨kq, x68_14, rfl, HA, HJ14, BK479, BK481, HB⟩ := hcut
          cases kq with
          | zero => exact absurd HA.out (by simp [impl_CollatorFault.j2])
          | succ kj14 =>
           have H := HA.out
           clear HA
           simp only [impl_CollatorFault.j2] at H
           by_cases c46 : x68_14 = true
           ·subst c46
            have H1 : (some 1) = some r := by rw [if_pos rfl] at H; exact H
            clear H
            have H := H1
            clear H1
            obtain rfl := Option.some.inj H
            go_wp2
            go_ret
            exact ⟨rv, bS⟩
           ·replace c46 := Bool.eq_false_iff.mpr c46
            subst c46
            have H1 : (impl_CollatorFault.l1 kj14 l0_0 (l0_0.length : Int) x25_2 ((rd_T72 l0_0 x25_2).f1) (((rd_T72 l0_0 x25_2).f1).length : Int) 0 l0_0 a0_1 a0_2) = some r := by rw [if_neg (show ¬ (false = true) by decide)] at H; exact H
            clear H
            have H := H1
            clear H1
            have H' := am H
            clear H
            have hnb47 := NB481_479.out
            have hnc47 := NB479_481.out
            have hcz48_0 := bc BK481.out 0 (.string ((rd_T72 l0_0 x25_2).f0))
            have hcz48_1 := bc BK481.out 1 (.slice A480_1 ((rd_T72 l0_0 x25_2).f1).length c480_1)
            have hfz48_0 := blk_frozen BK481.out 0
            have hfz48_1 := blk_frozen BK481.out 1
            go_wp2
            go_loopg [72] kj14 (fun kq v72 w' => ∃ (x72_4 : Int), v72 = .int .i64 x72_4 ∧ Aside0 (impl_CollatorFault.l1 kq l0_0 (l0_0.length : Int) x25_2 ((rd_T72 l0_0 x25_2).f1) (((rd_T72 l0_0 x25_2).f1).length : Int) x72_4 l0_0 a0_1 a0_2 = some r) ∧ Aside0 (kq ≤ kj14) ∧ Aside0 (w'.heap[gb479]? = some (.cells #[(.slice (some ad480) l0_0.length c0_0), .int .i64 a0_1, .bool a0_2] 48 (0, 0))) ∧ Aside0 (w'.heap[gb481]? = some (.cells #[.string ((rd_T72 l0_0 x25_2).f0), (.slice A480_1 ((rd_T72 l0_0 x25_2).f1).length c480_1)] 72 (0, 0))) ∧ Aside0 (Below w.heap.size w w'))
            case atStart => exact ⟨(0), (by first | rfl | (simp; done) | (simp [*]; done)), H', ⟨Nat.le_refl _⟩, ⟨bk BK479.out⟩, ⟨bk BK481.out⟩, ⟨bS⟩⟩
            case round =>
             clear H'
             try clear c1
             try clear c2
             try clear p2
             try clear c3
             try clear c4
             try clear c15
             try clear c21
             try clear c30
             try clear c30b0
             try clear c32
             try clear c33
             try clear c46
             try clear c47
             try clear c48
             try clear hcz48_0
             try clear hcz48_1
             try clear hfz48_0
             try clear hfz48_1
             try clear p2
             obtain ⟨x72_4, rfl, HA, HK4, BK479, BK481, HB⟩ := hrel
             cases gk with
             | zero => exact absurd HA.out (by simp [impl_CollatorFault.l1])
             | succ k4 =>
              have H := HA.out
              clear HA
              simp only [impl_CollatorFault.l1] at H
              by_cases c49 : x72_4 < (((rd_T72 l0_0 x25_2).f1).length : Int)
              ·rw [if_pos c49] at H
               have c49b0 : decide (x72_4 < (((rd_T72 l0_0 x25_2).f1).length : Int)) = true := decide_eq_true c49
               clear c49
               by_cases c50 : 0 ≤ x72_4
               ·rw [if_pos c50] at H
                have c50b0 : decide (0 ≤ x72_4) = true := decide_eq_true c50
                clear c50
                by_cases c51 : x72_4 < (((rd_T72 l0_0 x25_2).f1).length : Int)
                ·rw [if_pos c51] at H
                 have c51b0 : decide (x72_4 < (((rd_T72 l0_0 x25_2).f1).length : Int)) = true := decide_eq_true c51
                 clear c51
                 replace H := Option.bind_eq_some_iff.mp H
                 obtain ⟨t489, A520, H⟩ := H
                 replace H : (if t489 = true then ((impl_in.f ((rd_T74 ((rd_T72 l0_0 x25_2).f1) x72_4).f1) 0 1000000000000).bind fun t490 => (if t490 = true then ((impl_in.f ((rd_T74 ((rd_T72 l0_0 x25_2).f1) x72_4).f2) 0 1000000000000).bind fun t491 => (if t491 = true then (impl_CollatorFault.l1 k4 l0_0 (l0_0.length : Int) x25_2 ((rd_T72 l0_0 x25_2).f1) (((rd_T72 l0_0 x25_2).f1).length : Int) (wrap64 (x72_4 + 1)) l0_0 a0_1 a0_2) else (some 1))) else (some 1))) else (some 1)) = some r := H
                 have A52 := am A520
                 clear A520
                 by_cases c53 : t489 = true
                 ·subst c53
                  have H1 : ((impl_in.f ((rd_T74 ((rd_T72 l0_0 x25_2).f1) x72_4).f1) 0 1000000000000).bind fun t490 => (if t490 = true then ((impl_in.f ((rd_T74 ((rd_T72 l0_0 x25_2).f1) x72_4).f2) 0 1000000000000).bind fun t491 => (if t491 = true then (impl_CollatorFault.l1 k4 l0_0 (l0_0.length : Int) x25_2 ((rd_T72 l0_0 x25_2).f1) (((rd_T72 l0_0 x25_2).f1).length : Int) (wrap64 (x72_4 + 1)) l0_0 a0_1 a0_2) else (some 1))) else (some 1))) = some r := by rw [if_pos rfl] at H; exact H
                  clear H
                  have H := H1
                  clear H1
                  replace H := Option.bind_eq_some_iff.mp H
                  obtain ⟨t490, A540, H⟩ := H
                  replace H : (if t490 = true then ((impl_in.f ((rd_T74 ((rd_T72 l0_0 x25_2).f1) x72_4).f2) 0 1000000000000).bind fun t491 => (if t491 = true then (impl_CollatorFault.l1 k4 l0_0 (l0_0.length : Int) x25_2 ((rd_T72 l0_0 x25_2).f1) (((rd_T72 l0_0 x25_2).f1).length : Int) (wrap64 (x72_4 + 1)) l0_0 a0_1 a0_2) else (some 1))) else (some 1)) = some r := H
                  have A54 := am A540
                  clear A540
                  by_cases c55 : t490 = true
                  ·subst c55
                   have H1 : ((impl_in.f ((rd_T74 ((rd_T72 l0_0 x25_2).f1) x72_4).f2) 0 1000000000000).bind fun t491 => (if t491 = true then (impl_CollatorFault.l1 k4 l0_0 (l0_0.length : Int) x25_2 ((rd_T72 l0_0 x25_2).f1) (((rd_T72 l0_0 x25_2).f1).length : Int) (wrap64 (x72_4 + 1)) l0_0 a0_1 a0_2) else (some 1))) = some r := by rw [if_pos rfl] at H; exact H
                   clear H
                   have H := H1
                   clear H1
                   replace H := Option.bind_eq_some_iff.mp H
                   obtain ⟨t491, A560, H⟩ := H
                   replace H : (if t491 = true then (impl_CollatorFault.l1 k4 l0_0 (l0_0.length : Int) x25_2 ((rd_T72 l0_0 x25_2).f1) (((rd_T72 l0_0 x25_2).f1).length : Int) (wrap64 (x72_4 + 1)) l0_0 a0_1 a0_2) else (some 1)) = some r := H
                   have A56 := am A560
                   clear A560
                   by_cases c57 : t491 = true
                   ·subst c57
                    have H1 : (impl_CollatorFault.l1 k4 l0_0 (l0_0.length : Int) x25_2 ((rd_T72 l0_0 x25_2).f1) (((rd_T72 l0_0 x25_2).f1).length : Int) (wrap64 (x72_4 + 1)) l0_0 a0_1 a0_2) = some r := by rw [if_pos rfl] at H; exact H
                    clear H
                    have H := H1
                    clear H1
                    have H' := am H
                    clear H
                    have p487 : 0 ≤ (x72_4 : Int) := od
                    have q487 : x72_4 < (((rd_T72 l0_0 x25_2).f1).length : Int) := od
                    obtain ⟨ad487, e487, hx487_0, hx487_1, hx487_2⟩ := at_T74 HR480_1.out x72_4 p487 q487
                    cases e487
                    replace hx487_0 := (HB.out.cell (World.block_lt_of_cell? w _ hx487_0)).trans hx487_0
                    replace hx487_1 := (HB.out.cell (World.block_lt_of_cell? w _ hx487_1)).trans hx487_1
                    replace hx487_2 := (HB.out.cell (World.block_lt_of_cell? w _ hx487_2)).trans hx487_2
                    replace p487 := eq_true p487
                    replace q487 := eq_true q487
                    go_wp2_with (first | ((with_reducible refine gate_dst (N := 7) rfl ?_); (try (refine gate_guard (by rfl) ?_; dsimp only)); refine bx 7 #[.int .i64 0, .int .i64 0, .int .i64 0] 74 ?_; intro gb488 hg w58 hbox hb; have BK488 := am (hbox); have GW488 := am ((by rw [hg]; exact (below_size bS) : w.heap.size ≤ gb488)); have GE488 := am ((by rw [hg]; exact (below_size bS) : w.heap.size ≤ gb488)); replace HB := am (below_step bS hb); have NB479_488 := am ((by rw [hg]; exact Nat.ne_of_lt (blk_lt (g := gb479) (o := .cells #[.slice (some ad480) l0_0.length c0_0, .int .i64 a0_1, .bool a0_2] 48 (0, 0)) (bk BK479.out)) : gb479 ≠ gb488)); have NB488_479 := am ((by rw [hg]; exact Nat.ne_of_gt (blk_lt (g := gb479) (o := .cells #[.slice (some ad480) l0_0.length c0_0, .int .i64 a0_1, .bool a0_2] 48 (0, 0)) (bk BK479.out)) : gb488 ≠ gb479)); replace BK479 := am (blk_below (g := gb479) (o := .cells #[.slice (some ad480) l0_0.length c0_0, .int .i64 a0_1, .bool a0_2] 48 (0, 0)) (bk BK479.out) hb); have NB481_488 := am ((by rw [hg]; exact Nat.ne_of_lt (blk_lt (g := gb481) (o := .cells #[.string ((rd_T72 l0_0 x25_2).f0), .slice (some ad487) ((rd_T72 l0_0 x25_2).f1).length c480_1] 72 (0, 0)) (bk BK481.out)) : gb481 ≠ gb488)); have NB488_481 := am ((by rw [hg]; exact Nat.ne_of_gt (blk_lt (g := gb481) (o := .cells #[.string ((rd_T72 l0_0 x25_2).f0), .slice (some ad487) ((rd_T72 l0_0 x25_2).f1).length c480_1] 72 (0, 0)) (bk BK481.out)) : gb488 ≠ gb481)); replace BK481 := am (blk_below (g := gb481) (o := .cells #[.string ((rd_T72 l0_0 x25_2).f0), .slice (some ad487) ((rd_T72 l0_0 x25_2).f1).length c480_1] 72 (0, 0)) (bk BK481.out) hb); clear hb hbox hg; have hnb59 := NB488_479.out; have hnc59 := NB479_488.out; have hnb60 := NB488_481.out; have hnc60 := NB481_488.out; have hcz61_0 := bc BK488.out 0 (.int .i64 0); have hcz61_1 := bc BK488.out 1 (.int .i64 0); have hcz61_2 := bc BK488.out 2 (.int .i64 0); have hfz61_0 := blk_frozen BK488.out 0; have hfz61_1 := blk_frozen BK488.out 1; have hfz61_2 := blk_frozen BK488.out 2) | ((with_reducible refine gate_callee (f := 67) rfl ?_); refine gl 78 Tryd.func67 #[.int .i64 ((rd_T74 ((rd_T72 l0_0 x25_2).f1) x72_4).f0), .int .i64 0, .int .i64 1000000000000] ?_; (with_reducible refine (impl_in.calls ((rd_T74 ((rd_T72 l0_0 x25_2).f1) x72_4).f0) 0 1000000000000 true _ A52.out).mono ?_); rintro e w' ⟨rfl, ⟨nd, rfl⟩⟩; refine ⟨_, rfl, ?_⟩) | (go_at_call 67; (with_reducible refine (impl_in.calls ((rd_T74 ((rd_T72 l0_0 x25_2).f1) x72_4).f1) 0 1000000000000 true _ A54.out).mono ?_); rintro e w' ⟨rfl, ⟨nd, rfl⟩⟩) | (go_at_call 67; (with_reducible refine (impl_in.calls ((rd_T74 ((rd_T72 l0_0 x25_2).f1) x72_4).f2) 0 1000000000000 true _ A56.out).mono ?_); rintro e w' ⟨rfl, ⟨nd, rfl⟩⟩))
                    go_roundg k4
                    case measure => have := HJ1.out; have := HK2.out; have := HJ14.out; have := HK4.out; omega
                    case rel => exact ⟨(wrap64 (x72_4 + 1)), (by first | rfl | (simp; done) | (simp [*]; done)), H', ⟨by have := HJ1.out; have := HK2.out; have := HJ14.out; have := HK4.out; omega⟩, ⟨by (with_reducible repeat (first | refine blk_drewN ?_ _ | refine blk_drew ?_ | refine blk_alloc ?_ _)); refine blk_far ?_ NB479_488.out _; (with_reducible repeat (first | refine blk_drewN ?_ _ | refine blk_drew ?_ | refine blk_alloc ?_ _)); refine blk_far ?_ NB479_488.out _; (with_reducible repeat (first | refine blk_drewN ?_ _ | refine blk_drew ?_ | refine blk_alloc ?_ _)); refine blk_far ?_ NB479_488.out _; (with_reducible repeat (first | refine blk_drewN ?_ _ | refine blk_drew ?_ | refine blk_alloc ?_ _)); exact BK479.out⟩, ⟨by (with_reducible repeat (first | refine blk_drewN ?_ _ | refine blk_drew ?_ | refine blk_alloc ?_ _)); refine blk_far ?_ NB481_488.out _; (with_reducible repeat (first | refine blk_drewN ?_ _ | refine blk_drew ?_ | refine blk_alloc ?_ _)); refine blk_far ?_ NB481_488.out _; (with_reducible repeat (first | refine blk_drewN ?_ _ | refine blk_drew ?_ | refine blk_alloc ?_ _)); refine blk_far ?_ NB481_488.out _; (with_reducible repeat (first | refine blk_drewN ?_ _ | refine blk_drew ?_ | refine blk_alloc ?_ _)); exact BK481.out⟩, ⟨bS⟩⟩
                   ·replace c57 := Bool.eq_false_iff.mpr c57
                    subst c57
                    have H1 : (some 1) = some r := by rw [if_neg (show ¬ (false = true) by decide)] at H; exact H
                    clear H
                    have H := H1
                    clear H1
                    obtain rfl := Option.some.inj H
                    have p487 : 0 ≤ (x72_4 : Int) := od
                    have q487 : x72_4 < (((rd_T72 l0_0 x25_2).f1).length : Int) := od
                    obtain ⟨ad487, e487, hx487_0, hx487_1, hx487_2⟩ := at_T74 HR480_1.out x72_4 p487 q487
                    cases e487
                    replace hx487_0 := (HB.out.cell (World.block_lt_of_cell? w _ hx487_0)).trans hx487_0
                    replace hx487_1 := (HB.out.cell (World.block_lt_of_cell? w _ hx487_1)).trans hx487_1
                    replace hx487_2 := (HB.out.cell (World.block_lt_of_cell? w _ hx487_2)).trans hx487_2
                    replace p487 := eq_true p487
                    replace q487 := eq_true q487
                    go_wp2_with (first | ((with_reducible refine gate_dst (N := 7) rfl ?_); (try (refine gate_guard (by rfl) ?_; dsimp only)); refine bx 7 #[.int .i64 0, .int .i64 0, .int .i64 0] 74 ?_; intro gb488 hg w62 hbox hb; have BK488 := am (hbox); have GW488 := am ((by rw [hg]; exact (below_size bS) : w.heap.size ≤ gb488)); have GE488 := am ((by rw [hg]; exact (below_size bS) : w.heap.size ≤ gb488)); replace HB := am (below_step bS hb); have NB479_488 := am ((by rw [hg]; exact Nat.ne_of_lt (blk_lt (g := gb479) (o := .cells #[.slice (some ad480) l0_0.length c0_0, .int .i64 a0_1, .bool a0_2] 48 (0, 0)) (bk BK479.out)) : gb479 ≠ gb488)); have NB488_479 := am ((by rw [hg]; exact Nat.ne_of_gt (blk_lt (g := gb479) (o := .cells #[.slice (some ad480) l0_0.length c0_0, .int .i64 a0_1, .bool a0_2] 48 (0, 0)) (bk BK479.out)) : gb488 ≠ gb479)); replace BK479 := am (blk_below (g := gb479) (o := .cells #[.slice (some ad480) l0_0.length c0_0, .int .i64 a0_1, .bool a0_2] 48 (0, 0)) (bk BK479.out) hb); have NB481_488 := am ((by rw [hg]; exact Nat.ne_of_lt (blk_lt (g := gb481) (o := .cells #[.string ((rd_T72 l0_0 x25_2).f0), .slice (some ad487) ((rd_T72 l0_0 x25_2).f1).length c480_1] 72 (0, 0)) (bk BK481.out)) : gb481 ≠ gb488)); have NB488_481 := am ((by rw [hg]; exact Nat.ne_of_gt (blk_lt (g := gb481) (o := .cells #[.string ((rd_T72 l0_0 x25_2).f0), .slice (some ad487) ((rd_T72 l0_0 x25_2).f1).length c480_1] 72 (0, 0)) (bk BK481.out)) : gb488 ≠ gb481)); replace BK481 := am (blk_below (g := gb481) (o := .cells #[.string ((rd_T72 l0_0 x25_2).f0), .slice (some ad487) ((rd_T72 l0_0 x25_2).f1).length c480_1] 72 (0, 0)) (bk BK481.out) hb); clear hb hbox hg; have hnb63 := NB488_479.out; have hnc63 := NB479_488.out; have hnb64 := NB488_481.out; have hnc64 := NB481_488.out; have hcz65_0 := bc BK488.out 0 (.int .i64 0); have hcz65_1 := bc BK488.out 1 (.int .i64 0); have hcz65_2 := bc BK488.out 2 (.int .i64 0); have hfz65_0 := blk_frozen BK488.out 0; have hfz65_1 := blk_frozen BK488.out 1; have hfz65_2 := blk_frozen BK488.out 2) | ((with_reducible refine gate_callee (f := 67) rfl ?_); refine gl 78 Tryd.func67 #[.int .i64 ((rd_T74 ((rd_T72 l0_0 x25_2).f1) x72_4).f0), .int .i64 0, .int .i64 1000000000000] ?_; (with_reducible refine (impl_in.calls ((rd_T74 ((rd_T72 l0_0 x25_2).f1) x72_4).f0) 0 1000000000000 true _ A52.out).mono ?_); rintro e w' ⟨rfl, ⟨nd, rfl⟩⟩; refine ⟨_, rfl, ?_⟩) | (go_at_call 67; (with_reducible refine (impl_in.calls ((rd_T74 ((rd_T72 l0_0 x25_2).f1) x72_4).f1) 0 1000000000000 true _ A54.out).mono ?_); rintro e w' ⟨rfl, ⟨nd, rfl⟩⟩) | (go_at_call 67; (with_reducible refine (impl_in.calls ((rd_T74 ((rd_T72 l0_0 x25_2).f1) x72_4).f2) 0 1000000000000 false _ A56.out).mono ?_); rintro e w' ⟨rfl, ⟨nd, rfl⟩⟩))
                    go_ret
                    exact ⟨rv, bS⟩
                  ·replace c55 := Bool.eq_false_iff.mpr c55
                   subst c55
                   have H1 : (some 1) = some r := by rw [if_neg (show ¬ (false = true) by decide)] at H; exact H
                   clear H
                   have H := H1
                   clear H1
                   obtain rfl := Option.some.inj H
                   have p487 : 0 ≤ (x72_4 : Int) := od
                   have q487 : x72_4 < (((rd_T72 l0_0 x25_2).f1).length : Int) := od
                   obtain ⟨ad487, e487, hx487_0, hx487_1, hx487_2⟩ := at_T74 HR480_1.out x72_4 p487 q487
                   cases e487
                   replace hx487_0 := (HB.out.cell (World.block_lt_of_cell? w _ hx487_0)).trans hx487_0
                   replace hx487_1 := (HB.out.cell (World.block_lt_of_cell? w _ hx487_1)).trans hx487_1
                   replace hx487_2 := (HB.out.cell (World.block_lt_of_cell? w _ hx487_2)).trans hx487_2
                   replace p487 := eq_true p487
                   replace q487 := eq_true q487
                   go_wp2_with (first | ((with_reducible refine gate_dst (N := 7) rfl ?_); (try (refine gate_guard (by rfl) ?_; dsimp only)); refine bx 7 #[.int .i64 0, .int .i64 0, .int .i64 0] 74 ?_; intro gb488 hg w66 hbox hb; have BK488 := am (hbox); have GW488 := am ((by rw [hg]; exact (below_size bS) : w.heap.size ≤ gb488)); have GE488 := am ((by rw [hg]; exact (below_size bS) : w.heap.size ≤ gb488)); replace HB := am (below_step bS hb); have NB479_488 := am ((by rw [hg]; exact Nat.ne_of_lt (blk_lt (g := gb479) (o := .cells #[.slice (some ad480) l0_0.length c0_0, .int .i64 a0_1, .bool a0_2] 48 (0, 0)) (bk BK479.out)) : gb479 ≠ gb488)); have NB488_479 := am ((by rw [hg]; exact Nat.ne_of_gt (blk_lt (g := gb479) (o := .cells #[.slice (some ad480) l0_0.length c0_0, .int .i64 a0_1, .bool a0_2] 48 (0, 0)) (bk BK479.out)) : gb488 ≠ gb479)); replace BK479 := am (blk_below (g := gb479) (o := .cells #[.slice (some ad480) l0_0.length c0_0, .int .i64 a0_1, .bool a0_2] 48 (0, 0)) (bk BK479.out) hb); have NB481_488 := am ((by rw [hg]; exact Nat.ne_of_lt (blk_lt (g := gb481) (o := .cells #[.string ((rd_T72 l0_0 x25_2).f0), .slice (some ad487) ((rd_T72 l0_0 x25_2).f1).length c480_1] 72 (0, 0)) (bk BK481.out)) : gb481 ≠ gb488)); have NB488_481 := am ((by rw [hg]; exact Nat.ne_of_gt (blk_lt (g := gb481) (o := .cells #[.string ((rd_T72 l0_0 x25_2).f0), .slice (some ad487) ((rd_T72 l0_0 x25_2).f1).length c480_1] 72 (0, 0)) (bk BK481.out)) : gb488 ≠ gb481)); replace BK481 := am (blk_below (g := gb481) (o := .cells #[.string ((rd_T72 l0_0 x25_2).f0), .slice (some ad487) ((rd_T72 l0_0 x25_2).f1).length c480_1] 72 (0, 0)) (bk BK481.out) hb); clear hb hbox hg; have hnb67 := NB488_479.out; have hnc67 := NB479_488.out; have hnb68 := NB488_481.out; have hnc68 := NB481_488.out; have hcz69_0 := bc BK488.out 0 (.int .i64 0); have hcz69_1 := bc BK488.out 1 (.int .i64 0); have hcz69_2 := bc BK488.out 2 (.int .i64 0); have hfz69_0 := blk_frozen BK488.out 0; have hfz69_1 := blk_frozen BK488.out 1; have hfz69_2 := blk_frozen BK488.out 2) | ((with_reducible refine gate_callee (f := 67) rfl ?_); refine gl 78 Tryd.func67 #[.int .i64 ((rd_T74 ((rd_T72 l0_0 x25_2).f1) x72_4).f0), .int .i64 0, .int .i64 1000000000000] ?_; (with_reducible refine (impl_in.calls ((rd_T74 ((rd_T72 l0_0 x25_2).f1) x72_4).f0) 0 1000000000000 true _ A52.out).mono ?_); rintro e w' ⟨rfl, ⟨nd, rfl⟩⟩; refine ⟨_, rfl, ?_⟩) | (go_at_call 67; (with_reducible refine (impl_in.calls ((rd_T74 ((rd_T72 l0_0 x25_2).f1) x72_4).f1) 0 1000000000000 false _ A54.out).mono ?_); rintro e w' ⟨rfl, ⟨nd, rfl⟩⟩))
                   go_ret
                   exact ⟨rv, bS⟩
                 ·replace c53 := Bool.eq_false_iff.mpr c53
                  subst c53
                  have H1 : (some 1) = some r := by rw [if_neg (show ¬ (false = true) by decide)] at H; exact H
                  clear H
                  have H := H1
                  clear H1
                  obtain rfl := Option.some.inj H
                  have p487 : 0 ≤ (x72_4 : Int) := od
                  have q487 : x72_4 < (((rd_T72 l0_0 x25_2).f1).length : Int) := od
                  obtain ⟨ad487, e487, hx487_0, hx487_1, hx487_2⟩ := at_T74 HR480_1.out x72_4 p487 q487
                  cases e487
                  replace hx487_0 := (HB.out.cell (World.block_lt_of_cell? w _ hx487_0)).trans hx487_0
                  replace hx487_1 := (HB.out.cell (World.block_lt_of_cell? w _ hx487_1)).trans hx487_1
                  replace hx487_2 := (HB.out.cell (World.block_lt_of_cell? w _ hx487_2)).trans hx487_2
                  replace p487 := eq_true p487
                  replace q487 := eq_true q487
                  go_wp2_with (first | ((with_reducible refine gate_dst (N := 7) rfl ?_); (try (refine gate_guard (by rfl) ?_; dsimp only)); refine bx 7 #[.int .i64 0, .int .i64 0, .int .i64 0] 74 ?_; intro gb488 hg w70 hbox hb; have BK488 := am (hbox); have GW488 := am ((by rw [hg]; exact (below_size bS) : w.heap.size ≤ gb488)); have GE488 := am ((by rw [hg]; exact (below_size bS) : w.heap.size ≤ gb488)); replace HB := am (below_step bS hb); have NB479_488 := am ((by rw [hg]; exact Nat.ne_of_lt (blk_lt (g := gb479) (o := .cells #[.slice (some ad480) l0_0.length c0_0, .int .i64 a0_1, .bool a0_2] 48 (0, 0)) (bk BK479.out)) : gb479 ≠ gb488)); have NB488_479 := am ((by rw [hg]; exact Nat.ne_of_gt (blk_lt (g := gb479) (o := .cells #[.slice (some ad480) l0_0.length c0_0, .int .i64 a0_1, .bool a0_2] 48 (0, 0)) (bk BK479.out)) : gb488 ≠ gb479)); replace BK479 := am (blk_below (g := gb479) (o := .cells #[.slice (some ad480) l0_0.length c0_0, .int .i64 a0_1, .bool a0_2] 48 (0, 0)) (bk BK479.out) hb); have NB481_488 := am ((by rw [hg]; exact Nat.ne_of_lt (blk_lt (g := gb481) (o := .cells #[.string ((rd_T72 l0_0 x25_2).f0), .slice (some ad487) ((rd_T72 l0_0 x25_2).f1).length c480_1] 72 (0, 0)) (bk BK481.out)) : gb481 ≠ gb488)); have NB488_481 := am ((by rw [hg]; exact Nat.ne_of_gt (blk_lt (g := gb481) (o := .cells #[.string ((rd_T72 l0_0 x25_2).f0), .slice (some ad487) ((rd_T72 l0_0 x25_2).f1).length c480_1] 72 (0, 0)) (bk BK481.out)) : gb488 ≠ gb481)); replace BK481 := am (blk_below (g := gb481) (o := .cells #[.string ((rd_T72 l0_0 x25_2).f0), .slice (some ad487) ((rd_T72 l0_0 x25_2).f1).length c480_1] 72 (0, 0)) (bk BK481.out) hb); clear hb hbox hg; have hnb71 := NB488_479.out; have hnc71 := NB479_488.out; have hnb72 := NB488_481.out; have hnc72 := NB481_488.out; have hcz73_0 := bc BK488.out 0 (.int .i64 0); have hcz73_1 := bc BK488.out 1 (.int .i64 0); have hcz73_2 := bc BK488.out 2 (.int .i64 0); have hfz73_0 := blk_frozen BK488.out 0; have hfz73_1 := blk_frozen BK488.out 1; have hfz73_2 := blk_frozen BK488.out 2) | ((with_reducible refine gate_callee (f := 67) rfl ?_); refine gl 78 Tryd.func67 #[.int .i64 ((rd_T74 ((rd_T72 l0_0 x25_2).f1) x72_4).f0), .int .i64 0, .int .i64 1000000000000] ?_; (with_reducible refine (impl_in.calls ((rd_T74 ((rd_T72 l0_0 x25_2).f1) x72_4).f0) 0 1000000000000 false _ A52.out).mono ?_); rintro e w' ⟨rfl, ⟨nd, rfl⟩⟩; refine ⟨_, rfl, ?_⟩))
                  go_ret
                  exact ⟨rv, bS⟩
                ·rw [if_neg c51] at H
                 exact absurd H (by simp)
               ·rw [if_neg c50] at H
                exact absurd H (by simp)
              ·rw [if_neg c49] at H
               have c49b0 : decide (x72_4 < (((rd_T72 l0_0 x25_2).f1).length : Int)) = false := decide_eq_false c49
               clear c49
               have H' := am H
               clear H
               go_wp2
               go_roundg k4
               case measure => have := HJ1.out; have := HK2.out; have := HJ14.out; have := HK4.out; omega
               case rel => exact ⟨(wrap64 (x25_2 + 1)), (by first | rfl | (simp; done) | (simp [*]; done)), H', ⟨by have := HJ1.out; have := HK2.out; have := HJ14.out; have := HK4.out; omega⟩, ⟨bk BK479.out⟩, ⟨bS⟩⟩
        ·rw [if_neg c13] at H
         exact absurd H (by simp)
       ·rw [if_neg c12] at H
        exact absurd H (by simp)
      ·rw [if_neg c11] at H
       have c11b0 : decide (x25_2 < (l0_0.length : Int)) = false := decide_eq_false c11
       clear c11
       obtain rfl := Option.some.inj H
       go_wp2
       go_ret
       exact ⟨rv, bS⟩
end Go.Proofs.YtnbedmihgnjdpaaDoor.PFnExactCollatorFault

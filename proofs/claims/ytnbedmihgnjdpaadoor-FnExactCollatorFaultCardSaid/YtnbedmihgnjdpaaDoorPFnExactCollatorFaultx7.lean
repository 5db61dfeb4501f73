-- Written by a program of this session: what the printed functions compute.
import Derived.Test.YtnbedmihgnjdpaaDoorPFnExactCollatorFaultx0
import Derived.Test.YtnbedmihgnjdpaaDoorSlimMore
import Derived.Test.YtnbedmihgnjdpaaDoorSlimStep
import Derived.Test.YtnbedmihgnjdpaaDoorPFnExactCollatorFaultx1
import Derived.Test.YtnbedmihgnjdpaaDoorPFnExactCollatorFaultx6
namespace Go.Proofs.YtnbedmihgnjdpaaDoor.PFnExactCollatorFault
open Go.RowKit Go.Proofs.YtnbedmihgnjdpaaDoorW.PrintWords Go.Proofs.YtnbedmihgnjdpaaDoorW.PrintLast Go.Proofs.YtnbedmihgnjdpaaDoorW.PrintMore
attribute [local go_sem] max2_int min2_int max_two min_two max_three min_three max_four min_four
set_option linter.unusedVariables false
set_option linter.unusedSimpArgs false
mutual
def spec_CollatorFault.j0 : Nat → Bool → List (S72) → Int → Bool → Option (Int)
 | 0, _, _, _, _ => none
 | k + 1, x21, x259000, x259001, x259002 => if x21 = true then (some 1) else (spec_CollatorFault.l0 k 0 x259000 x259001 x259002)
def spec_CollatorFault.l0 : Nat → Int → List (S72) → Int → Bool → Option (Int)
 | 0, _, _, _, _ => none
 | k + 1, x3, x259000, x259001, x259002 => if x3 < (x259000.length : Int) then (if 0 ≤ x3 then ((spec_l11D.f k ((rd_T72 x259000 x3).f0)).bind fun t261 => (if (t261.length : Int) < 1 then (spec_CollatorFault.j2 k x3 true x259000 x259001 x259002 ((rd_T72 x259000 x3).f0) ((rd_T72 x259000 x3).f1)) else (if (t261.length : Int) > 3 then (spec_CollatorFault.j2 k x3 true x259000 x259001 x259002 ((rd_T72 x259000 x3).f0) ((rd_T72 x259000 x3).f1)) else ((spec_l01Text.f k t261).bind fun t264 => (if t264.toList = ((rd_T72 x259000 x3).f0).toList then (if x3 > 0 then (if 0 ≤ (wrap64 (x3 - 1)) then (if (wrap64 (x3 - 1)) < (x259000.length : Int) then (if ((Op.bytesLess (((rd_T72 x259000 (wrap64 (x3 - 1))).f0).toList) (((rd_T72 x259000 x3).f0).toList)) = true) then (spec_CollatorFault.j2 k x3 (decide ((((rd_T72 x259000 x3).f1).length : Int) > 20)) x259000 x259001 x259002 ((rd_T72 x259000 x3).f0) ((rd_T72 x259000 x3).f1)) else (spec_CollatorFault.j2 k x3 true x259000 x259001 x259002 ((rd_T72 x259000 x3).f0) ((rd_T72 x259000 x3).f1))) else (none)) else (none)) else (spec_CollatorFault.j2 k x3 (decide ((((rd_T72 x259000 x3).f1).length : Int) > 20)) x259000 x259001 x259002 ((rd_T72 x259000 x3).f0) ((rd_T72 x259000 x3).f1))) else (spec_CollatorFault.j2 k x3 true x259000 x259001 x259002 ((rd_T72 x259000 x3).f0) ((rd_T72 x259000 x3).f1))))))) else (none)) else (some 0)
def spec_CollatorFault.j2 : Nat → Int → Bool → List (S72) → Int → Bool → ByteArray → List (S74) → Option (Int)
 | 0, _, _, _, _, _, _, _ => none
 | k + 1, x3, x73, x259000, x259001, x259002, x261000, x261001 => if x73 = true then (some 1) else (spec_CollatorFault.l1 k x3 0 x259000 x259001 x259002 x261000 x261001)
def spec_CollatorFault.l1 : Nat → Int → Int → List (S72) → Int → Bool → ByteArray → List (S74) → Option (Int)
 | 0, _, _, _, _, _, _, _ => none
 | k + 1, x3, x6, x259000, x259001, x259002, x261000, x261001 => if x6 < (x261001.length : Int) then (if 0 ≤ x6 then ((spec_l11Number.f ((rd_T74 x261001 x6).f0)).bind fun t268 => (if t268 = true then ((spec_l11Number.f ((rd_T74 x261001 x6).f1)).bind fun t269 => (if t269 = true then ((spec_l11Number.f ((rd_T74 x261001 x6).f2)).bind fun t270 => (if t270 = true then (spec_CollatorFault.l1 k x3 (wrap64 (x6 + 1)) x259000 x259001 x259002 x261000 x261001) else (some 1))) else (some 1))) else (some 1))) else (none)) else (spec_CollatorFault.l0 k (wrap64 (x3 + 1)) x259000 x259001 x259002)
end
def spec_CollatorFault.f (k : Nat) (l0_0 : List (S72)) (a0_1 : Int) (a0_2 : Bool) : Option (Int) := if a0_1 < 1 then (spec_CollatorFault.j0 k true l0_0 a0_1 a0_2) else (if a0_1 > 4 then (spec_CollatorFault.j0 k true l0_0 a0_1 a0_2) else (spec_CollatorFault.j0 k (decide ((l0_0.length : Int) > 200)) l0_0 a0_1 a0_2))
def spec_CollatorFault.T8 : Bool × List (List Nat × List Nat) := (true, [([], []), ([0], [0]), ([1], [1]), ([2], [2]), ([3], [3]), ([4, 3], [3, 4]), ([5, 3], [3, 5]), ([3, 6], [3, 6]), ([7, 3], [7]), ([8], [8]), ([9, 8, 8], [8, 9]), ([8], [8]), ([11, 8], [8, 11]), ([10, 12, 8], [8, 10, 12]), ([8, 13], [8, 13]), ([14, 10], [14]), ([15], [15]), ([16, 15], [15, 16]), ([17, 15, 15], [15, 17]), ([18], [18]), ([19, 18], [18, 19]), ([18], [18]), ([21, 18], [18, 21]), ([20, 22, 18], [18, 20, 22]), ([23, 18], [18, 23]), ([24, 18], [18, 24]), ([18], [18]), ([26, 18], [18, 26]), ([25, 27, 18], [18, 25, 27]), ([18, 28, 15], [15, 18, 28]), ([15, 29], [15, 29]), ([30, 18], [30]), ([31], [31]), ([32, 31], [31, 32]), ([33, 31], [31, 33]), ([34, 31], [31, 34]), ([31, 35], [31, 35])])
def spec_CollatorFault.B8 : List Nat := [0, 1, 3, 7, 15, 31, 63, 127, 255, 511, 1023, 511, 2559, 8191, 16383, 32767, 65535, 131071, 262143, 524287, 1048575, 524287, 2621439, 8388607, 16777215, 33554431, 524287, 67633151, 268435455, 536870911, 1073741823, 2147483647, 4294967295, 8589934591, 17179869183, 34359738367, 68719476735]
theorem spec_CollatorFault.tab8 : rtab .any (opsOf Tryd.f32 8) = spec_CollatorFault.T8 := by kernel_rfl
theorem spec_CollatorFault.bits8 : waitsOk spec_CollatorFault.T8.2 spec_CollatorFault.B8 = true := by kernel_rfl
set_option maxHeartbeats 8000000 in
set_option maxRecDepth 100000 in
theorem spec_CollatorFault.calls (k : Nat) (A0_0 : Option Addr) (c0_0 : Nat) (l0_0 : List (S72)) (a0_1 : Int) (a0_2 : Bool) (r : Int) (w : World) (hr0_0 : Kd.C k72 w A0_0 l0_0.length l0_0) (hc0_0 : l0_0.length ≤ c0_0) (h : spec_CollatorFault.f k l0_0 a0_1 a0_2 = some r) :
  Calls Tryd.prog 32 #[.agg #[.slice A0_0 l0_0.length c0_0, .int .i64 a0_1, .bool a0_2]] w fun e w' => e = .returned (.int .i64 r) ∧ Below w.heap.size w w' := by
 have hu48 := Tryd.underlying48
 have hu72 := Tryd.underlying72
 have hu74 := Tryd.underlying74
 have HR0_0 := am hr0_0
 have HC0_0 := am hc0_0
 clear hr0_0 hc0_0
 have HB := am (Below.refl w.heap.size w)
 have H : (if a0_1 < 1 then (spec_CollatorFault.j0 k true l0_0 a0_1 a0_2) else (if a0_1 > 4 then (spec_CollatorFault.j0 k true l0_0 a0_1 a0_2) else (spec_CollatorFault.j0 k (decide ((l0_0.length : Int) > 200)) l0_0 a0_1 a0_2))) = some r := h
 clear h
 have HC2 := am H
 clear H
 go_enter Tryd.func32, Tryd.ntmps32
 go_upto_region 1 with (first | ((with_reducible refine gate_dst (N := 1) rfl ?_); (try (refine gate_guard (by rfl) ?_; dsimp only)); refine bx 1 #[.slice A0_0 l0_0.length c0_0, .int .i64 a0_1, .bool a0_2] 48 ?_; intro gb258 hg w3 hbox hb; have BK258 := am (hbox); have GW258 := am ((by rw [hg]; exact (below_size bB) : w.heap.size ≤ gb258)); have GE258 := am ((by rw [hg]; exact (below_size bB) : w.heap.size ≤ gb258)); replace HB := am (below_step bB hb); clear hb hbox hg))
 (try simp only [Act.put, List.setIfInBounds_toArray, List.set_cons_zero, List.set_cons_succ])
 go_cut [21] (fun v21 wc => ∃ (kq : Nat) (x21_1 : Bool), v21 = .bool x21_1 ∧ Aside0 (spec_CollatorFault.j0 kq x21_1 l0_0 a0_1 a0_2 = some r) ∧ Aside0 (kq ≤ k) ∧ Aside0 (wc.heap[gb258]? = some (.cells #[(.slice A0_0 l0_0.length c0_0), .int .i64 a0_1, .bool a0_2] 48 (0, 0))) ∧ Aside0 (Below w.heap.size w wc))
 case first =>
  have H := HC2.out
  clear HC2
  by_cases c4 : a0_1 < 1
  ·rw [if_pos c4] at H
   have c4b0 : decide (a0_1 < 1) = true := decide_eq_true c4
   clear c4
   (first | rw [c4b0] | (simp only [i64_w, i32_w]; rw [c4b0]) | skip)
   have H' := am H
   clear H
   have hcz5_0 := bc BK258.out 0 (.slice A0_0 l0_0.length c0_0)
   have hcz5_1 := bc BK258.out 1 (.int .i64 a0_1)
   have hcz5_2 := bc BK258.out 2 (.bool a0_2)
   have hfz5_0 := blk_frozen BK258.out 0
   have hfz5_1 := blk_frozen BK258.out 1
   have hfz5_2 := blk_frozen BK258.out 2
   go_wp2
   go_meet
   case rel => exact ⟨_, (true), (by first | rfl | (simp; done) | (simp [*]; done)), H', ⟨by first | omega | exact Nat.le_refl _⟩, ⟨bk BK258.out⟩, ⟨bS⟩⟩
  ·rw [if_neg c4] at H
   have c4b0 : decide (a0_1 < 1) = false := decide_eq_false c4
   clear c4
   (first | rw [c4b0] | (simp only [i64_w, i32_w]; rw [c4b0]) | skip)
   by_cases c6 : a0_1 > 4
   ·rw [if_pos c6] at H
    have c6b0 : decide (4 < a0_1) = true := decide_eq_true c6
    clear c6
    have H' := am H
    clear H
    have hcz7_0 := bc BK258.out 0 (.slice A0_0 l0_0.length c0_0)
    have hcz7_1 := bc BK258.out 1 (.int .i64 a0_1)
    have hcz7_2 := bc BK258.out 2 (.bool a0_2)
    have hfz7_0 := blk_frozen BK258.out 0
    have hfz7_1 := blk_frozen BK258.out 1
    have hfz7_2 := blk_frozen BK258.out 2
    go_wp2
    go_meet
    case rel => exact ⟨_, (true), (by first | rfl | (simp; done) | (simp [*]; done)), H', ⟨by first | omega | exact Nat.le_refl _⟩, ⟨bk BK258.out⟩, ⟨bS⟩⟩
   ·rw [if_neg c6] at H
    have c6b0 : decide (4 < a0_1) = false := decide_eq_false c6
    clear c6
    have H' := am H
    clear H
    have hcz8_0 := bc BK258.out 0 (.slice A0_0 l0_0.length c0_0)
    have hcz8_1 := bc BK258.out 1 (.int .i64 a0_1)
    have hcz8_2 := bc BK258.out 2 (.bool a0_2)
    have hfz8_0 := blk_frozen BK258.out 0
    have hfz8_1 := blk_frozen BK258.out 1
    have hfz8_2 := blk_frozen BK258.out 2
    go_wp2
    go_meet
    case rel => exact ⟨_, (decide ((l0_0.length : Int) > 200)), (by first | rfl | (simp; done) | (simp [*]; done)), H', ⟨by first | omega | exact Nat.le_refl _⟩, ⟨bk BK258.out⟩, ⟨bS⟩⟩
 case rest =>
  clear HC2
  try clear p2
  try clear c3
  try clear c4
  try clear c4b0
  try clear c6
  try clear c6b0
  try clear hcz5_0
  try clear hcz5_1
  try clear hcz5_2
  try clear hcz7_0
  try clear hcz7_1
  try clear hcz7_2
  try clear hcz8_0
  try clear hcz8_1
  try clear hcz8_2
  try clear hfz5_0
  try clear hfz5_1
  try clear hfz5_2
  try clear hfz7_0
  try clear hfz7_1
  try clear hfz7_2
  try clear hfz8_0
  try clear hfz8_1
  try clear hfz8_2
  obtain ⟨kq, x21_1, rfl, HA, HJ1, BK258, HB⟩ := hcut
  cases kq with
  | zero => exact absurd HA.out (by simp [spec_CollatorFault.j0])
  | succ kj1 =>
   have H := HA.out
   clear HA
   simp only [spec_CollatorFault.j0] at H
   by_cases c9 : x21_1 = true
   ·subst c9
    have H1 : (some 1) = some r := by rw [if_pos rfl] at H; exact H
    clear H
    have H := H1
    clear H1
    obtain rfl := Option.some.inj H
    go_wp2
    go_ret
    exact ⟨rv, bS⟩
   ·replace c9 := Bool.eq_false_iff.mpr c9
    subst c9
    have H1 : (spec_CollatorFault.l0 kj1 0 l0_0 a0_1 a0_2) = some r := by rw [if_neg (show ¬ (false = true) by decide)] at H; exact H
    clear H
    have H := H1
    clear H1
    have H' := am H
    clear H
    go_wp2
    go_loopg [3] kj1 (fun kq v3 w' => ∃ (x3_2 : Int), v3 = .int .i64 x3_2 ∧ Aside0 (spec_CollatorFault.l0 kq x3_2 l0_0 a0_1 a0_2 = some r) ∧ Aside0 (kq ≤ kj1) ∧ Aside0 (w'.heap[gb258]? = some (.cells #[(.slice A0_0 l0_0.length c0_0), .int .i64 a0_1, .bool a0_2] 48 (0, 0))) ∧ Aside0 (Below w.heap.size w w'))
    case atStart => exact ⟨(0), (by first | rfl | (simp; done) | (simp [*]; done)), H', ⟨Nat.le_refl _⟩, ⟨bk BK258.out⟩, ⟨bS⟩⟩
    case round =>
     clear H'
     try clear p2
     try clear c3
     try clear c4
     try clear c4b0
     try clear c6
     try clear c6b0
     try clear c9
     try clear hcz5_0
     try clear hcz5_1
     try clear hcz5_2
     try clear hcz7_0
     try clear hcz7_1
     try clear hcz7_2
     try clear hcz8_0
     try clear hcz8_1
     try clear hcz8_2
     try clear hfz5_0
     try clear hfz5_1
     try clear hfz5_2
     try clear hfz7_0
     try clear hfz7_1
     try clear hfz7_2
     try clear hfz8_0
     try clear hfz8_1
     try clear hfz8_2
     try clear p2
     obtain ⟨x3_2, rfl, HA, HK2, BK258, HB⟩ := hrel
     cases gk with
     | zero => exact absurd HA.out (by simp [spec_CollatorFault.l0])
     | succ k2 =>
      have H := HA.out
      clear HA
      simp only [spec_CollatorFault.l0] at H
      by_cases c10 : x3_2 < (l0_0.length : Int)
      ·rw [if_pos c10] at H
       have c10b0 : decide (x3_2 < (l0_0.length : Int)) = true := decide_eq_true c10
       clear c10
       by_cases c11 : 0 ≤ x3_2
       ·rw [if_pos c11] at H
        have c11b0 : decide (0 ≤ x3_2) = true := decide_eq_true c11
        clear c11
        replace H := Option.bind_eq_some_iff.mp H
        obtain ⟨t261, A120, H⟩ := H
        replace H : (if (t261.length : Int) < 1 then (spec_CollatorFault.j2 k2 x3_2 true l0_0 a0_1 a0_2 ((rd_T72 l0_0 x3_2).f0) ((rd_T72 l0_0 x3_2).f1)) else (if (t261.length : Int) > 3 then (spec_CollatorFault.j2 k2 x3_2 true l0_0 a0_1 a0_2 ((rd_T72 l0_0 x3_2).f0) ((rd_T72 l0_0 x3_2).f1)) else ((spec_l01Text.f k2 t261).bind fun t264 => (if t264.toList = ((rd_T72 l0_0 x3_2).f0).toList then (if x3_2 > 0 then (if 0 ≤ (wrap64 (x3_2 - 1)) then (if (wrap64 (x3_2 - 1)) < (l0_0.length : Int) then (if ((Op.bytesLess (((rd_T72 l0_0 (wrap64 (x3_2 - 1))).f0).toList) (((rd_T72 l0_0 x3_2).f0).toList)) = true) then (spec_CollatorFault.j2 k2 x3_2 (decide ((((rd_T72 l0_0 x3_2).f1).length : Int) > 20)) l0_0 a0_1 a0_2 ((rd_T72 l0_0 x3_2).f0) ((rd_T72 l0_0 x3_2).f1)) else (spec_CollatorFault.j2 k2 x3_2 true l0_0 a0_1 a0_2 ((rd_T72 l0_0 x3_2).f0) ((rd_T72 l0_0 x3_2).f1))) else (none)) else (none)) else (spec_CollatorFault.j2 k2 x3_2 (decide ((((rd_T72 l0_0 x3_2).f1).length : Int) > 20)) l0_0 a0_1 a0_2 ((rd_T72 l0_0 x3_2).f0) ((rd_T72 l0_0 x3_2).f1))) else (spec_CollatorFault.j2 k2 x3_2 true l0_0 a0_1 a0_2 ((rd_T72 l0_0 x3_2).f0) ((rd_T72 l0_0 x3_2).f1)))))) = some r := H
        have A12 := am A120
        clear A120
        have HC13 := am H
        clear H
        have hcz14_0 := bc BK258.out 0 (.slice A0_0 l0_0.length c0_0)
        have hcz14_1 := bc BK258.out 1 (.int .i64 a0_1)
        have hcz14_2 := bc BK258.out 2 (.bool a0_2)
        have hfz14_0 := blk_frozen BK258.out 0
        have hfz14_1 := blk_frozen BK258.out 1
        have hfz14_2 := blk_frozen BK258.out 2
        have p259 : 0 ≤ (x3_2 : Int) := od
        have q259 : x3_2 < (l0_0.length : Int) := od
        obtain ⟨ad259, A259_1, c259_1, e259, hx259_0, hx259_1, hl259_1, hi259_1⟩ := at_T72 HR0_0.out x3_2 p259 q259
        cases e259
        replace hx259_0 := (HB.out.cell (World.block_lt_of_cell? w _ hx259_0)).trans hx259_0
        replace hx259_1 := (HB.out.cell (World.block_lt_of_cell? w _ hx259_1)).trans hx259_1
        have HR259_1 := am hi259_1
        have HC259_1 := am hl259_1
        clear hi259_1 hl259_1
        replace p259 := eq_true p259
        replace q259 := eq_true q259
        go_upto_region 8 with (first | ((with_reducible refine gate_dst (N := 4) rfl ?_); (try (refine gate_guard (by rfl) ?_; dsimp only)); refine bx 4 #[.string (⟨#[]⟩ : ByteArray), .slice none 0 0] 72 ?_; intro gb260 hg w15 hbox hb; have BK260 := am (hbox); have GW260 := am ((by rw [hg]; exact (below_size bS) : w.heap.size ≤ gb260)); have GE260 := am ((by rw [hg]; exact (below_size bS) : w.heap.size ≤ gb260)); replace HB := am (below_step bS hb); have NB258_260 := am ((by rw [hg]; exact Nat.ne_of_lt (blk_lt (g := gb258) (o := .cells #[.slice (some ad259) l0_0.length c0_0, .int .i64 a0_1, .bool a0_2] 48 (0, 0)) (bk BK258.out)) : gb258 ≠ gb260)); have NB260_258 := am ((by rw [hg]; exact Nat.ne_of_gt (blk_lt (g := gb258) (o := .cells #[.slice (some ad259) l0_0.length c0_0, .int .i64 a0_1, .bool a0_2] 48 (0, 0)) (bk BK258.out)) : gb260 ≠ gb258)); replace BK258 := am (blk_below (g := gb258) (o := .cells #[.slice (some ad259) l0_0.length c0_0, .int .i64 a0_1, .bool a0_2] 48 (0, 0)) (bk BK258.out) hb); clear hb hbox hg; have hnb16 := NB260_258.out; have hnc16 := NB258_260.out; have hcz17_0 := bc BK260.out 0 (.string (⟨#[]⟩ : ByteArray)); have hcz17_1 := bc BK260.out 1 (.slice none 0 0); have hfz17_0 := blk_frozen BK260.out 0; have hfz17_1 := blk_frozen BK260.out 1) | ((with_reducible refine gate_callee (f := 64) rfl ?_); refine gl 36 Tryd.func64 #[.string ((rd_T72 l0_0 x3_2).f0)] ?_; (with_reducible refine (spec_l11D.calls k2 ((rd_T72 l0_0 x3_2).f0) t261 _ A12.out).mono ?_); rintro e w18 ⟨v262, rfl, ho0, hb⟩; refine ⟨_, rfl, ?_⟩; have HO263 := am (Kd.R_lower ho0 (below_size bS)); replace BK258 := am (blk_below (g := gb258) (o := .cells #[.slice (some ad259) l0_0.length c0_0, .int .i64 a0_1, .bool a0_2] 48 (0, 0)) (by (with_reducible repeat (first | refine blk_drewN ?_ _ | refine blk_drew ?_ | refine blk_alloc ?_ _)); refine blk_far ?_ NB258_260.out _; (with_reducible repeat (first | refine blk_drewN ?_ _ | refine blk_drew ?_ | refine blk_alloc ?_ _)); refine blk_far ?_ NB258_260.out _; (with_reducible repeat (first | refine blk_drewN ?_ _ | refine blk_drew ?_ | refine blk_alloc ?_ _)); exact BK258.out) hb); replace BK260 := am (blk_below (g := gb260) (o := .cells #[.string ((rd_T72 l0_0 x3_2).f0), .slice A259_1 ((rd_T72 l0_0 x3_2).f1).length c259_1] 72 (0, 0)) (by (with_reducible repeat (first | refine blk_drewN ?_ _ | refine blk_drew ?_ | refine blk_alloc ?_ _)); refine blk_put (cs := #[.string ((rd_T72 l0_0 x3_2).f0), .slice none 0 0]) ?_ 1 _ rfl; (with_reducible repeat (first | refine blk_drewN ?_ _ | refine blk_drew ?_ | refine blk_alloc ?_ _)); refine blk_put (cs := #[.string (⟨#[]⟩ : ByteArray), .slice none 0 0]) ?_ 0 _ rfl; (with_reducible repeat (first | refine blk_drewN ?_ _ | refine blk_drew ?_ | refine blk_alloc ?_ _)); exact BK260.out) hb); replace HB := am (below_step bS hb); (try clear hb); (try clear hb2); (try clear hk); (try clear hi); (try clear ho0)))
        (try simp only [Act.put, List.setIfInBounds_toArray, List.set_cons_zero, List.set_cons_succ])
        go_cut [73] (fun v73 wc => ∃ (kq : Nat) (x73_12 : Bool), v73 = .bool x73_12 ∧ Aside0 (spec_CollatorFault.j2 kq x3_2 x73_12 l0_0 a0_1 a0_2 ((rd_T72 l0_0 x3_2).f0) ((rd_T72 l0_0 x3_2).f1) = some r) ∧ Aside0 (kq ≤ k2) ∧ Aside0 (wc.heap[gb258]? = some (.cells #[(.slice (some ad259) l0_0.length c0_0), .int .i64 a0_1, .bool a0_2] 48 (0, 0))) ∧ Aside0 (wc.heap[gb260]? = some (.cells #[.string ((rd_T72 l0_0 x3_2).f0), (.slice A259_1 ((rd_T72 l0_0 x3_2).f1).length c259_1)] 72 (0, 0))) ∧ Aside0 (Below w.heap.size w wc))
        case first =>
         have H := HC13.out
         clear HC13
         by_cases c19 : (t261.length : Int) < 1
         ·rw [if_pos c19] at H
          have c19b0 : decide ((t261.length : Int) < 1) = true := decide_eq_true c19
          have c19b1 : decide (t261.length < 1) = true := decide_eq_true (by omega)
          clear c19
          (first | rw [c19b0] | (simp only [i64_w, i32_w]; rw [c19b0]) | skip)
          have H' := am H
          clear H
          try go_wp2
          replace HO263 := am (Kd.R_drew HO263.out)
          replace BK258 := am (blk_drew BK258.out)
          replace BK260 := am (blk_drew BK260.out)
          replace HB := am (below_drew1 HB.out)
          obtain ⟨Ao21, co21, eo21⟩ := Kd.R_slice HO263.out
          (first | subst eo21 | (injection eo21 with f1_ f2_ f3_; have f4_ := f1_.symm; have f5_ := f3_.symm; clear f1_ f2_ f3_; subst f4_; subst f5_))
          refine start_ (n := 37) (S := fun w' => True) (ds := []) #[false, false, false, false, false, false, false, false, false, false, false, false, false, false, false, false, false, false, false, false, false, false, false, false, false, false, false, false, false, false, false, false, false, false, false, false, false] (by kernel_rfl) rfl rfl trivial (fun hHeld => ?_); refine with_tabW spec_CollatorFault.tab8 spec_CollatorFault.bits8 (fun HT_ HW_ => ?_)
          generalize w18.drew = w20 at HO263 BK258 BK260 HB hHeld ⊢
          refine pq 0 37 HT_.out ?_
          refine pq 1 38 HT_.out ?_
          refine pq 2 39 HT_.out ?_
          refine pq 3 40 HT_.out ?_
          refine pu 4 41 HT_.out ?_
          refine pu 5 42 HT_.out ?_
          refine pu 6 43 HT_.out ?_
          refine pq 7 44 HT_.out ?_
          refine pq 8 45 HT_.out ?_
          refine pu 9 46 HT_.out ?_
          refine pu 10 47 HT_.out ?_
          refine pu 11 48 HT_.out ?_
          refine pu 12 49 HT_.out ?_
          refine pu 13 50 HT_.out ?_
          refine pq 14 51 HT_.out ?_
          refine pq 15 52 HT_.out ?_
          refine pu 16 53 HT_.out ?_
          refine pu 17 54 HT_.out ?_
          refine pu 18 55 HT_.out ?_
          refine pu 19 56 HT_.out ?_
          refine pu 20 57 HT_.out ?_
          refine pu 21 58 HT_.out ?_
          refine pu 22 59 HT_.out ?_
          refine pu 23 60 HT_.out ?_
          refine pu 24 61 HT_.out ?_
          refine pu 25 62 HT_.out ?_
          refine pu 26 63 HT_.out ?_
          refine pu 27 64 HT_.out ?_
          refine pu 28 65 HT_.out ?_
          refine pu 29 66 HT_.out ?_
          refine pq 30 67 HT_.out ?_
          refine pq 31 68 HT_.out ?_
          refine pu 32 69 HT_.out ?_
          refine pu 33 70 HT_.out ?_
          refine pu 34 71 HT_.out ?_
          refine pu 35 72 HT_.out ?_
          refine pq 36 73 HT_.out ?_
          refine done_ (done_of HT_.out (by kernel_rfl)) ?_
          try go_wp2
          go_meet
          case rel => exact ⟨_, (true), (by first | rfl | (simp; done) | (simp [*]; done)), H', ⟨by have := HJ1.out; have := HK2.out; first | omega | exact Nat.le_refl _⟩, ⟨bk BK258.out⟩, ⟨bk BK260.out⟩, ⟨bS⟩⟩
         ·rw [if_neg c19] at H
          have c19b0 : decide ((t261.length : Int) < 1) = false := decide_eq_false c19
          have c19b1 : decide (t261.length < 1) = false := decide_eq_false (by omega)
          clear c19
          (first | rw [c19b0] | (simp only [i64_w, i32_w]; rw [c19b0]) | skip)
          by_cases c22 : (t261.length : Int) > 3
          ·rw [if_pos c22] at H
           have c22b0 : decide (3 < (t261.length : Int)) = true := decide_eq_true c22
           have c22b1 : decide (3 < t261.length) = true := decide_eq_true (by omega)
           clear c22
           have H' := am H
           clear H
           try go_wp2
           replace HO263 := am (Kd.R_drew HO263.out)
           replace BK258 := am (blk_drew BK258.out)
           replace BK260 := am (blk_drew BK260.out)
           replace HB := am (below_drew1 HB.out)
           obtain ⟨Ao24, co24, eo24⟩ := Kd.R_slice HO263.out
           (first | subst eo24 | (injection eo24 with f1_ f2_ f3_; have f4_ := f1_.symm; have f5_ := f3_.symm; clear f1_ f2_ f3_; subst f4_; subst f5_))
           refine start_ (n := 37) (S := fun w' => True) (ds := []) #[false, false, false, false, false, false, false, false, false, false, false, false, false, false, false, false, false, false, false, false, false, false, false, false, false, false, false, false, false, false, false, false, false, false, false, false, false] (by kernel_rfl) rfl rfl trivial (fun hHeld => ?_); refine with_tabW spec_CollatorFault.tab8 spec_CollatorFault.bits8 (fun HT_ HW_ => ?_)
           generalize w18.drew = w23 at HO263 BK258 BK260 HB hHeld ⊢
           refine pq 0 37 HT_.out ?_
           refine pq 1 38 HT_.out ?_
           refine pq 2 39 HT_.out ?_
           refine pq 3 40 HT_.out ?_
           refine pq 4 41 HT_.out ?_
           refine pq 5 42 HT_.out ?_
           refine pq 6 43 HT_.out ?_
           refine pq 7 44 HT_.out ?_
           refine pq 8 45 HT_.out ?_
           refine pu 9 46 HT_.out ?_
           refine pu 10 47 HT_.out ?_
           refine pu 11 48 HT_.out ?_
           refine pu 12 49 HT_.out ?_
           refine pu 13 50 HT_.out ?_
           refine pq 14 51 HT_.out ?_
           refine pq 15 52 HT_.out ?_
           refine pu 16 53 HT_.out ?_
           refine pu 17 54 HT_.out ?_
           refine pu 18 55 HT_.out ?_
           refine pu 19 56 HT_.out ?_
           refine pu 20 57 HT_.out ?_
           refine pu 21 58 HT_.out ?_
           refine pu 22 59 HT_.out ?_
           refine pu 23 60 HT_.out ?_
           refine pu 24 61 HT_.out ?_
           refine pu 25 62 HT_.out ?_
           refine pu 26 63 HT_.out ?_
           refine pu 27 64 HT_.out ?_
           refine pu 28 65 HT_.out ?_
           refine pu 29 66 HT_.out ?_
           refine pq 30 67 HT_.out ?_
           refine pq 31 68 HT_.out ?_
           refine pu 32 69 HT_.out ?_
           refine pu 33 70 HT_.out ?_
           refine pu 34 71 HT_.out ?_
           refine pu 35 72 HT_.out ?_
           refine pq 36 73 HT_.out ?_
           refine done_ (done_of HT_.out (by kernel_rfl)) ?_
           try go_wp2
           go_meet
           case rel => exact ⟨_, (true), (by first | rfl | (simp; done) | (simp [*]; done)), H', ⟨by have := HJ1.out; have := HK2.out; first | omega | exact Nat.le_refl _⟩, ⟨bk BK258.out⟩, ⟨bk BK260.out⟩, ⟨bS⟩⟩
          ·rw [if_neg c22] at H
           have c22b0 : decide (3 < (t261.length : Int)) = false := decide_eq_false c22
           have c22b1 : decide (3 < t261.length) = false := decide_eq_false (by omega)
           clear c22
           replace H := Option.bind_eq_some_iff.mp H
           obtain ⟨t264, A250, H⟩ := H
           replace H : (if t264.toList = ((rd_T72 l0_0 x3_2).f0).toList then (if x3_2 > 0 then (if 0 ≤ (wrap64 (x3_2 - 1)) then (if (wrap64 (x3_2 - 1)) < (l0_0.length : Int) then (if ((Op.bytesLess (((rd_T72 l0_0 (wrap64 (x3_2 - 1))).f0).toList) (((rd_T72 l0_0 x3_2).f0).toList)) = true) then (spec_CollatorFault.j2 k2 x3_2 (decide ((((rd_T72 l0_0 x3_2).f1).length : Int) > 20)) l0_0 a0_1 a0_2 ((rd_T72 l0_0 x3_2).f0) ((rd_T72 l0_0 x3_2).f1)) else (spec_CollatorFault.j2 k2 x3_2 true l0_0 a0_1 a0_2 ((rd_T72 l0_0 x3_2).f0) ((rd_T72 l0_0 x3_2).f1))) else (none)) else (none)) else (spec_CollatorFault.j2 k2 x3_2 (decide ((((rd_T72 l0_0 x3_2).f1).length : Int) > 20)) l0_0 a0_1 a0_2 ((rd_T72 l0_0 x3_2).f0) ((rd_T72 l0_0 x3_2).f1))) else (spec_CollatorFault.j2 k2 x3_2 true l0_0 a0_1 a0_2 ((rd_T72 l0_0 x3_2).f0) ((rd_T72 l0_0 x3_2).f1))) = some r := H
           have A25 := am A250
           clear A250
           by_cases c26 : t264.toList = ((rd_T72 l0_0 x3_2).f0).toList
           ·rw [if_pos c26] at H
            have c26b0 : (t264.toList == ((rd_T72 l0_0 x3_2).f0).toList) = true := beq_iff_eq.mpr c26
            have c26b1 : (t264.toList != ((rd_T72 l0_0 x3_2).f0).toList) = false := bne_eq_false_iff_eq.mpr c26
            clear c26
            by_cases c27 : x3_2 > 0
            ·rw [if_pos c27] at H
             have c27b0 : decide (0 < x3_2) = true := decide_eq_true c27
             clear c27
             obtain ⟨ji28, hji28⟩ : ∃ j_ : Int, (wrap64 (x3_2 - 1)) = j_ := ⟨_, rfl⟩
             replace H : (if 0 ≤ (ji28) then (if (ji28) < (l0_0.length : Int) then (if ((Op.bytesLess (((rd_T72 l0_0 (ji28)).f0).toList) (((rd_T72 l0_0 x3_2).f0).toList)) = true) then (spec_CollatorFault.j2 k2 x3_2 (decide ((((rd_T72 l0_0 x3_2).f1).length : Int) > 20)) l0_0 a0_1 a0_2 ((rd_T72 l0_0 x3_2).f0) ((rd_T72 l0_0 x3_2).f1)) else (spec_CollatorFault.j2 k2 x3_2 true l0_0 a0_1 a0_2 ((rd_T72 l0_0 x3_2).f0) ((rd_T72 l0_0 x3_2).f1))) else (none)) else (none)) = some r := by first | (rw [hji28] at H; exact H) | (simp only [hji28] at H ⊢; exact H)
             (try rw [hji28] at A25)
             have hji28w : (IntKind.i64.wrap (x3_2 - 1)) = ji28 := (i64_w _).trans hji28
             by_cases c29 : 0 ≤ (ji28)
             ·rw [if_pos c29] at H
              have c29b0 : decide (0 ≤ (ji28)) = true := decide_eq_true c29
              clear c29
              by_cases c30 : (ji28) < (l0_0.length : Int)
              ·rw [if_pos c30] at H
               have c30b0 : decide ((ji28) < (l0_0.length : Int)) = true := decide_eq_true c30
               clear c30
               by_cases c31 : ((Op.bytesLess (((rd_T72 l0_0 (ji28)).f0).toList) (((rd_T72 l0_0 x3_2).f0).toList)) = true)
               ·rw [if_pos c31] at H
                have c31b0 : (Op.bytesLess (((rd_T72 l0_0 (ji28)).f0).toList) (((rd_T72 l0_0 x3_2).f0).toList)) = true := c31
                clear c31
                have H' := am H
                clear H
                try go_wp2
                replace HO263 := am (Kd.R_drew HO263.out)
                replace BK258 := am (blk_drew BK258.out)
                replace BK260 := am (blk_drew BK260.out)
                replace HB := am (below_drew1 HB.out)
                obtain ⟨Ao33, co33, eo33⟩ := Kd.R_slice HO263.out
                (first | subst eo33 | (injection eo33 with f1_ f2_ f3_; have f4_ := f1_.symm; have f5_ := f3_.symm; clear f1_ f2_ f3_; subst f4_; subst f5_))
                have p265 : 0 ≤ ((ji28) : Int) := od
                have q265 : (ji28) < (l0_0.length : Int) := od
                obtain ⟨ad265, A265_1, c265_1, e265, hx265_0, hx265_1, hl265_1, hi265_1⟩ := at_T72 HR0_0.out (ji28) p265 q265
                have hw265_1 := hx265_1
                have hw265_0 := hx265_0
                obtain rfl : ad259 = ad265 := (by injection e265)
                replace hx265_0 := (HB.out.cell (World.block_lt_of_cell? w _ hx265_0)).trans hx265_0
                replace hx265_1 := (HB.out.cell (World.block_lt_of_cell? w _ hx265_1)).trans hx265_1
                have HR265_1 := am hi265_1
                have HC265_1 := am hl265_1
                clear hi265_1 hl265_1
                replace p265 := eq_true p265
                replace q265 := eq_true q265
                refine start_ (n := 37) (S := fun w' => w'.cell? ⟨gb260, 0, none⟩ = some (.string ((rd_T72 l0_0 x3_2).f0)) ∧ w'.cell? ⟨gb260, 1, none⟩ = some (.slice A259_1 ((rd_T72 l0_0 x3_2).f1).length c259_1) ∧ w'.cell? ⟨gb258, 0, none⟩ = some (.slice (some ad259) l0_0.length c0_0) ∧ w'.cell? ⟨gb258, 1, none⟩ = some (.int .i64 a0_1) ∧ w'.cell? ⟨gb258, 2, none⟩ = some (.bool a0_2) ∧ w'.cell? (ad259.add (((ji28)).toNat * 2)) = some (.string ((rd_T72 l0_0 (ji28)).f0)) ∧ w'.cell? ⟨(ad259.add (((ji28)).toNat * 2)).block, (ad259.add (((ji28)).toNat * 2)).off + 1, none⟩ = some (.slice A265_1 ((rd_T72 l0_0 (ji28)).f1).length c265_1)) (ds := []) #[false, false, false, false, false, false, false, false, false, false, false, false, false, false, false, false, false, false, false, false, false, false, false, false, false, false, false, false, false, false, false, false, false, false, false, false, false] (by kernel_rfl) rfl rfl ⟨(blk_cell BK260.out 0).trans rfl, (blk_cell BK260.out 1).trans rfl, (blk_cell BK258.out 0).trans rfl, (blk_cell BK258.out 1).trans rfl, (blk_cell BK258.out 2).trans rfl, ((HB.out.cell (World.block_lt_of_cell? w _ hw265_0)).trans hw265_0), ((HB.out.cell (World.block_lt_of_cell? w _ hw265_1)).trans hw265_1)⟩ (fun hHeld => ?_); refine with_tabW spec_CollatorFault.tab8 spec_CollatorFault.bits8 (fun HT_ HW_ => ?_)
                generalize w18.drew = w32 at HO263 BK258 BK260 HB HR265_1 hx265_0 hx265_1 hHeld ⊢
                refine pq 0 37 HT_.out ?_
                refine pq 1 38 HT_.out ?_
                refine pq 2 39 HT_.out ?_
                refine pq 3 40 HT_.out ?_
                refine pq 4 41 HT_.out ?_
                refine pq 5 42 HT_.out ?_
                refine pq 6 43 HT_.out ?_
                refine pq 7 44 HT_.out ?_
                refine pq 8 45 HT_.out ?_
                refine pq 9 46 HT_.out ?_
                refine pq 11 48 HT_.out ?_
                refine take_ (i := 12) (N := some 49) (v := ?_) (a' := ?_) #[true, true, true, true, true, true, true, true, true, true, false, true, true, false, false, false, false, false, false, false, false, false, false, false, false, false, false, false, false, false, false, false, false, false, false, false, false] rfl rfl (take_ofW HT_.out HW_.out (by kernel_rfl)) (fun _ _ _ h => h) (Or.inl ⟨by rfl, ?_⟩) hHeld ?_ ?_
                rotate_left
                ·rintro w' ⟨s0, s1, s2, s3, s4, s5, s6⟩
                 go_simp
                 with_reducible rfl
                rotate_left
                ·simp only [Act.put, List.setIfInBounds_toArray, List.set_cons_zero, List.set_cons_succ, i64_w, i32_w]
                 rfl
                refine one_ (i := 10) (N := some 47) #[true, true, true, true, true, true, true, true, true, true, true, true, true, false, false, false, false, false, false, false, false, false, false, false, false, false, false, false, false, false, false, false, false, false, false, false, false] rfl rfl (one_of HT_.out (by kernel_rfl)) (by decide) (fun K hK => ?_)
                refine goes_ Tryd.func60 (by kernel_rfl) rfl #[.slice Ao33 t261.length co33] (by rfl) rfl rfl (by (try simp only [List.map_toArray, List.map_cons, List.map_nil]); first | done | rfl | (simp only [List.length_drop, List.length_take]; rfl)) ?_
                with_reducible refine (spec_l01Text.calls k2 _ _ t261 t264 _ ?side1 ?side2 A25.out).mono ?_
                (case side1 => repeat (first | exact (Kd.R_reads' HO263.out).2.2 | (with_reducible refine Kd.C_alloc ?_ _) | (with_reducible refine Kd.C_drewN ?_ _) | (with_reducible refine Kd.C_drew ?_)))
                (case side2 => exact (Kd.R_reads' HO263.out).2.1)
                rintro e w34 ⟨rfl, hb⟩
                refine ⟨_, rfl, ?_⟩
                replace HO263 := am (Kd.R_below (kR HO263.out) hb)
                replace BK258 := am (blk_below (g := gb258) (o := .cells #[.slice (some ad259) l0_0.length c0_0, .int .i64 a0_1, .bool a0_2] 48 (0, 0)) (bk BK258.out) hb)
                replace BK260 := am (blk_below (g := gb260) (o := .cells #[.string ((rd_T72 l0_0 x3_2).f0), .slice A259_1 ((rd_T72 l0_0 x3_2).f1).length c259_1] 72 (0, 0)) (bk BK260.out) hb)
                replace HB := am (below_step bS hb)
                (try clear hb)
                (try clear hb2)
                (try clear hk)
                (try clear hi)
                refine hK.out _ _ ⟨(blk_cell BK260.out 0).trans rfl, (blk_cell BK260.out 1).trans rfl, (blk_cell BK258.out 0).trans rfl, (blk_cell BK258.out 1).trans rfl, (blk_cell BK258.out 2).trans rfl, ((HB.out.cell (World.block_lt_of_cell? w _ hw265_0)).trans hw265_0), ((HB.out.cell (World.block_lt_of_cell? w _ hw265_1)).trans hw265_1)⟩ (fun hHeld => ?_)
                clear hK K
                refine norm_ (a' := ?_) ?_ ?_
                rotate_left
                ·show Act.put _ (some 47) _ = _
                 simp only [Act.put, List.setIfInBounds_toArray, List.set_cons_zero, List.set_cons_succ, i64_w, i32_w]
                 rfl
                refine pq 13 50 HT_.out ?_
                refine pq 14 51 HT_.out ?_
                refine pq 15 52 HT_.out ?_
                refine pq 16 53 HT_.out ?_
                refine pq 17 54 HT_.out ?_
                refine pq 18 55 HT_.out ?_
                refine pq 19 56 HT_.out ?_
                refine pq 21 58 HT_.out ?_
                refine pq 22 59 HT_.out ?_
                refine pq 26 63 HT_.out ?_
                refine take_ (i := 20) (N := some 57) (v := ?_) (a' := ?_) #[true, true, true, true, true, true, true, true, true, true, true, true, true, true, true, true, true, true, true, true, true, true, true, false, false, false, true, false, false, false, false, false, false, false, false, false, false] rfl rfl (take_ofW HT_.out HW_.out (by kernel_rfl)) (fun _ _ _ h => h) (Or.inl ⟨by rfl, ?_⟩) hHeld ?_ ?_
                rotate_left
                ·rintro w' ⟨s0, s1, s2, s3, s4, s5, s6⟩
                 go_simp
                 with_reducible rfl
                rotate_left
                ·simp only [Act.put, List.setIfInBounds_toArray, List.set_cons_zero, List.set_cons_succ, i64_w, i32_w]
                 rfl
                refine pq 23 60 HT_.out ?_
                refine pq 24 61 HT_.out ?_
                refine take_ (i := 25) (N := some 62) (v := ?_) (a' := ?_) #[true, true, true, true, true, true, true, true, true, true, true, true, true, true, true, true, true, true, true, true, true, true, true, true, true, true, true, false, false, false, false, false, false, false, false, false, false] rfl rfl (take_ofW HT_.out HW_.out (by kernel_rfl)) (fun _ _ _ h => h) (Or.inl ⟨by rfl, ?_⟩) hHeld ?_ ?_
                rotate_left
                ·rintro w' ⟨s0, s1, s2, s3, s4, s5, s6⟩
                 go_simp
                 with_reducible rfl
                rotate_left
                ·simp only [Act.put, List.setIfInBounds_toArray, List.set_cons_zero, List.set_cons_succ, i64_w, i32_w]
                 rfl
                refine take_ (i := 27) (N := some 64) (v := ?_) (a' := ?_) #[true, true, true, true, true, true, true, true, true, true, true, true, true, true, true, true, true, true, true, true, true, true, true, true, true, true, true, true, false, false, false, false, false, false, false, false, false] rfl rfl (take_ofW HT_.out HW_.out (by kernel_rfl)) (fun _ _ _ h => h) (Or.inl ⟨by rfl, ?_⟩) hHeld ?_ ?_
                rotate_left
                ·rintro w' ⟨s0, s1, s2, s3, s4, s5, s6⟩
                 go_simp
                 with_reducible rfl
                rotate_left
                ·simp only [Act.put, List.setIfInBounds_toArray, List.set_cons_zero, List.set_cons_succ, i64_w, i32_w]
                 rfl
                refine pq 28 65 HT_.out ?_
                refine pq 29 66 HT_.out ?_
                refine pq 30 67 HT_.out ?_
                refine pq 31 68 HT_.out ?_
                refine pq 32 69 HT_.out ?_
                refine take_ (i := 33) (N := some 70) (v := ?_) (a' := ?_) #[true, true, true, true, true, true, true, true, true, true, true, true, true, true, true, true, true, true, true, true, true, true, true, true, true, true, true, true, true, true, true, true, true, true, false, false, false] rfl rfl (take_ofW HT_.out HW_.out (by kernel_rfl)) (fun _ _ _ h => h) (Or.inl ⟨by rfl, ?_⟩) hHeld ?_ ?_
                rotate_left
                ·rintro w' ⟨s0, s1, s2, s3, s4, s5, s6⟩
                 go_simp
                 with_reducible rfl
                rotate_left
                ·simp only [Act.put, List.setIfInBounds_toArray, List.set_cons_zero, List.set_cons_succ, i64_w, i32_w]
                 rfl
                refine pq 34 71 HT_.out ?_
                refine pq 35 72 HT_.out ?_
                refine pq 36 73 HT_.out ?_
                refine done_ (done_of HT_.out (by kernel_rfl)) ?_
                try go_wp2
                go_meet
                case rel => exact ⟨_, (decide ((((rd_T72 l0_0 x3_2).f1).length : Int) > 20)), (by first | rfl | (simp; done) | (simp [*]; done)), H', ⟨by have := HJ1.out; have := HK2.out; first | omega | exact Nat.le_refl _⟩, ⟨bk BK258.out⟩, ⟨bk BK260.out⟩, ⟨bS⟩⟩
               ·rw [if_neg c31] at H
                have c31b0 : (Op.bytesLess (((rd_T72 l0_0 (ji28)).f0).toList) (((rd_T72 l0_0 x3_2).f0).toList)) = false := by simpa using c31
                clear c31
                have H' := am H
                clear H
                try go_wp2
                replace HO263 := am (Kd.R_drew HO263.out)
                replace BK258 := am (blk_drew BK258.out)
                replace BK260 := am (blk_drew BK260.out)
                replace HB := am (below_drew1 HB.out)
                obtain ⟨Ao36, co36, eo36⟩ := Kd.R_slice HO263.out
                (first | subst eo36 | (injection eo36 with f1_ f2_ f3_; have f4_ := f1_.symm; have f5_ := f3_.symm; clear f1_ f2_ f3_; subst f4_; subst f5_))
                have p265 : 0 ≤ ((ji28) : Int) := od
                have q265 : (ji28) < (l0_0.length : Int) := od
                obtain ⟨ad265, A265_1, c265_1, e265, hx265_0, hx265_1, hl265_1, hi265_1⟩ := at_T72 HR0_0.out (ji28) p265 q265
                have hw265_1 := hx265_1
                have hw265_0 := hx265_0
                obtain rfl : ad259 = ad265 := (by injection e265)
                replace hx265_0 := (HB.out.cell (World.block_lt_of_cell? w _ hx265_0)).trans hx265_0
                replace hx265_1 := (HB.out.cell (World.block_lt_of_cell? w _ hx265_1)).trans hx265_1
                have HR265_1 := am hi265_1
                have HC265_1 := am hl265_1
                clear hi265_1 hl265_1
                replace p265 := eq_true p265
                replace q265 := eq_true q265
                refine start_ (n := 37) (S := fun w' => w'.cell? ⟨gb260, 0, none⟩ = some (.string ((rd_T72 l0_0 x3_2).f0)) ∧ w'.cell? ⟨gb260, 1, none⟩ = some (.slice A259_1 ((rd_T72 l0_0 x3_2).f1).length c259_1) ∧ w'.cell? ⟨gb258, 0, none⟩ = some (.slice (some ad259) l0_0.length c0_0) ∧ w'.cell? ⟨gb258, 1, none⟩ = some (.int .i64 a0_1) ∧ w'.cell? ⟨gb258, 2, none⟩ = some (.bool a0_2) ∧ w'.cell? (ad259.add (((ji28)).toNat * 2)) = some (.string ((rd_T72 l0_0 (ji28)).f0)) ∧ w'.cell? ⟨(ad259.add (((ji28)).toNat * 2)).block, (ad259.add (((ji28)).toNat * 2)).off + 1, none⟩ = some (.slice A265_1 ((rd_T72 l0_0 (ji28)).f1).length c265_1)) (ds := []) #[false, false, false, false, false, false, false, false, false, false, false, false, false, false, false, false, false, false, false, false, false, false, false, false, false, false, false, false, false, false, false, false, false, false, false, false, false] (by kernel_rfl) rfl rfl ⟨(blk_cell BK260.out 0).trans rfl, (blk_cell BK260.out 1).trans rfl, (blk_cell BK258.out 0).trans rfl, (blk_cell BK258.out 1).trans rfl, (blk_cell BK258.out 2).trans rfl, ((HB.out.cell (World.block_lt_of_cell? w _ hw265_0)).trans hw265_0), ((HB.out.cell (World.block_lt_of_cell? w _ hw265_1)).trans hw265_1)⟩ (fun hHeld => ?_); refine with_tabW spec_CollatorFault.tab8 spec_CollatorFault.bits8 (fun HT_ HW_ => ?_)
                generalize w18.drew = w35 at HO263 BK258 BK260 HB HR265_1 hx265_0 hx265_1 hHeld ⊢
                refine pq 0 37 HT_.out ?_
                refine pq 1 38 HT_.out ?_
                refine pq 2 39 HT_.out ?_
                refine pq 3 40 HT_.out ?_
                refine pq 4 41 HT_.out ?_
                refine pq 5 42 HT_.out ?_
                refine pq 6 43 HT_.out ?_
                refine pq 7 44 HT_.out ?_
                refine pq 8 45 HT_.out ?_
                refine pq 9 46 HT_.out ?_
                refine pq 11 48 HT_.out ?_
                refine take_ (i := 12) (N := some 49) (v := ?_) (a' := ?_) #[true, true, true, true, true, true, true, true, true, true, false, true, true, false, false, false, false, false, false, false, false, false, false, false, false, false, false, false, false, false, false, false, false, false, false, false, false] rfl rfl (take_ofW HT_.out HW_.out (by kernel_rfl)) (fun _ _ _ h => h) (Or.inl ⟨by rfl, ?_⟩) hHeld ?_ ?_
                rotate_left
                ·rintro w' ⟨s0, s1, s2, s3, s4, s5, s6⟩
                 go_simp
                 with_reducible rfl
                rotate_left
                ·simp only [Act.put, List.setIfInBounds_toArray, List.set_cons_zero, List.set_cons_succ, i64_w, i32_w]
                 rfl
                refine one_ (i := 10) (N := some 47) #[true, true, true, true, true, true, true, true, true, true, true, true, true, false, false, false, false, false, false, false, false, false, false, false, false, false, false, false, false, false, false, false, false, false, false, false, false] rfl rfl (one_of HT_.out (by kernel_rfl)) (by decide) (fun K hK => ?_)
                refine goes_ Tryd.func60 (by kernel_rfl) rfl #[.slice Ao36 t261.length co36] (by rfl) rfl rfl (by (try simp only [List.map_toArray, List.map_cons, List.map_nil]); first | done | rfl | (simp only [List.length_drop, List.length_take]; rfl)) ?_
                with_reducible refine (spec_l01Text.calls k2 _ _ t261 t264 _ ?side1 ?side2 A25.out).mono ?_
                (case side1 => repeat (first | exact (Kd.R_reads' HO263.out).2.2 | (with_reducible refine Kd.C_alloc ?_ _) | (with_reducible refine Kd.C_drewN ?_ _) | (with_reducible refine Kd.C_drew ?_)))
                (case side2 => exact (Kd.R_reads' HO263.out).2.1)
                rintro e w37 ⟨rfl, hb⟩
                refine ⟨_, rfl, ?_⟩
                replace HO263 := am (Kd.R_below (kR HO263.out) hb)
                replace BK258 := am (blk_below (g := gb258) (o := .cells #[.slice (some ad259) l0_0.length c0_0, .int .i64 a0_1, .bool a0_2] 48 (0, 0)) (bk BK258.out) hb)
                replace BK260 := am (blk_below (g := gb260) (o := .cells #[.string ((rd_T72 l0_0 x3_2).f0), .slice A259_1 ((rd_T72 l0_0 x3_2).f1).length c259_1] 72 (0, 0)) (bk BK260.out) hb)
                replace HB := am (below_step bS hb)
                (try clear hb)
                (try clear hb2)
                (try clear hk)
                (try clear hi)
                refine hK.out _ _ ⟨(blk_cell BK260.out 0).trans rfl, (blk_cell BK260.out 1).trans rfl, (blk_cell BK258.out 0).trans rfl, (blk_cell BK258.out 1).trans rfl, (blk_cell BK258.out 2).trans rfl, ((HB.out.cell (World.block_lt_of_cell? w _ hw265_0)).trans hw265_0), ((HB.out.cell (World.block_lt_of_cell? w _ hw265_1)).trans hw265_1)⟩ (fun hHeld => ?_)
                clear hK K
                refine norm_ (a' := ?_) ?_ ?_
                rotate_left
                ·show Act.put _ (some 47) _ = _
                 simp only [Act.put, List.setIfInBounds_toArray, List.set_cons_zero, List.set_cons_succ, i64_w, i32_w]
                 rfl
                refine pq 13 50 HT_.out ?_
                refine pq 14 51 HT_.out ?_
                refine pq 15 52 HT_.out ?_
                refine pq 16 53 HT_.out ?_
                refine pq 17 54 HT_.out ?_
                refine pq 18 55 HT_.out ?_
                refine pq 19 56 HT_.out ?_
                refine pq 21 58 HT_.out ?_
                refine pq 22 59 HT_.out ?_
                refine pq 26 63 HT_.out ?_
                refine take_ (i := 20) (N := some 57) (v := ?_) (a' := ?_) #[true, true, true, true, true, true, true, true, true, true, true, true, true, true, true, true, true, true, true, true, true, true, true, false, false, false, true, false, false, false, false, false, false, false, false, false, false] rfl rfl (take_ofW HT_.out HW_.out (by kernel_rfl)) (fun _ _ _ h => h) (Or.inl ⟨by rfl, ?_⟩) hHeld ?_ ?_
                rotate_left
                ·rintro w' ⟨s0, s1, s2, s3, s4, s5, s6⟩
                 go_simp
                 with_reducible rfl
                rotate_left
                ·simp only [Act.put, List.setIfInBounds_toArray, List.set_cons_zero, List.set_cons_succ, i64_w, i32_w]
                 rfl
                refine pq 23 60 HT_.out ?_
                refine pq 24 61 HT_.out ?_
                refine take_ (i := 25) (N := some 62) (v := ?_) (a' := ?_) #[true, true, true, true, true, true, true, true, true, true, true, true, true, true, true, true, true, true, true, true, true, true, true, true, true, true, true, false, false, false, false, false, false, false, false, false, false] rfl rfl (take_ofW HT_.out HW_.out (by kernel_rfl)) (fun _ _ _ h => h) (Or.inl ⟨by rfl, ?_⟩) hHeld ?_ ?_
                rotate_left
                ·rintro w' ⟨s0, s1, s2, s3, s4, s5, s6⟩
                 go_simp
                 with_reducible rfl
                rotate_left
                ·simp only [Act.put, List.setIfInBounds_toArray, List.set_cons_zero, List.set_cons_succ, i64_w, i32_w]
                 rfl
                refine take_ (i := 27) (N := some 64) (v := ?_) (a' := ?_) #[true, true, true, true, true, true, true, true, true, true, true, true, true, true, true, true, true, true, true, true, true, true, true, true, true, true, true, true, false, false, false, false, false, false, false, false, false] rfl rfl (take_ofW HT_.out HW_.out (by kernel_rfl)) (fun _ _ _ h => h) (Or.inl ⟨by rfl, ?_⟩) hHeld ?_ ?_
                rotate_left
                ·rintro w' ⟨s0, s1, s2, s3, s4, s5, s6⟩
                 go_simp
                 with_reducible rfl
                rotate_left
                ·simp only [Act.put, List.setIfInBounds_toArray, List.set_cons_zero, List.set_cons_succ, i64_w, i32_w]
                 rfl
                refine pq 28 65 HT_.out ?_
                refine pq 29 66 HT_.out ?_
                refine pq 30 67 HT_.out ?_
                refine pq 31 68 HT_.out ?_
                refine pu 32 69 HT_.out ?_
                refine pu 33 70 HT_.out ?_
                refine pu 34 71 HT_.out ?_
                refine pu 35 72 HT_.out ?_
                refine pq 36 73 HT_.out ?_
                refine done_ (done_of HT_.out (by kernel_rfl)) ?_
                try go_wp2
                go_meet
                case rel => exact ⟨_, (true), (by first | rfl | (simp; done) | (simp [*]; done)), H', ⟨by have := HJ1.out; have := HK2.out; first | omega | exact Nat.le_refl _⟩, ⟨bk BK258.out⟩, ⟨bk BK260.out⟩, ⟨bS⟩⟩
              ·rw [if_neg c30] at H
               exact absurd H (by simp)
             ·rw [if_neg c29] at H
              exact absurd H (by simp)
            ·rw [if_neg c27] at H
             have c27b0 : decide (0 < x3_2) = false := decide_eq_false c27
             clear c27
             have H' := am H
             clear H
             try go_wp2
             replace HO263 := am (Kd.R_drew HO263.out)
             replace BK258 := am (blk_drew BK258.out)
             replace BK260 := am (blk_drew BK260.out)
             replace HB := am (below_drew1 HB.out)
             obtain ⟨Ao39, co39, eo39⟩ := Kd.R_slice HO263.out
             (first | subst eo39 | (injection eo39 with f1_ f2_ f3_; have f4_ := f1_.symm; have f5_ := f3_.symm; clear f1_ f2_ f3_; subst f4_; subst f5_))
             refine start_ (n := 37) (S := fun w' => w'.cell? ⟨gb260, 0, none⟩ = some (.string ((rd_T72 l0_0 x3_2).f0)) ∧ w'.cell? ⟨gb260, 1, none⟩ = some (.slice A259_1 ((rd_T72 l0_0 x3_2).f1).length c259_1)) (ds := []) #[false, false, false, false, false, false, false, false, false, false, false, false, false, false, false, false, false, false, false, false, false, false, false, false, false, false, false, false, false, false, false, false, false, false, false, false, false] (by kernel_rfl) rfl rfl ⟨(blk_cell BK260.out 0).trans rfl, (blk_cell BK260.out 1).trans rfl⟩ (fun hHeld => ?_); refine with_tabW spec_CollatorFault.tab8 spec_CollatorFault.bits8 (fun HT_ HW_ => ?_)
             generalize w18.drew = w38 at HO263 BK258 BK260 HB hHeld ⊢
             refine pq 0 37 HT_.out ?_
             refine pq 1 38 HT_.out ?_
             refine pq 2 39 HT_.out ?_
             refine pq 3 40 HT_.out ?_
             refine pq 4 41 HT_.out ?_
             refine pq 5 42 HT_.out ?_
             refine pq 6 43 HT_.out ?_
             refine pq 7 44 HT_.out ?_
             refine pq 8 45 HT_.out ?_
             refine pq 9 46 HT_.out ?_
             refine pq 11 48 HT_.out ?_
             refine take_ (i := 12) (N := some 49) (v := ?_) (a' := ?_) #[true, true, true, true, true, true, true, true, true, true, false, true, true, false, false, false, false, false, false, false, false, false, false, false, false, false, false, false, false, false, false, false, false, false, false, false, false] rfl rfl (take_ofW HT_.out HW_.out (by kernel_rfl)) (fun _ _ _ h => h) (Or.inl ⟨by rfl, ?_⟩) hHeld ?_ ?_
             rotate_left
             ·rintro w' ⟨s0, s1⟩
              go_simp
              with_reducible rfl
             rotate_left
             ·simp only [Act.put, List.setIfInBounds_toArray, List.set_cons_zero, List.set_cons_succ, i64_w, i32_w]
              rfl
             refine one_ (i := 10) (N := some 47) #[true, true, true, true, true, true, true, true, true, true, true, true, true, false, false, false, false, false, false, false, false, false, false, false, false, false, false, false, false, false, false, false, false, false, false, false, false] rfl rfl (one_of HT_.out (by kernel_rfl)) (by decide) (fun K hK => ?_)
             refine goes_ Tryd.func60 (by kernel_rfl) rfl #[.slice Ao39 t261.length co39] (by rfl) rfl rfl (by (try simp only [List.map_toArray, List.map_cons, List.map_nil]); first | done | rfl | (simp only [List.length_drop, List.length_take]; rfl)) ?_
             with_reducible refine (spec_l01Text.calls k2 _ _ t261 t264 _ ?side1 ?side2 A25.out).mono ?_
             (case side1 => repeat (first | exact (Kd.R_reads' HO263.out).2.2 | (with_reducible refine Kd.C_alloc ?_ _) | (with_reducible refine Kd.C_drewN ?_ _) | (with_reducible refine Kd.C_drew ?_)))
             (case side2 => exact (Kd.R_reads' HO263.out).2.1)
             rintro e w40 ⟨rfl, hb⟩
             refine ⟨_, rfl, ?_⟩
             replace HO263 := am (Kd.R_below (kR HO263.out) hb)
             replace BK258 := am (blk_below (g := gb258) (o := .cells #[.slice (some ad259) l0_0.length c0_0, .int .i64 a0_1, .bool a0_2] 48 (0, 0)) (bk BK258.out) hb)
             replace BK260 := am (blk_below (g := gb260) (o := .cells #[.string ((rd_T72 l0_0 x3_2).f0), .slice A259_1 ((rd_T72 l0_0 x3_2).f1).length c259_1] 72 (0, 0)) (bk BK260.out) hb)
             replace HB := am (below_step bS hb)
             (try clear hb)
             (try clear hb2)
             (try clear hk)
             (try clear hi)
             refine hK.out _ _ ⟨(blk_cell BK260.out 0).trans rfl, (blk_cell BK260.out 1).trans rfl⟩ (fun hHeld => ?_)
             clear hK K
             refine norm_ (a' := ?_) ?_ ?_
             rotate_left
             ·show Act.put _ (some 47) _ = _
              simp only [Act.put, List.setIfInBounds_toArray, List.set_cons_zero, List.set_cons_succ, i64_w, i32_w]
              rfl
             refine pq 13 50 HT_.out ?_
             refine pq 14 51 HT_.out ?_
             refine pq 15 52 HT_.out ?_
             refine pq 16 53 HT_.out ?_
             refine pq 17 54 HT_.out ?_
             refine pq 18 55 HT_.out ?_
             refine pu 19 56 HT_.out ?_
             refine pu 20 57 HT_.out ?_
             refine pu 21 58 HT_.out ?_
             refine pu 22 59 HT_.out ?_
             refine pu 23 60 HT_.out ?_
             refine pu 24 61 HT_.out ?_
             refine pu 25 62 HT_.out ?_
             refine pu 26 63 HT_.out ?_
             refine pu 27 64 HT_.out ?_
             refine pu 28 65 HT_.out ?_
             refine pq 29 66 HT_.out ?_
             refine pq 30 67 HT_.out ?_
             refine pq 31 68 HT_.out ?_
             refine pq 32 69 HT_.out ?_
             refine take_ (i := 33) (N := some 70) (v := ?_) (a' := ?_) #[true, true, true, true, true, true, true, true, true, true, true, true, true, true, true, true, true, true, true, true, true, true, true, true, true, true, true, true, true, true, true, true, true, true, false, false, false] rfl rfl (take_ofW HT_.out HW_.out (by kernel_rfl)) (fun _ _ _ h => h) (Or.inl ⟨by rfl, ?_⟩) hHeld ?_ ?_
             rotate_left
             ·rintro w' ⟨s0, s1⟩
              go_simp
              with_reducible rfl
             rotate_left
             ·simp only [Act.put, List.setIfInBounds_toArray, List.set_cons_zero, List.set_cons_succ, i64_w, i32_w]
              rfl
             refine pq 34 71 HT_.out ?_
             refine pq 35 72 HT_.out ?_
             refine pq 36 73 HT_.out ?_
             refine done_ (done_of HT_.out (by kernel_rfl)) ?_
             try go_wp2
             go_meet
             case rel => exact ⟨_, (decide ((((rd_T72 l0_0 x3_2).f1).length : Int) > 20)), (by first | rfl | (simp; done) | (simp [*]; done)), H', ⟨by have := HJ1.out; have := HK2.out; first | omega | exact Nat.le_refl _⟩, ⟨bk BK258.out⟩, ⟨bk BK260.out⟩, ⟨bS⟩⟩
           ·rw [if_neg c26] at H
            have c26b0 : (t264.toList == ((rd_T72 l0_0 x3_2).f0).toList) = false := beq_eq_false_iff_ne.mpr c26
            have c26b1 : (t264.toList != ((rd_T72 l0_0 x3_2).f0).toList) = true := bne_iff_ne.mpr c26
            have H' := am H
            clear H
            try go_wp2
            replace HO263 := am (Kd.R_drew HO263.out)
            replace BK258 := am (blk_drew BK258.out)
            replace BK260 := am (blk_drew BK260.out)
            replace HB := am (below_drew1 HB.out)
            obtain ⟨Ao42, co42, eo42⟩ := Kd.R_slice HO263.out
            (first | subst eo42 | (injection eo42 with f1_ f2_ f3_; have f4_ := f1_.symm; have f5_ := f3_.symm; clear f1_ f2_ f3_; subst f4_; subst f5_))
            refine start_ (n := 37) (S := fun w' => w'.cell? ⟨gb260, 0, none⟩ = some (.string ((rd_T72 l0_0 x3_2).f0)) ∧ w'.cell? ⟨gb260, 1, none⟩ = some (.slice A259_1 ((rd_T72 l0_0 x3_2).f1).length c259_1)) (ds := []) #[false, false, false, false, false, false, false, false, false, false, false, false, false, false, false, false, false, false, false, false, false, false, false, false, false, false, false, false, false, false, false, false, false, false, false, false, false] (by kernel_rfl) rfl rfl ⟨(blk_cell BK260.out 0).trans rfl, (blk_cell BK260.out 1).trans rfl⟩ (fun hHeld => ?_); refine with_tabW spec_CollatorFault.tab8 spec_CollatorFault.bits8 (fun HT_ HW_ => ?_)
            generalize w18.drew = w41 at HO263 BK258 BK260 HB hHeld ⊢
            refine pq 0 37 HT_.out ?_
            refine pq 1 38 HT_.out ?_
            refine pq 2 39 HT_.out ?_
            refine pq 3 40 HT_.out ?_
            refine pq 4 41 HT_.out ?_
            refine pq 5 42 HT_.out ?_
            refine pq 6 43 HT_.out ?_
            refine pq 7 44 HT_.out ?_
            refine pq 8 45 HT_.out ?_
            refine pq 9 46 HT_.out ?_
            refine pq 11 48 HT_.out ?_
            refine take_ (i := 12) (N := some 49) (v := ?_) (a' := ?_) #[true, true, true, true, true, true, true, true, true, true, false, true, true, false, false, false, false, false, false, false, false, false, false, false, false, false, false, false, false, false, false, false, false, false, false, false, false] rfl rfl (take_ofW HT_.out HW_.out (by kernel_rfl)) (fun _ _ _ h => h) (Or.inl ⟨by rfl, ?_⟩) hHeld ?_ ?_
            rotate_left
            ·rintro w' ⟨s0, s1⟩
             go_simp
             with_reducible rfl
            rotate_left
            ·simp only [Act.put, List.setIfInBounds_toArray, List.set_cons_zero, List.set_cons_succ, i64_w, i32_w]
             rfl
            refine one_ (i := 10) (N := some 47) #[true, true, true, true, true, true, true, true, true, true, true, true, true, false, false, false, false, false, false, false, false, false, false, false, false, false, false, false, false, false, false, false, false, false, false, false, false] rfl rfl (one_of HT_.out (by kernel_rfl)) (by decide) (fun K hK => ?_)
            refine goes_ Tryd.func60 (by kernel_rfl) rfl #[.slice Ao42 t261.length co42] (by rfl) rfl rfl (by (try simp only [List.map_toArray, List.map_cons, List.map_nil]); first | done | rfl | (simp only [List.length_drop, List.length_take]; rfl)) ?_
            with_reducible refine (spec_l01Text.calls k2 _ _ t261 t264 _ ?side1 ?side2 A25.out).mono ?_
            (case side1 => repeat (first | exact (Kd.R_reads' HO263.out).2.2 | (with_reducible refine Kd.C_alloc ?_ _) | (with_reducible refine Kd.C_drewN ?_ _) | (with_reducible refine Kd.C_drew ?_)))
            (case side2 => exact (Kd.R_reads' HO263.out).2.1)
            rintro e w43 ⟨rfl, hb⟩
            refine ⟨_, rfl, ?_⟩
            replace HO263 := am (Kd.R_below (kR HO263.out) hb)
            replace BK258 := am (blk_below (g := gb258) (o := .cells #[.slice (some ad259) l0_0.length c0_0, .int .i64 a0_1, .bool a0_2] 48 (0, 0)) (bk BK258.out) hb)
            replace BK260 := am (blk_below (g := gb260) (o := .cells #[.string ((rd_T72 l0_0 x3_2).f0), .slice A259_1 ((rd_T72 l0_0 x3_2).f1).length c259_1] 72 (0, 0)) (bk BK260.out) hb)
            replace HB := am (below_step bS hb)
            (try clear hb)
            (try clear hb2)
            (try clear hk)
            (try clear hi)
            refine hK.out _ _ ⟨(blk_cell BK260.out 0).trans rfl, (blk_cell BK260.out 1).trans rfl⟩ (fun hHeld => ?_)
            clear hK K
            refine norm_ (a' := ?_) ?_ ?_
            rotate_left
            ·show Act.put _ (some 47) _ = _
             simp only [Act.put, List.setIfInBounds_toArray, List.set_cons_zero, List.set_cons_succ, i64_w, i32_w]
             rfl
            refine pq 13 50 HT_.out ?_
            refine pq 14 51 HT_.out ?_
            refine pq 15 52 HT_.out ?_
            refine pu 16 53 HT_.out ?_
            refine pu 17 54 HT_.out ?_
            refine pu 18 55 HT_.out ?_
            refine pu 19 56 HT_.out ?_
            refine pu 20 57 HT_.out ?_
            refine pu 21 58 HT_.out ?_
            refine pu 22 59 HT_.out ?_
            refine pu 23 60 HT_.out ?_
            refine pu 24 61 HT_.out ?_
            refine pu 25 62 HT_.out ?_
            refine pu 26 63 HT_.out ?_
            refine pu 27 64 HT_.out ?_
            refine pu 28 65 HT_.out ?_
            refine pu 29 66 HT_.out ?_
            refine pq 30 67 HT_.out ?_
            refine pq 31 68 HT_.out ?_
            refine pu 32 69 HT_.out ?_
            refine pu 33 70 HT_.out ?_
            refine pu 34 71 HT_.out ?_
            refine pu 35 72 HT_.out ?_
            refine pq 36 73 HT_.out ?_
            refine done_ (done_of HT_.out (by kernel_rfl)) ?_
            try go_wp2
            go_meet
            case rel => exact ⟨_, (true), (by first | rfl | (simp; done) | (simp [*]; done)), H', ⟨by have := HJ1.out; have := HK2.out; first | omega | exact Nat.le_refl _⟩, ⟨bk BK258.out⟩, ⟨bk BK260.out⟩, ⟨bS⟩⟩
        case rest =>
         clear HC13
         try clear c2
         try clear p2
         try clear c3
         try clear c6
         try clear c25
         try clear c26
         try clear c26b0
         try clear c26b1
         try clear c27
         try clear c27b0
         try clear c29
         try clear c30
         obtain ⟨kq, x73_12, rfl, HA, HJ12, BK258, BK260, HB⟩ := hcut
         cases kq with
         | zero => exact absurd HA.out (by simp [spec_CollatorFault.j2])
         | succ kj12 =>
          have H := HA.out
          clear HA
          simp only [spec_CollatorFault.j2] at H
          by_cases c44 : x73_12 = true
          ·subst c44
           have H1 : (some 1) = some r := by rw [if_pos rfl] at H; exact H
           clear H
           have H := H1
           clear H1
           obtain rfl := Option.some.inj H
           go_wp2
           go_ret
           exact ⟨rv, bS⟩
          ·replace c44 := Bool.eq_false_iff.mpr c44
           subst c44
           have H1 : (spec_CollatorFault.l1 kj12 x3_2 0 l0_0 a0_1 a0_2 ((rd_T72 l0_0 x3_2).f0) ((rd_T72 l0_0 x3_2).f1)) = some r := by rw [if_neg (show ¬ (false = true) by decide)] at H; exact H
           clear H
           have H := H1
           clear H1
           have H' := am H
           clear H
           go_wp2
           go_loopg [6] kj12 (fun kq v6 w' => ∃ (x6_4 : Int), v6 = .int .i64 x6_4 ∧ Aside0 (spec_CollatorFault.l1 kq x3_2 x6_4 l0_0 a0_1 a0_2 ((rd_T72 l0_0 x3_2).f0) ((rd_T72 l0_0 x3_2).f1) = some r) ∧ Aside0 (kq ≤ kj12) ∧ Aside0 (w'.heap[gb258]? = some (.cells #[(.slice (some ad259) l0_0.length c0_0), .int .i64 a0_1, .bool a0_2] 48 (0, 0))) ∧ Aside0 (w'.heap[gb260]? = some (.cells #[.string ((rd_T72 l0_0 x3_2).f0), (.slice A259_1 ((rd_T72 l0_0 x3_2).f1).length c259_1)] 72 (0, 0))) ∧ Aside0 (Below w.heap.size w w'))
           case atStart => exact ⟨(0), (by first | rfl | (simp; done) | (simp [*]; done)), H', ⟨Nat.le_refl _⟩, ⟨bk BK258.out⟩, ⟨bk BK260.out⟩, ⟨bS⟩⟩
           case round =>
            clear H'
            try clear c2
            try clear p2
            try clear c3
            try clear c4
            try clear c6
            try clear c25
            try clear c26
            try clear c26b0
            try clear c26b1
            try clear c27
            try clear c27b0
            try clear c29
            try clear c30
            try clear c44
            try clear p2
            obtain ⟨x6_4, rfl, HA, HK4, BK258, BK260, HB⟩ := hrel
            cases gk with
            | zero => exact absurd HA.out (by simp [spec_CollatorFault.l1])
            | succ k4 =>
             have H := HA.out
             clear HA
             simp only [spec_CollatorFault.l1] at H
             by_cases c45 : x6_4 < (((rd_T72 l0_0 x3_2).f1).length : Int)
             ·rw [if_pos c45] at H
              have c45b0 : decide (x6_4 < (((rd_T72 l0_0 x3_2).f1).length : Int)) = true := decide_eq_true c45
              clear c45
              by_cases c46 : 0 ≤ x6_4
              ·rw [if_pos c46] at H
               have c46b0 : decide (0 ≤ x6_4) = true := decide_eq_true c46
               clear c46
               replace H := Option.bind_eq_some_iff.mp H
               obtain ⟨t268, A470, H⟩ := H
               replace H : (if t268 = true then ((spec_l11Number.f ((rd_T74 ((rd_T72 l0_0 x3_2).f1) x6_4).f1)).bind fun t269 => (if t269 = true then ((spec_l11Number.f ((rd_T74 ((rd_T72 l0_0 x3_2).f1) x6_4).f2)).bind fun t270 => (if t270 = true then (spec_CollatorFault.l1 k4 x3_2 (wrap64 (x6_4 + 1)) l0_0 a0_1 a0_2 ((rd_T72 l0_0 x3_2).f0) ((rd_T72 l0_0 x3_2).f1)) else (some 1))) else (some 1))) else (some 1)) = some r := H
               have A47 := am A470
               clear A470
               by_cases c48 : t268 = true
               ·subst c48
                have H1 : ((spec_l11Number.f ((rd_T74 ((rd_T72 l0_0 x3_2).f1) x6_4).f1)).bind fun t269 => (if t269 = true then ((spec_l11Number.f ((rd_T74 ((rd_T72 l0_0 x3_2).f1) x6_4).f2)).bind fun t270 => (if t270 = true then (spec_CollatorFault.l1 k4 x3_2 (wrap64 (x6_4 + 1)) l0_0 a0_1 a0_2 ((rd_T72 l0_0 x3_2).f0) ((rd_T72 l0_0 x3_2).f1)) else (some 1))) else (some 1))) = some r := by rw [if_pos rfl] at H; exact H
                clear H
                have H := H1
                clear H1
                replace H := Option.bind_eq_some_iff.mp H
                obtain ⟨t269, A490, H⟩ := H
                replace H : (if t269 = true then ((spec_l11Number.f ((rd_T74 ((rd_T72 l0_0 x3_2).f1) x6_4).f2)).bind fun t270 => (if t270 = true then (spec_CollatorFault.l1 k4 x3_2 (wrap64 (x6_4 + 1)) l0_0 a0_1 a0_2 ((rd_T72 l0_0 x3_2).f0) ((rd_T72 l0_0 x3_2).f1)) else (some 1))) else (some 1)) = some r := H
                have A49 := am A490
                clear A490
                by_cases c50 : t269 = true
                ·subst c50
                 have H1 : ((spec_l11Number.f ((rd_T74 ((rd_T72 l0_0 x3_2).f1) x6_4).f2)).bind fun t270 => (if t270 = true then (spec_CollatorFault.l1 k4 x3_2 (wrap64 (x6_4 + 1)) l0_0 a0_1 a0_2 ((rd_T72 l0_0 x3_2).f0) ((rd_T72 l0_0 x3_2).f1)) else (some 1))) = some r := by rw [if_pos rfl] at H; exact H
                 clear H
                 have H := H1
                 clear H1
                 replace H := Option.bind_eq_some_iff.mp H
                 obtain ⟨t270, A510, H⟩ := H
                 replace H : (if t270 = true then (spec_CollatorFault.l1 k4 x3_2 (wrap64 (x6_4 + 1)) l0_0 a0_1 a0_2 ((rd_T72 l0_0 x3_2).f0) ((rd_T72 l0_0 x3_2).f1)) else (some 1)) = some r := H
                 have A51 := am A510
                 clear A510
                 by_cases c52 : t270 = true
                 ·subst c52
                  have H1 : (spec_CollatorFault.l1 k4 x3_2 (wrap64 (x6_4 + 1)) l0_0 a0_1 a0_2 ((rd_T72 l0_0 x3_2).f0) ((rd_T72 l0_0 x3_2).f1)) = some r := by rw [if_pos rfl] at H; exact H
                  clear H
                  have H := H1
                  clear H1
                  have H' := am H
                  clear H
                  have hnb53 := NB260_258.out
                  have hnc53 := NB258_260.out
                  have hcz54_0 := bc BK260.out 0 (.string ((rd_T72 l0_0 x3_2).f0))
                  have hcz54_1 := bc BK260.out 1 (.slice A259_1 ((rd_T72 l0_0 x3_2).f1).length c259_1)
                  have hfz54_0 := blk_frozen BK260.out 0
                  have hfz54_1 := blk_frozen BK260.out 1
                  have p266 : 0 ≤ (x6_4 : Int) := od
                  have q266 : x6_4 < (((rd_T72 l0_0 x3_2).f1).length : Int) := od
                  obtain ⟨ad266, e266, hx266_0, hx266_1, hx266_2⟩ := at_T74 HR259_1.out x6_4 p266 q266
                  cases e266
                  replace hx266_0 := (HB.out.cell (World.block_lt_of_cell? w _ hx266_0)).trans hx266_0
                  replace hx266_1 := (HB.out.cell (World.block_lt_of_cell? w _ hx266_1)).trans hx266_1
                  replace hx266_2 := (HB.out.cell (World.block_lt_of_cell? w _ hx266_2)).trans hx266_2
                  replace p266 := eq_true p266
                  replace q266 := eq_true q266
                  go_wp2_with (first | ((with_reducible refine gate_dst (N := 7) rfl ?_); (try (refine gate_guard (by rfl) ?_; dsimp only)); refine bx 7 #[.int .i64 0, .int .i64 0, .int .i64 0] 74 ?_; intro gb267 hg w55 hbox hb; have BK267 := am (hbox); have GW267 := am ((by rw [hg]; exact (below_size bS) : w.heap.size ≤ gb267)); have GE267 := am ((by rw [hg]; exact (below_size bS) : w.heap.size ≤ gb267)); replace HB := am (below_step bS hb); have NB258_267 := am ((by rw [hg]; exact Nat.ne_of_lt (blk_lt (g := gb258) (o := .cells #[.slice (some ad259) l0_0.length c0_0, .int .i64 a0_1, .bool a0_2] 48 (0, 0)) (bk BK258.out)) : gb258 ≠ gb267)); have NB267_258 := am ((by rw [hg]; exact Nat.ne_of_gt (blk_lt (g := gb258) (o := .cells #[.slice (some ad259) l0_0.length c0_0, .int .i64 a0_1, .bool a0_2] 48 (0, 0)) (bk BK258.out)) : gb267 ≠ gb258)); replace BK258 := am (blk_below (g := gb258) (o := .cells #[.slice (some ad259) l0_0.length c0_0, .int .i64 a0_1, .bool a0_2] 48 (0, 0)) (bk BK258.out) hb); have NB260_267 := am ((by rw [hg]; exact Nat.ne_of_lt (blk_lt (g := gb260) (o := .cells #[.string ((rd_T72 l0_0 x3_2).f0), .slice (some ad266) ((rd_T72 l0_0 x3_2).f1).length c259_1] 72 (0, 0)) (bk BK260.out)) : gb260 ≠ gb267)); have NB267_260 := am ((by rw [hg]; exact Nat.ne_of_gt (blk_lt (g := gb260) (o := .cells #[.string ((rd_T72 l0_0 x3_2).f0), .slice (some ad266) ((rd_T72 l0_0 x3_2).f1).length c259_1] 72 (0, 0)) (bk BK260.out)) : gb267 ≠ gb260)); replace BK260 := am (blk_below (g := gb260) (o := .cells #[.string ((rd_T72 l0_0 x3_2).f0), .slice (some ad266) ((rd_T72 l0_0 x3_2).f1).length c259_1] 72 (0, 0)) (bk BK260.out) hb); clear hb hbox hg; have hnb56 := NB267_258.out; have hnc56 := NB258_267.out; have hnb57 := NB267_260.out; have hnc57 := NB260_267.out; have hcz58_0 := bc BK267.out 0 (.int .i64 0); have hcz58_1 := bc BK267.out 1 (.int .i64 0); have hcz58_2 := bc BK267.out 2 (.int .i64 0); have hfz58_0 := blk_frozen BK267.out 0; have hfz58_1 := blk_frozen BK267.out 1; have hfz58_2 := blk_frozen BK267.out 2) | ((with_reducible refine gate_callee (f := 65) rfl ?_); refine gl 88 Tryd.func65 #[.int .i64 ((rd_T74 ((rd_T72 l0_0 x3_2).f1) x6_4).f0)] ?_; (with_reducible refine (spec_l11Number.calls ((rd_T74 ((rd_T72 l0_0 x3_2).f1) x6_4).f0) true _ A47.out).mono ?_); rintro e w' ⟨rfl, ⟨nd, rfl⟩⟩; refine ⟨_, rfl, ?_⟩) | (go_at_call 65; (with_reducible refine (spec_l11Number.calls ((rd_T74 ((rd_T72 l0_0 x3_2).f1) x6_4).f1) true _ A49.out).mono ?_); rintro e w' ⟨rfl, ⟨nd, rfl⟩⟩) | (go_at_call 65; (with_reducible refine (spec_l11Number.calls ((rd_T74 ((rd_T72 l0_0 x3_2).f1) x6_4).f2) true _ A51.out).mono ?_); rintro e w' ⟨rfl, ⟨nd, rfl⟩⟩))
                  go_roundg k4
                  case measure => have := HJ1.out; have := HK2.out; have := HJ12.out; have := HK4.out; omega
                  case rel => exact ⟨(wrap64 (x6_4 + 1)), (by first | rfl | (simp; done) | (simp [*]; done)), H', ⟨by have := HJ1.out; have := HK2.out; have := HJ12.out; have := HK4.out; omega⟩, ⟨by (with_reducible repeat (first | refine blk_drewN ?_ _ | refine blk_drew ?_ | refine blk_alloc ?_ _)); refine blk_far ?_ NB258_267.out _; (with_reducible repeat (first | refine blk_drewN ?_ _ | refine blk_drew ?_ | refine blk_alloc ?_ _)); refine blk_far ?_ NB258_267.out _; (with_reducible repeat (first | refine blk_drewN ?_ _ | refine blk_drew ?_ | refine blk_alloc ?_ _)); refine blk_far ?_ NB258_267.out _; (with_reducible repeat (first | refine blk_drewN ?_ _ | refine blk_drew ?_ | refine blk_alloc ?_ _)); exact BK258.out⟩, ⟨by (with_reducible repeat (first | refine blk_drewN ?_ _ | refine blk_drew ?_ | refine blk_alloc ?_ _)); refine blk_far ?_ NB260_267.out _; (with_reducible repeat (first | refine blk_drewN ?_ _ | refine blk_drew ?_ | refine blk_alloc ?_ _)); refine blk_far ?_ NB260_267.out _; (with_reducible repeat (first | refine blk_drewN ?_ _ | refine blk_drew ?_ | refine blk_alloc ?_ _)); refine blk_far ?_ NB260_267.out _; (with_reducible repeat (first | refine blk_drewN ?_ _ | refine blk_drew ?_ | refine blk_alloc ?_ _)); exact BK260.out⟩, ⟨bS⟩⟩
                 ·replace c52 := Bool.eq_false_iff.mpr c52
                  subst c52
                  have H1 : (some 1) = some r := by rw [if_neg (show ¬ (false = true) by decide)] at H; exact H
                  clear H
                  have H := H1
                  clear H1
                  obtain rfl := Option.some.inj H
                  have hnb59 := NB260_258.out
                  have hnc59 := NB258_260.out
                  have hcz60_0 := bc BK260.out 0 (.string ((rd_T72 l0_0 x3_2).f0))
                  have hcz60_1 := bc BK260.out 1 (.slice A259_1 ((rd_T72 l0_0 x3_2).f1).length c259_1)
                  have hfz60_0 := blk_frozen BK260.out 0
                  have hfz60_1 := blk_frozen BK260.out 1
                  have p266 : 0 ≤ (x6_4 : Int) := od
                  have q266 : x6_4 < (((rd_T72 l0_0 x3_2).f1).length : Int) := od
                  obtain ⟨ad266, e266, hx266_0, hx266_1, hx266_2⟩ := at_T74 HR259_1.out x6_4 p266 q266
                  cases e266
                  replace hx266_0 := (HB.out.cell (World.block_lt_of_cell? w _ hx266_0)).trans hx266_0
                  replace hx266_1 := (HB.out.cell (World.block_lt_of_cell? w _ hx266_1)).trans hx266_1
                  replace hx266_2 := (HB.out.cell (World.block_lt_of_cell? w _ hx266_2)).trans hx266_2
                  replace p266 := eq_true p266
                  replace q266 := eq_true q266
                  go_wp2_with (first | ((with_reducible refine gate_dst (N := 7) rfl ?_); (try (refine gate_guard (by rfl) ?_; dsimp only)); refine bx 7 #[.int .i64 0, .int .i64 0, .int .i64 0] 74 ?_; intro gb267 hg w61 hbox hb; have BK267 := am (hbox); have GW267 := am ((by rw [hg]; exact (below_size bS) : w.heap.size ≤ gb267)); have GE267 := am ((by rw [hg]; exact (below_size bS) : w.heap.size ≤ gb267)); replace HB := am (below_step bS hb); have NB258_267 := am ((by rw [hg]; exact Nat.ne_of_lt (blk_lt (g := gb258) (o := .cells #[.slice (some ad259) l0_0.length c0_0, .int .i64 a0_1, .bool a0_2] 48 (0, 0)) (bk BK258.out)) : gb258 ≠ gb267)); have NB267_258 := am ((by rw [hg]; exact Nat.ne_of_gt (blk_lt (g := gb258) (o := .cells #[.slice (some ad259) l0_0.length c0_0, .int .i64 a0_1, .bool a0_2] 48 (0, 0)) (bk BK258.out)) : gb267 ≠ gb258)); replace BK258 := am (blk_below (g := gb258) (o := .cells #[.slice (some ad259) l0_0.length c0_0, .int .i64 a0_1, .bool a0_2] 48 (0, 0)) (bk BK258.out) hb); have NB260_267 := am ((by rw [hg]; exact Nat.ne_of_lt (blk_lt (g := gb260) (o := .cells #[.string ((rd_T72 l0_0 x3_2).f0), .slice (some ad266) ((rd_T72 l0_0 x3_2).f1).length c259_1] 72 (0, 0)) (bk BK260.out)) : gb260 ≠ gb267)); have NB267_260 := am ((by rw [hg]; exact Nat.ne_of_gt (blk_lt (g := gb260) (o := .cells #[.string ((rd_T72 l0_0 x3_2).f0), .slice (some ad266) ((rd_T72 l0_0 x3_2).f1).length c259_1] 72 (0, 0)) (bk BK260.out)) : gb267 ≠ gb260)); replace BK260 := am (blk_below (g := gb260) (o := .cells #[.string ((rd_T72 l0_0 x3_2).f0), .slice (some ad266) ((rd_T72 l0_0 x3_2).f1).length c259_1] 72 (0, 0)) (bk BK260.out) hb); clear hb hbox hg; have hnb62 := NB267_258.out; have hnc62 := NB258_267.out; have hnb63 := NB267_260.out; have hnc63 := NB260_267.out; have hcz64_0 := bc BK267.out 0 (.int .i64 0); have hcz64_1 := bc BK267.out 1 (.int .i64 0); have hcz64_2 := bc BK267.out 2 (.int .i64 0); have hfz64_0 := blk_frozen BK267.out 0; have hfz64_1 := blk_frozen BK267.out 1; have hfz64_2 := blk_frozen BK267.out 2) | ((with_reducible refine gate_callee (f := 65) rfl ?_); refine gl 88 Tryd.func65 #[.int .i64 ((rd_T74 ((rd_T72 l0_0 x3_2).f1) x6_4).f0)] ?_; (with_reducible refine (spec_l11Number.calls ((rd_T74 ((rd_T72 l0_0 x3_2).f1) x6_4).f0) true _ A47.out).mono ?_); rintro e w' ⟨rfl, ⟨nd, rfl⟩⟩; refine ⟨_, rfl, ?_⟩) | (go_at_call 65; (with_reducible refine (spec_l11Number.calls ((rd_T74 ((rd_T72 l0_0 x3_2).f1) x6_4).f1) true _ A49.out).mono ?_); rintro e w' ⟨rfl, ⟨nd, rfl⟩⟩) | (go_at_call 65; (with_reducible refine (spec_l11Number.calls ((rd_T74 ((rd_T72 l0_0 x3_2).f1) x6_4).f2) false _ A51.out).mono ?_); rintro e w' ⟨rfl, ⟨nd, rfl⟩⟩))
                  go_ret
                  exact ⟨rv, bS⟩
                ·replace c50 := Bool.eq_false_iff.mpr c50
                 subst c50
                 have H1 : (some 1) = some r := by rw [if_neg (show ¬ (false = true) by decide)] at H; exact H
                 clear H
                 have H := H1
                 clear H1
                 obtain rfl := Option.some.inj H
                 have hnb65 := NB260_258.out
                 have hnc65 := NB258_260.out
                 have hcz66_0 := bc BK260.out 0 (.string ((rd_T72 l0_0 x3_2).f0))
                 have hcz66_1 := bc BK260.out 1 (.slice A259_1 ((rd_T72 l0_0 x3_2).f1).length c259_1)
                 have hfz66_0 := blk_frozen BK260.out 0
                 have hfz66_1 := blk_frozen BK260.out 1
                 have p266 : 0 ≤ (x6_4 : Int) := od
                 have q266 : x6_4 < (((rd_T72 l0_0 x3_2).f1).length : Int) := od
                 obtain ⟨ad266, e266, hx266_0, hx266_1, hx266_2⟩ := at_T74 HR259_1.out x6_4 p266 q266
                 cases e266
                 replace hx266_0 := (HB.out.cell (World.block_lt_of_cell? w _ hx266_0)).trans hx266_0
                 replace hx266_1 := (HB.out.cell (World.block_lt_of_cell? w _ hx266_1)).trans hx266_1
                 replace hx266_2 := (HB.out.cell (World.block_lt_of_cell? w _ hx266_2)).trans hx266_2
                 replace p266 := eq_true p266
                 replace q266 := eq_true q266
                 go_wp2_with (first | ((with_reducible refine gate_dst (N := 7) rfl ?_); (try (refine gate_guard (by rfl) ?_; dsimp only)); refine bx 7 #[.int .i64 0, .int .i64 0, .int .i64 0] 74 ?_; intro gb267 hg w67 hbox hb; have BK267 := am (hbox); have GW267 := am ((by rw [hg]; exact (below_size bS) : w.heap.size ≤ gb267)); have GE267 := am ((by rw [hg]; exact (below_size bS) : w.heap.size ≤ gb267)); replace HB := am (below_step bS hb); have NB258_267 := am ((by rw [hg]; exact Nat.ne_of_lt (blk_lt (g := gb258) (o := .cells #[.slice (some ad259) l0_0.length c0_0, .int .i64 a0_1, .bool a0_2] 48 (0, 0)) (bk BK258.out)) : gb258 ≠ gb267)); have NB267_258 := am ((by rw [hg]; exact Nat.ne_of_gt (blk_lt (g := gb258) (o := .cells #[.slice (some ad259) l0_0.length c0_0, .int .i64 a0_1, .bool a0_2] 48 (0, 0)) (bk BK258.out)) : gb267 ≠ gb258)); replace BK258 := am (blk_below (g := gb258) (o := .cells #[.slice (some ad259) l0_0.length c0_0, .int .i64 a0_1, .bool a0_2] 48 (0, 0)) (bk BK258.out) hb); have NB260_267 := am ((by rw [hg]; exact Nat.ne_of_lt (blk_lt (g := gb260) (o := .cells #[.string ((rd_T72 l0_0 x3_2).f0), .slice (some ad266) ((rd_T72 l0_0 x3_2).f1).length c259_1] 72 (0, 0)) (bk BK260.out)) : gb260 ≠ gb267)); have NB267_260 := am ((by rw [hg]; exact Nat.ne_of_gt (blk_lt (g := gb260) (o := .cells #[.string ((rd_T72 l0_0 x3_2).f0), .slice (some ad266) ((rd_T72 l0_0 x3_2).f1).length c259_1] 72 (0, 0)) (bk BK260.out)) : gb267 ≠ gb260)); replace BK260 := am (blk_below (g := gb260) (o := .cells #[.string ((rd_T72 l0_0 x3_2).f0), .slice (some ad266) ((rd_T72 l0_0 x3_2).f1).length c259_1] 72 (0, 0)) (bk BK260.out) hb); clear hb hbox hg; have hnb68 := NB267_258.out; have hnc68 := NB258_267.out; have hnb69 := NB267_260.out; have hnc69 := NB260_267.out; have hcz70_0 := bc BK267.out 0 (.int .i64 0); have hcz70_1 := bc BK267.out 1 (.int .i64 0); have hcz70_2 := bc BK267.out 2 (.int .i64 0); have hfz70_0 := blk_frozen BK267.out 0; have hfz70_1 := blk_frozen BK267.out 1; have hfz70_2 := blk_frozen BK267.out 2) | ((with_reducible refine gate_callee (f := 65) rfl ?_); refine gl 88 Tryd.func65 #[.int .i64 ((rd_T74 ((rd_T72 l0_0 x3_2).f1) x6_4).f0)] ?_; (with_reducible refine (spec_l11Number.calls ((rd_T74 ((rd_T72 l0_0 x3_2).f1) x6_4).f0) true _ A47.out).mono ?_); rintro e w' ⟨rfl, ⟨nd, rfl⟩⟩; refine ⟨_, rfl, ?_⟩) | (go_at_call 65; (with_reducible refine (spec_l11Number.calls ((rd_T74 ((rd_T72 l0_0 x3_2).f1) x6_4).f1) false _ A49.out).mono ?_); rintro e w' ⟨rfl, ⟨nd, rfl⟩⟩))
                 go_ret
                 exact ⟨rv, bS⟩
               ·replace c48 := Bool.eq_false_iff.mpr c48
                subst c48
                have H1 : (some 1) = some r := by rw [if_neg (show ¬ (false = true) by decide)] at H; exact H
                clear H
                have H := H1
                clear H1
                obtain rfl := Option.some.inj H
                have hnb71 := NB260_258.out
                have hnc71 := NB258_260.out
                have hcz72_0 := bc BK260.out 0 (.string ((rd_T72 l0_0 x3_2).f0))
                have hcz72_1 := bc BK260.out 1 (.slice A259_1 ((rd_T72 l0_0 x3_2).f1).length c259_1)
                have hfz72_0 := blk_frozen BK260.out 0
                have hfz72_1 := blk_frozen BK260.out 1
                have p266 : 0 ≤ (x6_4 : Int) := od
                have q266 : x6_4 < (((rd_T72 l0_0 x3_2).f1).length : Int) := od
                obtain ⟨ad266, e266, hx266_0, hx266_1, hx266_2⟩ := at_T74 HR259_1.out x6_4 p266 q266
                cases e266
                replace hx266_0 := (HB.out.cell (World.block_lt_of_cell? w _ hx266_0)).trans hx266_0
                replace hx266_1 := (HB.out.cell (World.block_lt_of_cell? w _ hx266_1)).trans hx266_1
                replace hx266_2 := (HB.out.cell (World.block_lt_of_cell? w _ hx266_2)).trans hx266_2
                replace p266 := eq_true p266
                replace q266 := eq_true q266
                go_wp2_with (first | ((with_reducible refine gate_dst (N := 7) rfl ?_); (try (refine gate_guard (by rfl) ?_; dsimp only)); refine bx 7 #[.int .i64 0, .int .i64 0, .int .i64 0] 74 ?_; intro gb267 hg w73 hbox hb; have BK267 := am (hbox); have GW267 := am ((by rw [hg]; exact (below_size bS) : w.heap.size ≤ gb267)); have GE267 := am ((by rw [hg]; exact (below_size bS) : w.heap.size ≤ gb267)); replace HB := am (below_step bS hb); have NB258_267 := am ((by rw [hg]; exact Nat.ne_of_lt (blk_lt (g := gb258) (o := .cells #[.slice (some ad259) l0_0.length c0_0, .int .i64 a0_1, .bool a0_2] 48 (0, 0)) (bk BK258.out)) : gb258 ≠ gb267)); have NB267_258 := am ((by rw [hg]; exact Nat.ne_of_gt (blk_lt (g := gb258) (o := .cells #[.slice (some ad259) l0_0.length c0_0, .int .i64 a0_1, .bool a0_2] 48 (0, 0)) (bk BK258.out)) : gb267 ≠ gb258)); replace BK258 := am (blk_below (g := gb258) (o := .cells #[.slice (some ad259) l0_0.length c0_0, .int .i64 a0_1, .bool a0_2] 48 (0, 0)) (bk BK258.out) hb); have NB260_267 := am ((by rw [hg]; exact Nat.ne_of_lt (blk_lt (g := gb260) (o := .cells #[.string ((rd_T72 l0_0 x3_2).f0), .slice (some ad266) ((rd_T72 l0_0 x3_2).f1).length c259_1] 72 (0, 0)) (bk BK260.out)) : gb260 ≠ gb267)); have NB267_260 := am ((by rw [hg]; exact Nat.ne_of_gt (blk_lt (g := gb260) (o := .cells #[.string ((rd_T72 l0_0 x3_2).f0), .slice (some ad266) ((rd_T72 l0_0 x3_2).f1).length c259_1] 72 (0, 0)) (bk BK260.out)) : gb267 ≠ gb260)); replace BK260 := am (blk_below (g := gb260) (o := .cells #[.string ((rd_T72 l0_0 x3_2).f0), .slice (some ad266) ((rd_T72 l0_0 x3_2).f1).length c259_1] 72 (0, 0)) (bk BK260.out) hb); clear hb hbox hg; have hnb74 := NB267_258.out; have hnc74 := NB258_267.out; have hnb75 := NB267_260.out; have hnc75 := NB260_267.out; have hcz76_0 := bc BK267.out 0 (.int .i64 0); have hcz76_1 := bc BK267.out 1 (.int .i64 0); have hcz76_2 := bc BK267.out 2 (.int .i64 0); have hfz76_0 := blk_frozen BK267.out 0; have hfz76_1 := blk_frozen BK267.out 1; have hfz76_2 := blk_frozen BK267.out 2) | ((with_reducible refine gate_callee (f := 65) rfl ?_); refine gl 88 Tryd.func65 #[.int .i64 ((rd_T74 ((rd_T72 l0_0 x3_2).f1) x6_4).f0)] ?_; (with_reducible refine (spec_l11Number.calls ((rd_T74 ((rd_T72 l0_0 x3_2).f1) x6_4).f0) false _ A47.out).mono ?_); rintro e w' ⟨rfl, ⟨nd, rfl⟩⟩; refine ⟨_, rfl, ?_⟩))
                go_ret
                exact ⟨rv, bS⟩
              ·rw [if_neg c46] at H
               exact absurd H (by simp)
             ·rw [if_neg c45] at H
              have c45b0 : decide (x6_4 < (((rd_T72 l0_0 x3_2).f1).length : Int)) = false := decide_eq_false c45
              clear c45
              have H' := am H
              clear H
              have hnb77 := NB260_258.out
              have hnc77 := NB258_260.out
              have hcz78_0 := bc BK260.out 0 (.string ((rd_T72 l0_0 x3_2).f0))
              have hcz78_1 := bc BK260.out 1 (.slice A259_1 ((rd_T72 l0_0 x3_2).f1).length c259_1)
              have hfz78_0 := blk_frozen BK260.out 0
              have hfz78_1 := blk_frozen BK260.out 1
              go_wp2
              go_roundg k4
              case measure => have := HJ1.out; have := HK2.out; have := HJ12.out; have := HK4.out; omega
              case rel => exact ⟨(wrap64 (x3_2 + 1)), (by first | rfl | (simp; done) | (simp [*]; done)), H', ⟨by have := HJ1.out; have := HK2.out; have := HJ12.out; have := HK4.out; omega⟩, ⟨bk BK258.out⟩, ⟨bS⟩⟩
       ·rw [if_neg c11] at H
        exact absurd H (by simp)
      ·rw [if_neg c10] at H
       have c10b0 : decide (x3_2 < (l0_0.length : Int)) = false := decide_eq_false c10
       clear c10
       obtain rfl := Option.some.inj H
       have hcz79_0 := bc BK258.out 0 (.slice A0_0 l0_0.length c0_0)
       have hcz79_1 := bc BK258.out 1 (.int .i64 a0_1)
       have hcz79_2 := bc BK258.out 2 (.bool a0_2)
       have hfz79_0 := blk_frozen BK258.out 0
       have hfz79_1 := blk_frozen BK258.out 1
       have hfz79_2 := blk_frozen BK258.out 2
       go_wp2
       go_ret
       exact ⟨rv, bS⟩
end Go.Proofs.YtnbedmihgnjdpaaDoor.PFnExactCollatorFault

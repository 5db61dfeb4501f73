-- Written by a program of this session: what the printed functions compute.
import Derived.Test.YtnbedmihgnjdpaaDoorPFnExactCollatorFaultx0
import Derived.Test.YtnbedmihgnjdpaaDoorSlimMore
import Derived.Test.YtnbedmihgnjdpaaDoorSlimStep
import Derived.Test.YtnbedmihgnjdpaaDoorPFnExactCollatorFaultx1
import Derived.Test.YtnbedmihgnjdpaaDoorPFnExactCollatorFaultx3
import Derived.Test.YtnbedmihgnjdpaaDoorPFnExactCollatorFaultx4
namespace Go.Proofs.YtnbedmihgnjdpaaDoor.PFnExactCollatorFault
open Go.RowKit Go.Proofs.YtnbedmihgnjdpaaDoorW.PrintWords Go.Proofs.YtnbedmihgnjdpaaDoorW.PrintLast Go.Proofs.YtnbedmihgnjdpaaDoorW.PrintMore
attribute [local go_sem] max2_int min2_int max_two min_two max_three min_three max_four min_four
set_option linter.unusedVariables false
set_option linter.unusedSimpArgs false
mutual
def spec_l05Composed.l0 : Nat → List Int → List Int → Int → Int → Option (List Int)
 | 0, _, _, _, _ => none
 | k + 1, x0, x3, x4, x5 => if x5 < (x0.length : Int) then (if 0 ≤ x5 then ((spec_l01Class.f k (rd x0 x5)).bind fun t209 => (spec_l05Composed.l1 k x0 x3 x4 x5 (rd x0 x5) t209 (decide (x4 ≥ 0)) (wrap64 (x4 + 1)))) else (none)) else (some x3)
def spec_l05Composed.l1 : Nat → List Int → List Int → Int → Int → Int → Int → Bool → Int → Option (List Int)
 | 0, _, _, _, _, _, _, _, _ => none
 | k + 1, x0, x3, x4, x5, x6, x7, x8, x9 => if x8 = true then (spec_l05Composed.j2 k x0 x3 x4 x5 x6 x7 x8 x9 (decide (x9 < (x3.length : Int)))) else (spec_l05Composed.j2 k x0 x3 x4 x5 x6 x7 x8 x9 false)
def spec_l05Composed.j2 : Nat → List Int → List Int → Int → Int → Int → Int → Bool → Int → Bool → Option (List Int)
 | 0, _, _, _, _, _, _, _, _, _ => none
 | k + 1, x0, x3, x4, x5, x6, x7, x8, x9, x34 => if x34 = true then (if 0 ≤ x9 then (if x9 < (x3.length : Int) then ((spec_l01Class.f k (rd x3 x9)).bind fun t211 => (if t211 = 0 then (spec_l05Composed.l1 k x0 x3 x4 x5 x6 x7 false (wrap64 (x9 + 1))) else ((spec_l01Class.f k (rd x3 x9)).bind fun t213 => (spec_l05Composed.l1 k x0 x3 x4 x5 x6 x7 (decide (t213 < x7)) (wrap64 (x9 + 1)))))) else (none)) else (none)) else (if x8 = true then (if 0 ≤ x4 then (if x4 < (x3.length : Int) then ((spec_l05Pair.f k (rd x3 x4) x6).bind fun t215 => (if t215 ≥ 0 then (spec_l05Composed.l0 k x0 (x3.set (x4 : Int).toNat t215) x4 (wrap64 (x5 + 1))) else (if x3.length < 17592186044416 then ((some (x3 ++ [x6] : List Int)).bind fun y217 => (if x7 = 0 then (spec_l05Composed.l0 k x0 y217 (wrap64 ((y217.length : Int) - 1)) (wrap64 (x5 + 1))) else (spec_l05Composed.l0 k x0 y217 x4 (wrap64 (x5 + 1))))) else (none)))) else (none)) else (none)) else (if x3.length < 17592186044416 then ((some (x3 ++ [x6] : List Int)).bind fun y220 => (if x7 = 0 then (spec_l05Composed.l0 k x0 y220 (wrap64 ((y220.length : Int) - 1)) (wrap64 (x5 + 1))) else (spec_l05Composed.l0 k x0 y220 x4 (wrap64 (x5 + 1))))) else (none)))
end
def spec_l05Composed.f (k : Nat) (l0 : List Int) : Option (List Int) := spec_l05Composed.l0 k l0 (([] : List Int)) (-1) 0
set_option maxHeartbeats 8000000 in
set_option maxRecDepth 100000 in
theorem spec_l05Composed.calls (k : Nat) (A0 : Option Addr) (c0 : Nat) (l0 : List Int) (r : List Int) (w : World) (hr0 : Kd.C (Kd.int .i64) w A0 l0.length l0) (hc0 : l0.length ≤ c0) (h : spec_l05Composed.f k l0 = some r) :
  Calls Tryd.prog 75 #[.slice A0 l0.length c0] w fun e w' => ∃ v0_ : Value, e = .returned (v0_) ∧ Kd.R (Kd.int .i64) 2 w' w.heap.size (fun _ => True) v0_ r ∧ Below w.heap.size w w' := by
 have HR0 := am hr0
 have HC0 := am hc0
 clear hr0 hc0
 have HB := am (Below.refl w.heap.size w)
 have H : (spec_l05Composed.l0 k l0 (([] : List Int)) (-1) 0) = some r := h
 clear h
 obtain ⟨y205, hy205⟩ : ∃ y_ : List Int, y_ = (([] : List Int)) := ⟨_, rfl⟩
 replace H : (spec_l05Composed.l0 k l0 y205 (-1) 0) = some r := by first | (rw [hy205]; with_reducible exact H) | (have H2_ := (Option.bind_some _ _).symm.trans H; rw [hy205]; with_reducible exact H2_) | (have H2_ := (Option.bind_some _ _).symm.trans H; with_reducible exact H2_) | with_reducible exact H | (rw [hy205]; exact H) | exact H
 have Ny205 := am hy205
 clear hy205
 have H' := am H
 clear H
 go_enter Tryd.func75, Tryd.ntmps75
 go_wp2_with (first | ((with_reducible refine gate_dst (N := 11) rfl ?_); (try (refine gate_guard (by rfl) ?_; dsimp only)); refine Kd.R_lit (Kd.int .i64) _ 2 ?hg (N := 11) ?hd (xs := ([] : List Int)) (inner := []) (ok := fun _ => True) (okp := fun _ => True) ?hr ?hp (fun _ hk => hk) trivial (Below.refl _ _) (Nat.le_refl _) (by simp) ?_; (case hd => rfl); (case hg => rfl); (case hr => first | (go_simp; done) | (go_simp; rfl)); (case hp => exact (Reps.none _ _)); intro v206 w2 ho3 hb hg_ hnew_; clear hg_ hnew_; (first | rw [← Ny205.out] at ho3 | (simp only [Int.reduceToNat] at ho3; rw [← Ny205.out] at ho3)); have HO207 := am (Kd.R_lower ho3 (below_size bB)); replace HB := am (below_step bB hb); clear hb ho3))
 go_loopg [3, 4, 5] k (fun kq v3 v4 v5 w' => ∃ (x3_1 : List Int) (x4_1 : Int) (x5_1 : Int), v4 = .int .i64 x4_1 ∧ v5 = .int .i64 x5_1 ∧ Aside0 (spec_l05Composed.l0 kq l0 x3_1 x4_1 x5_1 = some r) ∧ Aside0 (kq ≤ k) ∧ Aside0 (Kd.R (Kd.int .i64) 2 w' w.heap.size (fun _ => True) v3 x3_1) ∧ Aside0 (Below w.heap.size w w'))
 case atStart => exact ⟨(y205), ((-1)), (0), (by first | rfl | (simp; done) | (simp [*]; done)), (by first | rfl | (simp; done) | (simp [*]; done)), H', ⟨Nat.le_refl _⟩, ⟨kR HO207.out⟩, ⟨bB⟩⟩
 case round =>
  clear H'
  try clear p2
  obtain ⟨x3_1, x4_1, x5_1, rfl, rfl, HA, HK1, HO_3, HB⟩ := hrel
  cases gk with
  | zero => exact absurd HA.out (by simp [spec_l05Composed.l0])
  | succ k1 =>
   have H := HA.out
   clear HA
   simp only [spec_l05Composed.l0] at H
   by_cases c4 : x5_1 < (l0.length : Int)
   ·rw [if_pos c4] at H
    have c4b0 : decide (x5_1 < (l0.length : Int)) = true := decide_eq_true c4
    clear c4
    by_cases c5 : 0 ≤ x5_1
    ·rw [if_pos c5] at H
     have c5b0 : decide (0 ≤ x5_1) = true := decide_eq_true c5
     clear c5
     replace H := Option.bind_eq_some_iff.mp H
     obtain ⟨t209, A60, H⟩ := H
     replace H : (spec_l05Composed.l1 k1 l0 x3_1 x4_1 x5_1 (rd l0 x5_1) t209 (decide (x4_1 ≥ 0)) (wrap64 (x4_1 + 1))) = some r := H
     have A6 := am A60
     clear A60
     have H' := am H
     clear H
     have p208 : 0 ≤ (x5_1 : Int) := od
     have q208 : x5_1 < (l0.length : Int) := od
     obtain ⟨ad208, e208, hx208_0⟩ := Kd.at_int HR0.out x5_1 p208 q208
     cases e208
     replace hx208_0 := (HB.out.cell (World.block_lt_of_cell? w _ hx208_0)).trans hx208_0
     replace p208 := eq_true p208
     replace q208 := eq_true q208
     go_wp2_with (first | ((with_reducible refine gate_callee (f := 46) rfl ?_); refine gl 23 Tryd.func46 #[.int .i64 (rd l0 x5_1)] ?_; (with_reducible refine (spec_l01Class.calls k1 (rd l0 x5_1) t209 _ A6.out).mono ?_); rintro e w' ⟨rfl, ⟨nd, rfl⟩⟩; refine ⟨_, rfl, ?_⟩))
     go_loopg [8, 9] k1 (fun kq v8 v9 w' => ∃ (x8_2 : Bool) (x9_2 : Int), v8 = .bool x8_2 ∧ v9 = .int .i64 x9_2 ∧ Aside0 (spec_l05Composed.l1 kq l0 x3_1 x4_1 x5_1 (rd l0 x5_1) t209 x8_2 x9_2 = some r) ∧ Aside0 (kq ≤ k1) ∧ Aside0 (Kd.R (Kd.int .i64) 2 w' w.heap.size (fun _ => True) u3 x3_1) ∧ Aside0 (Below w.heap.size w w'))
     case atStart => exact ⟨(decide (x4_1 ≥ 0)), (wrap64 (x4_1 + 1)), (by first | rfl | (simp; done) | (simp [*]; done)), (by first | rfl | (simp; done) | (simp [*]; done)), H', ⟨Nat.le_refl _⟩, ⟨kR HO_3.out⟩, ⟨bB⟩⟩
     case round =>
      clear H'
      try clear p2
      try clear q2
      try clear hx2
      try clear c4
      try clear c4b0
      try clear c5
      try clear c5b0
      try clear p6
      try clear hx208_0
      try clear p2
      try clear p208
      try clear q208
      obtain ⟨x8_2, x9_2, rfl, rfl, HA, HK2, HO_3, HB⟩ := hrel
      cases gk with
      | zero => exact absurd HA.out (by simp [spec_l05Composed.l1])
      | succ k2 =>
       have H := HA.out
       clear HA
       simp only [spec_l05Composed.l1] at H
       have HC7 := am H
       clear H
       go_upto_region 10 with (fail)
       go_cut [34] (fun v34 wc => ∃ (kq : Nat) (x34_6 : Bool), v34 = .bool x34_6 ∧ Aside0 (spec_l05Composed.j2 kq l0 x3_1 x4_1 x5_1 (rd l0 x5_1) t209 x8_2 x9_2 x34_6 = some r) ∧ Aside0 (kq ≤ k2) ∧ Aside0 (Kd.R (Kd.int .i64) 2 wc w.heap.size (fun _ => True) u3 x3_1) ∧ Aside0 (Below w.heap.size w wc))
       case first =>
        have H := HC7.out
        clear HC7
        by_cases c8 : x8_2 = true
        ·subst c8
         have H1 : (spec_l05Composed.j2 k2 l0 x3_1 x4_1 x5_1 (rd l0 x5_1) t209 true x9_2 (decide (x9_2 < (x3_1.length : Int)))) = some r := by rw [if_pos rfl] at H; exact H
         clear H
         have H := H1
         clear H1
         have H' := am H
         clear H
         obtain ⟨Ao9, co9, eo9⟩ := Kd.R_slice HO_3.out
         subst eo9
         go_wp2
         go_meet
         case rel => exact ⟨_, (decide (x9_2 < (x3_1.length : Int))), (by first | rfl | (simp; done) | (simp [*]; done)), H', ⟨by have := HK1.out; have := HK2.out; first | omega | exact Nat.le_refl _⟩, ⟨kR HO_3.out⟩, ⟨bB⟩⟩
        ·replace c8 := Bool.eq_false_iff.mpr c8
         subst c8
         have H1 : (spec_l05Composed.j2 k2 l0 x3_1 x4_1 x5_1 (rd l0 x5_1) t209 false x9_2 false) = some r := by rw [if_neg (show ¬ (false = true) by decide)] at H; exact H
         clear H
         have H := H1
         clear H1
         have H' := am H
         clear H
         go_wp2
         go_meet
         case rel => exact ⟨_, (false), (by first | rfl | (simp; done) | (simp [*]; done)), H', ⟨by have := HK1.out; have := HK2.out; first | omega | exact Nat.le_refl _⟩, ⟨kR HO_3.out⟩, ⟨bB⟩⟩
       case rest =>
        clear HC7
        try clear p2
        try clear q2
        try clear hx2
        try clear c4
        try clear c4b0
        try clear c5
        try clear c5b0
        try clear p6
        try clear c7
        try clear c8
        try clear hx208_0
        try clear p2
        try clear p208
        try clear p6
        try clear q2
        try clear q208
        obtain ⟨kq, x34_6, rfl, HA, HJ6, HO_3, HB⟩ := hcut
        cases kq with
        | zero => exact absurd HA.out (by simp [spec_l05Composed.j2])
        | succ kj6 =>
         have H := HA.out
         clear HA
         simp only [spec_l05Composed.j2] at H
         by_cases c10 : x34_6 = true
         ·subst c10
          have H1 : (if 0 ≤ x9_2 then (if x9_2 < (x3_1.length : Int) then ((spec_l01Class.f kj6 (rd x3_1 x9_2)).bind fun t211 => (if t211 = 0 then (spec_l05Composed.l1 kj6 l0 x3_1 x4_1 x5_1 (rd l0 x5_1) t209 false (wrap64 (x9_2 + 1))) else ((spec_l01Class.f kj6 (rd x3_1 x9_2)).bind fun t213 => (spec_l05Composed.l1 kj6 l0 x3_1 x4_1 x5_1 (rd l0 x5_1) t209 (decide (t213 < t209)) (wrap64 (x9_2 + 1)))))) else (none)) else (none)) = some r := by rw [if_pos rfl] at H; exact H
          clear H
          have H := H1
          clear H1
          by_cases c11 : 0 ≤ x9_2
          ·rw [if_pos c11] at H
           have c11b0 : decide (0 ≤ x9_2) = true := decide_eq_true c11
           clear c11
           by_cases c12 : x9_2 < (x3_1.length : Int)
           ·rw [if_pos c12] at H
            have c12b0 : decide (x9_2 < (x3_1.length : Int)) = true := decide_eq_true c12
            clear c12
            replace H := Option.bind_eq_some_iff.mp H
            obtain ⟨t211, A130, H⟩ := H
            replace H : (if t211 = 0 then (spec_l05Composed.l1 kj6 l0 x3_1 x4_1 x5_1 (rd l0 x5_1) t209 false (wrap64 (x9_2 + 1))) else ((spec_l01Class.f kj6 (rd x3_1 x9_2)).bind fun t213 => (spec_l05Composed.l1 kj6 l0 x3_1 x4_1 x5_1 (rd l0 x5_1) t209 (decide (t213 < t209)) (wrap64 (x9_2 + 1))))) = some r := H
            have A13 := am A130
            clear A130
            by_cases c14 : t211 = 0
            ·rw [if_pos c14] at H
             have c14b0 : (t211 == 0) = true := beq_iff_eq.mpr c14
             have c14b1 : (t211 != 0) = false := bne_eq_false_iff_eq.mpr c14
             clear c14
             have H' := am H
             clear H
             obtain ⟨Ao15, co15, eo15⟩ := Kd.R_slice HO_3.out
             subst eo15
             have p210 : 0 ≤ (x9_2 : Int) := od
             have q210 : x9_2 < (x3_1.length : Int) := od
             obtain ⟨ad210, e210, hx210_0⟩ := Kd.at_int (Kd.R_reads' HO_3.out).2.2 x9_2 p210 q210
             cases e210
             replace p210 := eq_true p210
             replace q210 := eq_true q210
             go_wp2_with (first | ((with_reducible refine gate_callee (f := 46) rfl ?_); refine gl 41 Tryd.func46 #[.int .i64 (rd x3_1 x9_2)] ?_; (with_reducible refine (spec_l01Class.calls kj6 (rd x3_1 x9_2) t211 _ A13.out).mono ?_); rintro e w' ⟨rfl, ⟨nd, rfl⟩⟩; refine ⟨_, rfl, ?_⟩))
             go_roundg kj6
             case measure => have := HK1.out; have := HK2.out; have := HJ6.out; omega
             case rel => exact ⟨(false), (wrap64 (x9_2 + 1)), (by first | rfl | (simp; done) | (simp [*]; done)), (by first | rfl | (simp; done) | (simp [*]; done)), H', ⟨by have := HK1.out; have := HK2.out; have := HJ6.out; omega⟩, ⟨kR HO_3.out⟩, ⟨bB⟩⟩
            ·rw [if_neg c14] at H
             have c14b0 : (t211 == 0) = false := beq_eq_false_iff_ne.mpr c14
             have c14b1 : (t211 != 0) = true := bne_iff_ne.mpr c14
             replace H := Option.bind_eq_some_iff.mp H
             obtain ⟨t213, A160, H⟩ := H
             replace H : (spec_l05Composed.l1 kj6 l0 x3_1 x4_1 x5_1 (rd l0 x5_1) t209 (decide (t213 < t209)) (wrap64 (x9_2 + 1))) = some r := H
             have A16 := am A160
             clear A160
             have H' := am H
             clear H
             obtain ⟨Ao17, co17, eo17⟩ := Kd.R_slice HO_3.out
             subst eo17
             have p210 : 0 ≤ (x9_2 : Int) := od
             have q210 : x9_2 < (x3_1.length : Int) := od
             obtain ⟨ad210, e210, hx210_0⟩ := Kd.at_int (Kd.R_reads' HO_3.out).2.2 x9_2 p210 q210
             cases e210
             replace p210 := eq_true p210
             replace q210 := eq_true q210
             go_wp2_with (first | ((with_reducible refine gate_callee (f := 46) rfl ?_); refine gl 41 Tryd.func46 #[.int .i64 (rd x3_1 x9_2)] ?_; (with_reducible refine (spec_l01Class.calls kj6 (rd x3_1 x9_2) t211 _ A13.out).mono ?_); rintro e w' ⟨rfl, ⟨nd, rfl⟩⟩; refine ⟨_, rfl, ?_⟩; have p212 : 0 ≤ (x9_2 : Int) := od; have q212 : x9_2 < (x3_1.length : Int) := od; obtain ⟨ad212, e212, hx212_0⟩ := Kd.at_int (Kd.R_reads' HO_3.out).2.2 x9_2 p212 q212; obtain rfl : ad210 = ad212 := (by injection e212); replace p212 := eq_true p212; replace q212 := eq_true q212) | (go_at_call 46; (with_reducible refine (spec_l01Class.calls kj6 (rd x3_1 x9_2) t213 _ A16.out).mono ?_); rintro e w' ⟨rfl, ⟨nd, rfl⟩⟩))
             go_roundg kj6
             case measure => have := HK1.out; have := HK2.out; have := HJ6.out; omega
             case rel => exact ⟨(decide (t213 < t209)), (wrap64 (x9_2 + 1)), (by first | rfl | (simp; done) | (simp [*]; done)), (by first | rfl | (simp; done) | (simp [*]; done)), H', ⟨by have := HK1.out; have := HK2.out; have := HJ6.out; omega⟩, ⟨kR HO_3.out⟩, ⟨bB⟩⟩
           ·rw [if_neg c12] at H
            exact absurd H (by simp)
          ·rw [if_neg c11] at H
           exact absurd H (by simp)
         ·replace c10 := Bool.eq_false_iff.mpr c10
          subst c10
          have H1 : (if x8_2 = true then (if 0 ≤ x4_1 then (if x4_1 < (x3_1.length : Int) then ((spec_l05Pair.f kj6 (rd x3_1 x4_1) (rd l0 x5_1)).bind fun t215 => (if t215 ≥ 0 then (spec_l05Composed.l0 kj6 l0 (x3_1.set (x4_1 : Int).toNat t215) x4_1 (wrap64 (x5_1 + 1))) else (if x3_1.length < 17592186044416 then ((some (x3_1 ++ [(rd l0 x5_1)] : List Int)).bind fun y217 => (if t209 = 0 then (spec_l05Composed.l0 kj6 l0 y217 (wrap64 ((y217.length : Int) - 1)) (wrap64 (x5_1 + 1))) else (spec_l05Composed.l0 kj6 l0 y217 x4_1 (wrap64 (x5_1 + 1))))) else (none)))) else (none)) else (none)) else (if x3_1.length < 17592186044416 then ((some (x3_1 ++ [(rd l0 x5_1)] : List Int)).bind fun y220 => (if t209 = 0 then (spec_l05Composed.l0 kj6 l0 y220 (wrap64 ((y220.length : Int) - 1)) (wrap64 (x5_1 + 1))) else (spec_l05Composed.l0 kj6 l0 y220 x4_1 (wrap64 (x5_1 + 1))))) else (none))) = some r := by rw [if_neg (show ¬ (false = true) by decide)] at H; exact H
          clear H
          have H := H1
          clear H1
          by_cases c18 : x8_2 = true
          ·subst c18
           have H1 : (if 0 ≤ x4_1 then (if x4_1 < (x3_1.length : Int) then ((spec_l05Pair.f kj6 (rd x3_1 x4_1) (rd l0 x5_1)).bind fun t215 => (if t215 ≥ 0 then (spec_l05Composed.l0 kj6 l0 (x3_1.set (x4_1 : Int).toNat t215) x4_1 (wrap64 (x5_1 + 1))) else (if x3_1.length < 17592186044416 then ((some (x3_1 ++ [(rd l0 x5_1)] : List Int)).bind fun y217 => (if t209 = 0 then (spec_l05Composed.l0 kj6 l0 y217 (wrap64 ((y217.length : Int) - 1)) (wrap64 (x5_1 + 1))) else (spec_l05Composed.l0 kj6 l0 y217 x4_1 (wrap64 (x5_1 + 1))))) else (none)))) else (none)) else (none)) = some r := by rw [if_pos rfl] at H; exact H
           clear H
           have H := H1
           clear H1
           by_cases c19 : 0 ≤ x4_1
           ·rw [if_pos c19] at H
            have c19b0 : decide (0 ≤ x4_1) = true := decide_eq_true c19
            clear c19
            by_cases c20 : x4_1 < (x3_1.length : Int)
            ·rw [if_pos c20] at H
             have c20b0 : decide (x4_1 < (x3_1.length : Int)) = true := decide_eq_true c20
             clear c20
             replace H := Option.bind_eq_some_iff.mp H
             obtain ⟨t215, A210, H⟩ := H
             replace H : (if t215 ≥ 0 then (spec_l05Composed.l0 kj6 l0 (x3_1.set (x4_1 : Int).toNat t215) x4_1 (wrap64 (x5_1 + 1))) else (if x3_1.length < 17592186044416 then ((some (x3_1 ++ [(rd l0 x5_1)] : List Int)).bind fun y217 => (if t209 = 0 then (spec_l05Composed.l0 kj6 l0 y217 (wrap64 ((y217.length : Int) - 1)) (wrap64 (x5_1 + 1))) else (spec_l05Composed.l0 kj6 l0 y217 x4_1 (wrap64 (x5_1 + 1))))) else (none))) = some r := H
             have A21 := am A210
             clear A210
             by_cases c22 : t215 ≥ 0
             ·rw [if_pos c22] at H
              have c22b0 : decide (0 ≤ t215) = true := decide_eq_true c22
              clear c22
              obtain ⟨y216, hy216⟩ : ∃ y_ : List Int, y_ = (x3_1.set (x4_1 : Int).toNat t215) := ⟨_, rfl⟩
              replace H : (spec_l05Composed.l0 kj6 l0 y216 x4_1 (wrap64 (x5_1 + 1))) = some r := by first | (rw [hy216]; with_reducible exact H) | (have H2_ := (Option.bind_some _ _).symm.trans H; rw [hy216]; with_reducible exact H2_) | (have H2_ := (Option.bind_some _ _).symm.trans H; with_reducible exact H2_) | with_reducible exact H | (rw [hy216]; exact H) | exact H
              have Ny216 := am hy216
              clear hy216
              have H' := am H
              clear H
              obtain ⟨Ao24, co24, eo24⟩ := Kd.R_slice HO_3.out
              subst eo24
              have p214 : 0 ≤ (x4_1 : Int) := od
              have q214 : x4_1 < (x3_1.length : Int) := od
              obtain ⟨ad214, e214, hx214_0⟩ := Kd.at_int (Kd.R_reads' HO_3.out).2.2 x4_1 p214 q214
              cases e214
              replace p214 := eq_true p214
              replace q214 := eq_true q214
              go_wp2_with (first | ((with_reducible refine gate_callee (f := 88) rfl ?_); refine gl 58 Tryd.func88 #[.int .i64 (rd x3_1 x4_1), .int .i64 (rd l0 x5_1)] ?_; (with_reducible refine (spec_l05Pair.calls kj6 (rd x3_1 x4_1) (rd l0 x5_1) t215 _ A21.out).mono ?_); rintro e w' ⟨rfl, ⟨nd, rfl⟩⟩; refine ⟨_, rfl, ?_⟩; (try (rw [drewN_self wc]; generalize hq_ : World.drewN wc _ = wc; have n0_ : Aside0 (Kd.R (Kd.int .i64) 2 wc w.heap.size (fun _ => True) (.slice (some ad214) x3_1.length co24) x3_1) := ⟨by rw [← hq_]; exact (kR HO_3.out)⟩; have n1_ : Aside0 (Below w.heap.size w wc) := ⟨by rw [← hq_]; exact bB⟩; clear HO_3 HB hq_; have HO_3 := n0_; have HB := n1_; clear n0_ n1_)); have p23 : 0 ≤ (x4_1 : Int) := od; have q23 : (x4_1 : Int) < ((x3_1.length : Int) : Int) := od; obtain ⟨go23, co23, eo23, gb23, gl23, cl23, HG23⟩ := Kd.R_form HO_3.out (by omega); (first | cases eo23 | (injection eo23 with ea_ en_ ec_; (first | subst ea_ | (injection ea_ with ea_; subst ea_)); subst ec_; clear en_)); have GB23 := am gb23; have GG23 := am HG23; clear gb23 gl23 HG23; (first | simp only [add_plain] at hx214_0 | skip); obtain ⟨hx23_0, hf23_0⟩ := Kd.R_celln 0 HO_3.out (x4_1 : Int) p23 q23; replace p23 := eq_true p23; replace q23 := eq_true q23; obtain ⟨hy25_, hz25_⟩ := Kd.R_celln 0 HO_3.out (x4_1 : Int) (od) (od); have HP25 := Kd.R_putg HO_3.out (x4_1 : Int) t215) | ((with_reducible refine gate_store (t := 2) (p := 64) rfl ?_); refine store_event (t := 2) (p := 64) (v := ?vo_w26) (w1 := (wc.setCell ⟨go23, (x4_1 : Int).toNat, none⟩ (.int .i64 t215))) ?hg ?ho ?hn ?hr ?_; (case ho => rfl); (case hg => rfl); (case hn => rfl); (case hr => first | (go_simp; done) | (go_simp; rfl)); intro w26 hw; have hg : wc.grownBy w26 (some go23) := (by rw [hw]; exact HP25.2); have hp_ : Kd.R (Kd.int .i64) 2 w26 w.heap.size (fun _ => True) (.slice (some ⟨go23, 0, none⟩) x3_1.length co24) y216 := (by rw [hw, Ny216.out]; exact HP25.1); clear HP25; replace HO_3 := am (hp_); replace HB := am ((by rw [hw]; exact below_set (HB.out) GB23.out : Below w.heap.size w w26)); clear hg hw hp_))
              go_roundg kj6
              case measure => have := HK1.out; have := HK2.out; have := HJ6.out; omega
              case rel => exact ⟨(y216), (x4_1), (wrap64 (x5_1 + 1)), (by first | rfl | (simp; done) | (simp [*]; done)), (by first | rfl | (simp; done) | (simp [*]; done)), H', ⟨by have := HK1.out; have := HK2.out; have := HJ6.out; omega⟩, ⟨kR HO_3.out⟩, ⟨bB⟩⟩
             ·rw [if_neg c22] at H
              have c22b0 : decide (0 ≤ t215) = false := decide_eq_false c22
              clear c22
              by_cases c27 : x3_1.length < 17592186044416
              ·rw [if_pos c27] at H
               have LMc27 := am c27
               clear c27
               obtain ⟨y217, hy217⟩ : ∃ y_ : List Int, y_ = (x3_1 ++ [(rd l0 x5_1)]) := ⟨_, rfl⟩
               replace H : (if t209 = 0 then (spec_l05Composed.l0 kj6 l0 y217 (wrap64 ((y217.length : Int) - 1)) (wrap64 (x5_1 + 1))) else (spec_l05Composed.l0 kj6 l0 y217 x4_1 (wrap64 (x5_1 + 1)))) = some r := by first | (rw [hy217]; with_reducible exact H) | (have H2_ := (Option.bind_some _ _).symm.trans H; rw [hy217]; with_reducible exact H2_) | (have H2_ := (Option.bind_some _ _).symm.trans H; with_reducible exact H2_) | with_reducible exact H | (rw [hy217]; exact H) | exact H
               have Ny217 := am hy217
               clear hy217
               by_cases c28 : t209 = 0
               ·rw [if_pos c28] at H
                have c28b0 : (t209 == 0) = true := beq_iff_eq.mpr c28
                have c28b1 : (t209 != 0) = false := bne_eq_false_iff_eq.mpr c28
                clear c28
                have H' := am H
                clear H
                obtain ⟨Ao29, co29, eo29⟩ := Kd.R_slice HO_3.out
                subst eo29
                have p214 : 0 ≤ (x4_1 : Int) := od
                have q214 : x4_1 < (x3_1.length : Int) := od
                obtain ⟨ad214, e214, hx214_0⟩ := Kd.at_int (Kd.R_reads' HO_3.out).2.2 x4_1 p214 q214
                cases e214
                replace p214 := eq_true p214
                replace q214 := eq_true q214
                go_wp2_with (first | ((with_reducible refine gate_callee (f := 88) rfl ?_); refine gl 58 Tryd.func88 #[.int .i64 (rd x3_1 x4_1), .int .i64 (rd l0 x5_1)] ?_; (with_reducible refine (spec_l05Pair.calls kj6 (rd x3_1 x4_1) (rd l0 x5_1) t215 _ A21.out).mono ?_); rintro e w' ⟨rfl, ⟨nd, rfl⟩⟩; refine ⟨_, rfl, ?_⟩) | ((with_reducible refine gate_builtin (b := .append) (xs := #[.tmp 65, .tmp 67]) rfl ?_); (try (refine gate_guard (by rfl) ?_; dsimp only)); at_builtin; refine Kd.R_append (Kd.int .i64) (w0 := w) w.heap.size rfl (.tmp 65) (.tmp 67) 58 2 (.int .i64 0) 8 rfl Tryd.underlying58 info2 rfl (by decide) (by omega) (.slice (some ad214) x3_1.length co29) x3_1 (rd l0 x5_1) [.int .i64 (rd l0 x5_1)] (fun _ => True) (fun _ => False) rfl rfl ?aP (fun _ hk => hk.elim) ?aF ?aO ?aB ?aS ?aL ?_; (case aP => exact rfl); (case aB => exact bB); (case aF => exact (fun _ _ => trivial)); (case aO => exact (kR HO_3.out)); (case aS => exact (below_size bB)); (case aL => have := LMc27.out; omega); intro v218 w30 ho hb hg hat; rw [← Ny217.out] at ho; replace HB := am (hb); have HO219 := am (ho); clear HO_3; clear ho hb hg hat; obtain ⟨Ao31, co31, eo31⟩ := Kd.R_slice HO219.out; subst eo31))
                go_roundg kj6
                case measure => have := HK1.out; have := HK2.out; have := HJ6.out; omega
                case rel => exact ⟨(y217), (wrap64 ((y217.length : Int) - 1)), (wrap64 (x5_1 + 1)), (by first | rfl | (simp; done) | (simp [*]; done)), (by first | rfl | (simp; done) | (simp [*]; done)), H', ⟨by have := HK1.out; have := HK2.out; have := HJ6.out; omega⟩, ⟨kR HO219.out⟩, ⟨bB⟩⟩
               ·rw [if_neg c28] at H
                have c28b0 : (t209 == 0) = false := beq_eq_false_iff_ne.mpr c28
                have c28b1 : (t209 != 0) = true := bne_iff_ne.mpr c28
                have H' := am H
                clear H
                obtain ⟨Ao32, co32, eo32⟩ := Kd.R_slice HO_3.out
                subst eo32
                have p214 : 0 ≤ (x4_1 : Int) := od
                have q214 : x4_1 < (x3_1.length : Int) := od
                obtain ⟨ad214, e214, hx214_0⟩ := Kd.at_int (Kd.R_reads' HO_3.out).2.2 x4_1 p214 q214
                cases e214
                replace p214 := eq_true p214
                replace q214 := eq_true q214
                go_wp2_with (first | ((with_reducible refine gate_callee (f := 88) rfl ?_); refine gl 58 Tryd.func88 #[.int .i64 (rd x3_1 x4_1), .int .i64 (rd l0 x5_1)] ?_; (with_reducible refine (spec_l05Pair.calls kj6 (rd x3_1 x4_1) (rd l0 x5_1) t215 _ A21.out).mono ?_); rintro e w' ⟨rfl, ⟨nd, rfl⟩⟩; refine ⟨_, rfl, ?_⟩) | ((with_reducible refine gate_builtin (b := .append) (xs := #[.tmp 65, .tmp 67]) rfl ?_); (try (refine gate_guard (by rfl) ?_; dsimp only)); at_builtin; refine Kd.R_append (Kd.int .i64) (w0 := w) w.heap.size rfl (.tmp 65) (.tmp 67) 58 2 (.int .i64 0) 8 rfl Tryd.underlying58 info2 rfl (by decide) (by omega) (.slice (some ad214) x3_1.length co32) x3_1 (rd l0 x5_1) [.int .i64 (rd l0 x5_1)] (fun _ => True) (fun _ => False) rfl rfl ?aP (fun _ hk => hk.elim) ?aF ?aO ?aB ?aS ?aL ?_; (case aP => exact rfl); (case aB => exact bB); (case aF => exact (fun _ _ => trivial)); (case aO => exact (kR HO_3.out)); (case aS => exact (below_size bB)); (case aL => have := LMc27.out; omega); intro v218 w33 ho hb hg hat; rw [← Ny217.out] at ho; replace HB := am (hb); have HO219 := am (ho); clear HO_3; clear ho hb hg hat))
                go_roundg kj6
                case measure => have := HK1.out; have := HK2.out; have := HJ6.out; omega
                case rel => exact ⟨(y217), (x4_1), (wrap64 (x5_1 + 1)), (by first | rfl | (simp; done) | (simp [*]; done)), (by first | rfl | (simp; done) | (simp [*]; done)), H', ⟨by have := HK1.out; have := HK2.out; have := HJ6.out; omega⟩, ⟨kR HO219.out⟩, ⟨bB⟩⟩
              ·rw [if_neg c27] at H
               exact absurd H (by simp)
            ·rw [if_neg c20] at H
             exact absurd H (by simp)
           ·rw [if_neg c19] at H
            exact absurd H (by simp)
          ·replace c18 := Bool.eq_false_iff.mpr c18
           subst c18
           have H1 : (if x3_1.length < 17592186044416 then ((some (x3_1 ++ [(rd l0 x5_1)] : List Int)).bind fun y220 => (if t209 = 0 then (spec_l05Composed.l0 kj6 l0 y220 (wrap64 ((y220.length : Int) - 1)) (wrap64 (x5_1 + 1))) else (spec_l05Composed.l0 kj6 l0 y220 x4_1 (wrap64 (x5_1 + 1))))) else (none)) = some r := by rw [if_neg (show ¬ (false = true) by decide)] at H; exact H
           clear H
           have H := H1
           clear H1
           by_cases c34 : x3_1.length < 17592186044416
           ·rw [if_pos c34] at H
            have LMc34 := am c34
            clear c34
            obtain ⟨y220, hy220⟩ : ∃ y_ : List Int, y_ = (x3_1 ++ [(rd l0 x5_1)]) := ⟨_, rfl⟩
            replace H : (if t209 = 0 then (spec_l05Composed.l0 kj6 l0 y220 (wrap64 ((y220.length : Int) - 1)) (wrap64 (x5_1 + 1))) else (spec_l05Composed.l0 kj6 l0 y220 x4_1 (wrap64 (x5_1 + 1)))) = some r := by first | (rw [hy220]; with_reducible exact H) | (have H2_ := (Option.bind_some _ _).symm.trans H; rw [hy220]; with_reducible exact H2_) | (have H2_ := (Option.bind_some _ _).symm.trans H; with_reducible exact H2_) | with_reducible exact H | (rw [hy220]; exact H) | exact H
            have Ny220 := am hy220
            clear hy220
            by_cases c35 : t209 = 0
            ·rw [if_pos c35] at H
             have c35b0 : (t209 == 0) = true := beq_iff_eq.mpr c35
             have c35b1 : (t209 != 0) = false := bne_eq_false_iff_eq.mpr c35
             clear c35
             have H' := am H
             clear H
             go_wp2_with (first | ((with_reducible refine gate_builtin (b := .append) (xs := #[.tmp 65, .tmp 67]) rfl ?_); (try (refine gate_guard (by rfl) ?_; dsimp only)); at_builtin; refine Kd.R_append (Kd.int .i64) (w0 := w) w.heap.size rfl (.tmp 65) (.tmp 67) 58 2 (.int .i64 0) 8 rfl Tryd.underlying58 info2 rfl (by decide) (by omega) u3 x3_1 (rd l0 x5_1) [.int .i64 (rd l0 x5_1)] (fun _ => True) (fun _ => False) rfl rfl ?aP (fun _ hk => hk.elim) ?aF ?aO ?aB ?aS ?aL ?_; (case aP => exact rfl); (case aB => exact bB); (case aF => exact (fun _ _ => trivial)); (case aO => exact (kR HO_3.out)); (case aS => exact (below_size bB)); (case aL => have := LMc34.out; omega); intro v221 w36 ho hb hg hat; rw [← Ny220.out] at ho; replace HB := am (hb); have HO222 := am (ho); clear HO_3; clear ho hb hg hat; obtain ⟨Ao37, co37, eo37⟩ := Kd.R_slice HO222.out; subst eo37))
             go_roundg kj6
             case measure => have := HK1.out; have := HK2.out; have := HJ6.out; omega
             case rel => exact ⟨(y220), (wrap64 ((y220.length : Int) - 1)), (wrap64 (x5_1 + 1)), (by first | rfl | (simp; done) | (simp [*]; done)), (by first | rfl | (simp; done) | (simp [*]; done)), H', ⟨by have := HK1.out; have := HK2.out; have := HJ6.out; omega⟩, ⟨kR HO222.out⟩, ⟨bB⟩⟩
            ·rw [if_neg c35] at H
             have c35b0 : (t209 == 0) = false := beq_eq_false_iff_ne.mpr c35
             have c35b1 : (t209 != 0) = true := bne_iff_ne.mpr c35
             have H' := am H
             clear H
             go_wp2_with (first | ((with_reducible refine gate_builtin (b := .append) (xs := #[.tmp 65, .tmp 67]) rfl ?_); (try (refine gate_guard (by rfl) ?_; dsimp only)); at_builtin; refine Kd.R_append (Kd.int .i64) (w0 := w) w.heap.size rfl (.tmp 65) (.tmp 67) 58 2 (.int .i64 0) 8 rfl Tryd.underlying58 info2 rfl (by decide) (by omega) u3 x3_1 (rd l0 x5_1) [.int .i64 (rd l0 x5_1)] (fun _ => True) (fun _ => False) rfl rfl ?aP (fun _ hk => hk.elim) ?aF ?aO ?aB ?aS ?aL ?_; (case aP => exact rfl); (case aB => exact bB); (case aF => exact (fun _ _ => trivial)); (case aO => exact (kR HO_3.out)); (case aS => exact (below_size bB)); (case aL => have := LMc34.out; omega); intro v221 w38 ho hb hg hat; rw [← Ny220.out] at ho; replace HB := am (hb); have HO222 := am (ho); clear HO_3; clear ho hb hg hat))
             go_roundg kj6
             case measure => have := HK1.out; have := HK2.out; have := HJ6.out; omega
             case rel => exact ⟨(y220), (x4_1), (wrap64 (x5_1 + 1)), (by first | rfl | (simp; done) | (simp [*]; done)), (by first | rfl | (simp; done) | (simp [*]; done)), H', ⟨by have := HK1.out; have := HK2.out; have := HJ6.out; omega⟩, ⟨kR HO222.out⟩, ⟨bB⟩⟩
           ·rw [if_neg c34] at H
            exact absurd H (by simp)
    ·rw [if_neg c5] at H
     exact absurd H (by simp)
   ·rw [if_neg c4] at H
    have c4b0 : decide (x5_1 < (l0.length : Int)) = false := decide_eq_false c4
    clear c4
    obtain rfl := Option.some.inj H
    go_wp2
    go_ret
    exact ⟨_, rv, kR HO_3.out, bB⟩
def spec_l05Norm.l0 : Nat → Int → List Int → List Int → Int → Option (List Int)
 | 0, _, _, _, _ => none
 | k + 1, x0, x1, x5, x6 => if x6 < (x1.length : Int) then (if 0 ≤ x6 then ((spec_l05K.f x0).bind fun t227 => ((spec_l05All.f k (rd x1 x6) t227).bind fun t228 => (if x5.length + t228.length < 17592186044416 then (spec_l05Norm.l0 k x0 x1 (x5 ++ t228) (wrap64 (x6 + 1))) else (none)))) else (none)) else ((spec_l05Ordered.f k x5).bind fun t234 => ((spec_l05C.f x0).bind fun t237 => (if t237 = true then ((spec_l05Composed.f k t234).bind fun t238 => (some t238)) else (some t234))))
def spec_l05Norm.f (k : Nat) (a0 : Int) (l1 : List Int) : Option (List Int) := spec_l05Norm.l0 k a0 l1 (([] : List Int)) 0
def spec_l05Norm.T5 : Bool × List (List Nat × List Nat) := (true, [([], []), ([], []), ([], []), ([1, 2], [1, 2]), ([3], [3]), ([], []), ([5], [5]), ([4, 6, 6], [4, 6]), ([0, 7, 7], [0, 7]), ([8, 8, 0, 1, 2, 3, 4, 5, 6, 7, 8], [0, 8])])
def spec_l05Norm.B5 : List Nat := [0, 0, 0, 6, 14, 0, 32, 126, 255, 511]
theorem spec_l05Norm.tab5 : rtab .any (opsOf Tryd.f47 5) = spec_l05Norm.T5 := by kernel_rfl
theorem spec_l05Norm.bits5 : waitsOk spec_l05Norm.T5.2 spec_l05Norm.B5 = true := by kernel_rfl
set_option maxHeartbeats 8000000 in
set_option maxRecDepth 100000 in
theorem spec_l05Norm.calls (k : Nat) (a0 : Int) (A1 : Option Addr) (c1 : Nat) (l1 : List Int) (r : List Int) (w : World) (hr1 : Kd.C (Kd.int .i64) w A1 l1.length l1) (hc1 : l1.length ≤ c1) (h : spec_l05Norm.f k a0 l1 = some r) :
  Calls Tryd.prog 47 #[.int .i64 a0, .slice A1 l1.length c1] w fun e w' => ∃ v0_ : Value, e = .returned (v0_) ∧ Kd.R (Kd.int .i64) 2 w' w.heap.size (fun _ => True) v0_ r ∧ Below w.heap.size w w' := by
 have HR1 := am hr1
 have HC1 := am hc1
 clear hr1 hc1
 have HB := am (Below.refl w.heap.size w)
 have H : (spec_l05Norm.l0 k a0 l1 (([] : List Int)) 0) = some r := h
 clear h
 obtain ⟨y223, hy223⟩ : ∃ y_ : List Int, y_ = (([] : List Int)) := ⟨_, rfl⟩
 replace H : (spec_l05Norm.l0 k a0 l1 y223 0) = some r := by first | (rw [hy223]; with_reducible exact H) | (have H2_ := (Option.bind_some _ _).symm.trans H; rw [hy223]; with_reducible exact H2_) | (have H2_ := (Option.bind_some _ _).symm.trans H; with_reducible exact H2_) | with_reducible exact H | (rw [hy223]; exact H) | exact H
 have Ny223 := am hy223
 clear hy223
 have H' := am H
 clear H
 go_enter Tryd.func47, Tryd.ntmps47
 go_wp2_with (first | ((with_reducible refine gate_dst (N := 7) rfl ?_); refine Kd.R_lit (Kd.int .i64) _ 2 ?hg (N := 7) ?hd (xs := ([] : List Int)) (inner := []) (ok := fun _ => True) (okp := fun _ => True) ?hr ?hp (fun _ hk => hk) trivial (Below.refl _ _) (Nat.le_refl _) (by simp) ?_; (case hd => rfl); (case hg => rfl); (case hr => first | (go_simp; done) | (go_simp; rfl)); (case hp => exact (Reps.none _ _)); intro v224 w3 ho4 hb hg_ hnew_; clear hg_ hnew_; (first | rw [← Ny223.out] at ho4 | (simp only [Int.reduceToNat] at ho4; rw [← Ny223.out] at ho4)); have HO225 := am (Kd.R_lower ho4 (below_size bB)); replace HB := am (below_step bB hb); clear hb ho4))
 go_loopg [5, 6] k (fun kq v5 v6 w' => ∃ (x5_1 : List Int) (x6_1 : Int), v6 = .int .i64 x6_1 ∧ Aside0 (spec_l05Norm.l0 kq a0 l1 x5_1 x6_1 = some r) ∧ Aside0 (kq ≤ k) ∧ Aside0 (Kd.R (Kd.int .i64) 2 w' w.heap.size (fun _ => True) v5 x5_1) ∧ Aside0 (Below w.heap.size w w'))
 case atStart => exact ⟨(y223), (0), (by first | rfl | (simp; done) | (simp [*]; done)), H', ⟨Nat.le_refl _⟩, ⟨kR HO225.out⟩, ⟨bB⟩⟩
 case round =>
  clear H'
  try clear c1
  try clear p2
  try clear c4
  obtain ⟨x5_1, x6_1, rfl, HA, HK1, HO_5, HB⟩ := hrel
  cases gk with
  | zero => exact absurd HA.out (by simp [spec_l05Norm.l0])
  | succ k1 =>
   have H := HA.out
   clear HA
   simp only [spec_l05Norm.l0] at H
   by_cases c5 : x6_1 < (l1.length : Int)
   ·rw [if_pos c5] at H
    have c5b0 : decide (x6_1 < (l1.length : Int)) = true := decide_eq_true c5
    clear c5
    by_cases c6 : 0 ≤ x6_1
    ·rw [if_pos c6] at H
     have c6b0 : decide (0 ≤ x6_1) = true := decide_eq_true c6
     clear c6
     replace H := Option.bind_eq_some_iff.mp H
     obtain ⟨t227, A70, H⟩ := H
     replace H : ((spec_l05All.f k1 (rd l1 x6_1) t227).bind fun t228 => (if x5_1.length + t228.length < 17592186044416 then (spec_l05Norm.l0 k1 a0 l1 (x5_1 ++ t228) (wrap64 (x6_1 + 1))) else (none))) = some r := H
     have A7 := am A70
     clear A70
     replace H := Option.bind_eq_some_iff.mp H
     obtain ⟨t228, A80, H⟩ := H
     replace H : (if x5_1.length + t228.length < 17592186044416 then (spec_l05Norm.l0 k1 a0 l1 (x5_1 ++ t228) (wrap64 (x6_1 + 1))) else (none)) = some r := H
     have A8 := am A80
     clear A80
     by_cases c9 : x5_1.length + t228.length < 17592186044416
     ·rw [if_pos c9] at H
      have LMc9 := am c9
      clear c9
      obtain ⟨y231, hy231⟩ : ∃ y_ : List Int, y_ = (x5_1 ++ t228) := ⟨_, rfl⟩
      replace H : (spec_l05Norm.l0 k1 a0 l1 y231 (wrap64 (x6_1 + 1))) = some r := by first | (rw [hy231]; with_reducible exact H) | (have H2_ := (Option.bind_some _ _).symm.trans H; rw [hy231]; with_reducible exact H2_) | (have H2_ := (Option.bind_some _ _).symm.trans H; with_reducible exact H2_) | with_reducible exact H | (rw [hy231]; exact H) | exact H
      have Ny231 := am hy231
      clear hy231
      have H' := am H
      clear H
      try go_wp2
      replace HO_5 := am (Kd.R_drew HO_5.out)
      replace HB := am (below_drew1 HB.out)
      have p226 : 0 ≤ (x6_1 : Int) := od
      have q226 : x6_1 < (l1.length : Int) := od
      obtain ⟨ad226, e226, hx226_0⟩ := Kd.at_int HR1.out x6_1 p226 q226
      have hw226_0 := hx226_0
      cases e226
      replace hx226_0 := (HB.out.cell (World.block_lt_of_cell? w _ hx226_0)).trans hx226_0
      replace p226 := eq_true p226
      replace q226 := eq_true q226
      refine start_ (n := 10) (S := fun w' => w'.cell? (ad226.add (x6_1).toNat) = some (.int .i64 (rd l1 x6_1))) (ds := []) #[false, false, false, false, false, false, false, false, false, false] (by kernel_rfl) rfl rfl (((HB.out.cell (World.block_lt_of_cell? w _ hw226_0)).trans hw226_0)) (fun hHeld => ?_); refine with_tabW spec_l05Norm.tab5 spec_l05Norm.bits5 (fun HT_ HW_ => ?_)
      generalize wr.drew = w10 at HO_5 HB hx226_0 hHeld ⊢
      refine pq 0 14 HT_.out ?_
      refine pq 1 15 HT_.out ?_
      refine pq 2 16 HT_.out ?_
      refine pq 3 17 HT_.out ?_
      refine pq 5 19 HT_.out ?_
      refine take_ (i := 4) (N := some 18) (v := ?_) (a' := ?_) #[true, true, true, true, true, true, false, false, false, false] rfl rfl (take_ofW HT_.out HW_.out (by kernel_rfl)) (fun _ _ _ h => h) (Or.inl ⟨by rfl, ?_⟩) hHeld ?_ ?_
      rotate_left
      ·intro w' s0
       go_simp
       with_reducible rfl
      rotate_left
      ·simp only [Act.put, List.setIfInBounds_toArray, List.set_cons_zero, List.set_cons_succ, i64_w, i32_w]
       rfl
      refine one_ (i := 6) (N := some 20) #[true, true, true, true, true, true, true, false, false, false] rfl rfl (one_of HT_.out (by kernel_rfl)) (by decide) (fun K hK => ?_)
      refine goes_ Tryd.func73 (by kernel_rfl) rfl #[.int .i64 a0] (by rfl) rfl rfl (by (try simp only [List.map_toArray, List.map_cons, List.map_nil]); first | done | rfl | (simp only [List.length_drop, List.length_take]; rfl)) ?_
      with_reducible refine (spec_l05K.calls a0 t227 _ A7.out).mono ?_
      rintro e w' ⟨rfl, ⟨nd, rfl⟩⟩
      refine ⟨_, rfl, ?_⟩
      refine hK.out _ _ (((HB.out.cell (World.block_lt_of_cell? w _ hw226_0)).trans hw226_0)) (fun hHeld => ?_)
      clear hK K
      refine norm_ (a' := ?_) ?_ ?_
      rotate_left
      ·show Act.put _ (some 20) _ = _
       simp only [Act.put, List.setIfInBounds_toArray, List.set_cons_zero, List.set_cons_succ, i64_w, i32_w]
       rfl
      refine one_ (i := 7) (N := some 21) #[true, true, true, true, true, true, true, true, false, false] rfl rfl (one_of HT_.out (by kernel_rfl)) (by decide) (fun K hK => ?_)
      refine goes_ Tryd.func72 (by kernel_rfl) rfl #[.int .i64 (rd l1 x6_1), .bool t227] (by rfl) rfl rfl (by (try simp only [List.map_toArray, List.map_cons, List.map_nil]); first | done | rfl | (simp only [List.length_drop, List.length_take]; rfl)) ?_
      with_reducible refine (spec_l05All.calls k1 (rd l1 x6_1) t227 t228 _ A8.out).mono ?_
      rintro e w11 ⟨v229, rfl, ho0, hb⟩
      refine ⟨_, rfl, ?_⟩
      have HO230 := am (Kd.R_lower (Kd.R_new' ho0 (Kd.R_lt (kR HO_5.out))) (below_size bB))
      replace HO_5 := am (Kd.R_elder' (kR HO_5.out) (Kd.R_base ho0) hb)
      replace HB := am (below_step bB hb)
      (try clear hb)
      (try clear hb2)
      (try clear hk)
      (try clear hi)
      (try clear ho0)
      obtain ⟨Ao13, co13, eo13⟩ := Kd.R_slice HO230.out
      (first | subst eo13 | (injection eo13 with f1_ f2_ f3_; have f4_ := f1_.symm; have f5_ := f3_.symm; clear f1_ f2_ f3_; subst f4_; subst f5_))
      refine hK.out _ _ (((HB.out.cell (World.block_lt_of_cell? w _ hw226_0)).trans hw226_0)) (fun hHeld => ?_)
      clear hK K
      refine norm_ (a' := ?_) ?_ ?_
      rotate_left
      ·show Act.put _ (some 21) _ = _
       simp only [Act.put, List.setIfInBounds_toArray, List.set_cons_zero, List.set_cons_succ, i64_w, i32_w]
       rfl
      refine one_ (i := 8) (N := some 22) #[true, true, true, true, true, true, true, true, true, false] rfl rfl (one_of HT_.out (by kernel_rfl)) (by decide) (fun K hK => ?_)
      refine Kd.R_append_rows_step (Kd.int .i64) (w0 := w) w.heap.size (by rfl) (.tmp 14) (.tmp 21) 58 2 (.int .i64 0) 8 rfl Tryd.underlying58 info2 rfl (by decide) (by omega) u5 x5_1 t228 _ _ _ (fun k_ => some k_ ≠ (.slice Ao13 t228.length co13 : Value).ownBlock) (fun _ => False) rfl rfl ?aO ?aR (fun _ _ h => h) (fun _ h => h.elim) ?aF ?aB ?aS ?aL ?_
      (case aR => repeat (first | exact (Kd.R_reads' HO230.out).2.2 | (with_reducible refine Kd.C_alloc ?_ _) | (with_reducible refine Kd.C_drewN ?_ _) | (with_reducible refine Kd.C_drew ?_)))
      (case aB => exact bB)
      (case aF => exact (fun k_ hk => Kd.fresh' (Kd.R_lt (kR HO230.out)) k_ hk))
      (case aO => exact (kR (Kd.R_mono HO_5.out (fun _ hk => hk.2))))
      (case aS => exact (below_size bB))
      (case aL => have := LMc9.out; omega)
      intro v232 w12 ho hb hg hat
      rw [← Ny231.out] at ho
      replace HO230 := am (Kd.R_after (ok := (fun _ => True)) (kR HO230.out) hg hat)
      replace HB := am (hb)
      have HO233 := am (ho)
      clear HO_5
      clear ho hb hg hat
      refine hK.out _ _ (((HB.out.cell (World.block_lt_of_cell? w _ hw226_0)).trans hw226_0)) (fun hHeld => ?_)
      clear hK K
      refine norm_ (a' := ?_) ?_ ?_
      rotate_left
      ·show Act.put _ (some 22) _ = _
       simp only [Act.put, List.setIfInBounds_toArray, List.set_cons_zero, List.set_cons_succ, i64_w, i32_w]
       rfl
      refine pq 9 5 HT_.out ?_
      refine done_ (done_of HT_.out (by kernel_rfl)) ?_
      try go_wp2
      go_roundg k1
      case measure => have := HK1.out; omega
      case rel => exact ⟨(y231), (wrap64 (x6_1 + 1)), (by first | rfl | (simp; done) | (simp [*]; done)), H', ⟨by have := HK1.out; omega⟩, ⟨kR (Kd.R_mono HO233.out (fun _ hk => trivial))⟩, ⟨bB⟩⟩
     ·rw [if_neg c9] at H
      exact absurd H (by simp)
    ·rw [if_neg c6] at H
     exact absurd H (by simp)
   ·rw [if_neg c5] at H
    have c5b0 : decide (x6_1 < (l1.length : Int)) = false := decide_eq_false c5
    clear c5
    replace H := Option.bind_eq_some_iff.mp H
    obtain ⟨t234, A140, H⟩ := H
    replace H : ((spec_l05C.f a0).bind fun t237 => (if t237 = true then ((spec_l05Composed.f k1 t234).bind fun t238 => (some t238)) else (some t234))) = some r := H
    have A14 := am A140
    clear A140
    replace H := Option.bind_eq_some_iff.mp H
    obtain ⟨t237, A150, H⟩ := H
    replace H : (if t237 = true then ((spec_l05Composed.f k1 t234).bind fun t238 => (some t238)) else (some t234)) = some r := H
    have A15 := am A150
    clear A150
    by_cases c16 : t237 = true
    ·subst c16
     have H1 : ((spec_l05Composed.f k1 t234).bind fun t238 => (some t238)) = some r := by rw [if_pos rfl] at H; exact H
     clear H
     have H := H1
     clear H1
     replace H := Option.bind_eq_some_iff.mp H
     obtain ⟨t238, A170, H⟩ := H
     replace H : (some t238) = some r := H
     have A17 := am A170
     clear A170
     obtain rfl := Option.some.inj H
     obtain ⟨Ao18, co18, eo18⟩ := Kd.R_slice HO_5.out
     subst eo18
     go_wp2_with (first | ((with_reducible refine gate_callee (f := 74) rfl ?_); refine gl 24 Tryd.func74 #[.slice Ao18 x5_1.length co18] ?_; (with_reducible refine (spec_l05Ordered.calls k1 _ _ x5_1 t234 _ ?side1 ?side2 A14.out).mono ?_); (case side1 => repeat (first | exact (Kd.R_reads' HO_5.out).2.2 | (with_reducible refine Kd.C_alloc ?_ _) | (with_reducible refine Kd.C_drewN ?_ _) | (with_reducible refine Kd.C_drew ?_))); (case side2 => exact (Kd.R_reads' HO_5.out).2.1); rintro e w19 ⟨v235, rfl, ho0, hb⟩; refine ⟨_, rfl, ?_⟩; have HO236 := am (Kd.R_lower (Kd.R_new' ho0 (Kd.R_lt (kR HO_5.out))) (below_size bB)); replace HO_5 := am (Kd.R_elder' (kR HO_5.out) (Kd.R_base ho0) hb); replace HB := am (below_step bB hb); (try clear hb); (try clear hb2); (try clear hk); (try clear hi); (try clear ho0)) | ((with_reducible refine gate_callee (f := 48) rfl ?_); refine gl 26 Tryd.func48 #[.int .i64 a0] ?_; (with_reducible refine (spec_l05C.calls a0 true _ A15.out).mono ?_); rintro e w' ⟨rfl, ⟨nd, rfl⟩⟩; refine ⟨_, rfl, ?_⟩; obtain ⟨Ao20, co20, eo20⟩ := Kd.R_slice HO236.out; subst eo20) | ((with_reducible refine gate_callee (f := 75) rfl ?_); refine gl 28 Tryd.func75 #[.slice Ao20 t234.length co20] ?_; (with_reducible refine (spec_l05Composed.calls k1 _ _ t234 t238 _ ?side1 ?side2 A17.out).mono ?_); (case side1 => repeat (first | exact (Kd.R_reads' HO236.out).2.2 | (with_reducible refine Kd.C_alloc ?_ _) | (with_reducible refine Kd.C_drewN ?_ _) | (with_reducible refine Kd.C_drew ?_))); (case side2 => exact (Kd.R_reads' HO236.out).2.1); rintro e w21 ⟨v239, rfl, ho0, hb⟩; refine ⟨_, rfl, ?_⟩; have HO240 := am (Kd.R_lower (Kd.R_new' (Kd.R_new' ho0 (Kd.R_lt (kR HO_5.out))) (Kd.R_lt (kR HO236.out))) (below_size bB)); replace HO_5 := am (Kd.R_elder' (kR HO_5.out) (Kd.R_base ho0) hb); replace HO236 := am (Kd.R_elder' (kR HO236.out) (Kd.R_base ho0) hb); replace HB := am (below_step bB hb); (try clear hb); (try clear hb2); (try clear hk); (try clear hi); (try clear ho0)))
     go_ret
     exact ⟨_, rv, by (with_reducible repeat (first | apply Kd.R_alloc | apply Kd.R_drewN | apply Kd.R_drew)); exact Kd.R_mono HO240.out (fun _ hk => trivial), bB⟩
    ·replace c16 := Bool.eq_false_iff.mpr c16
     subst c16
     have H1 : (some t234) = some r := by rw [if_neg (show ¬ (false = true) by decide)] at H; exact H
     clear H
     have H := H1
     clear H1
     obtain rfl := Option.some.inj H
     obtain ⟨Ao22, co22, eo22⟩ := Kd.R_slice HO_5.out
     subst eo22
     go_wp2_with (first | ((with_reducible refine gate_callee (f := 74) rfl ?_); refine gl 24 Tryd.func74 #[.slice Ao22 x5_1.length co22] ?_; (with_reducible refine (spec_l05Ordered.calls k1 _ _ x5_1 t234 _ ?side1 ?side2 A14.out).mono ?_); (case side1 => repeat (first | exact (Kd.R_reads' HO_5.out).2.2 | (with_reducible refine Kd.C_alloc ?_ _) | (with_reducible refine Kd.C_drewN ?_ _) | (with_reducible refine Kd.C_drew ?_))); (case side2 => exact (Kd.R_reads' HO_5.out).2.1); rintro e w23 ⟨v235, rfl, ho0, hb⟩; refine ⟨_, rfl, ?_⟩; have HO236 := am (Kd.R_lower (Kd.R_new' ho0 (Kd.R_lt (kR HO_5.out))) (below_size bB)); replace HO_5 := am (Kd.R_elder' (kR HO_5.out) (Kd.R_base ho0) hb); replace HB := am (below_step bB hb); (try clear hb); (try clear hb2); (try clear hk); (try clear hi); (try clear ho0)) | ((with_reducible refine gate_callee (f := 48) rfl ?_); refine gl 26 Tryd.func48 #[.int .i64 a0] ?_; (with_reducible refine (spec_l05C.calls a0 false _ A15.out).mono ?_); rintro e w' ⟨rfl, ⟨nd, rfl⟩⟩; refine ⟨_, rfl, ?_⟩))
     go_ret
     exact ⟨_, rv, by (with_reducible repeat (first | apply Kd.R_alloc | apply Kd.R_drewN | apply Kd.R_drew)); exact Kd.R_mono HO236.out (fun _ hk => trivial), bB⟩
end Go.Proofs.YtnbedmihgnjdpaaDoor.PFnExactCollatorFault

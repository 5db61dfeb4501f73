-- Written by a program of this session: what the printed functions compute.
import Derived.Test.YtnbedmihgnjdpaaDoorPFnExactCollatorFaultx0
import Derived.Test.YtnbedmihgnjdpaaDoorSlimMore
import Derived.Test.YtnbedmihgnjdpaaDoorPFnExactCollatorFaultx8
import Derived.Test.YtnbedmihgnjdpaaDoorPFnExactCollatorFaultx9
import Derived.Test.YtnbedmihgnjdpaaDoorPFnExactCollatorFaultx10
namespace Go.Proofs.YtnbedmihgnjdpaaDoor.PFnExactCollatorFault
open Go.RowKit Go.Proofs.YtnbedmihgnjdpaaDoorW.PrintWords Go.Proofs.YtnbedmihgnjdpaaDoorW.PrintLast Go.Proofs.YtnbedmihgnjdpaaDoorW.PrintMore
attribute [local go_sem] max2_int min2_int max_two min_two max_three min_three max_four min_four
set_option linter.unusedVariables false
set_option linter.unusedSimpArgs false
theorem class_ok (a : Int) : ∃ r, impl_MarkClass.f a = some r ∧ 0 ≤ r ∧ r ≤ 254 := by
 unfold impl_MarkClass.f impl_in.f
 by_cases h1 : a = 1584
 ·rw [if_pos h1]; exact ⟨_, rfl, by omega, by omega⟩
 rw [if_neg h1]
 by_cases h2 : a = 1585
 ·rw [if_pos h2]; exact ⟨_, rfl, by omega, by omega⟩
 rw [if_neg h2]
 by_cases h3 : a ≥ 4096
 ·rw [if_pos h3, Option.bind_some]
  repeat' split
  all_goals exact ⟨_, rfl, by omega, by omega⟩
 ·rw [if_neg h3, Option.bind_some]
  repeat' split
  all_goals exact ⟨_, rfl, by omega, by omega⟩
def mc (a : Int) : Int := (impl_MarkClass.f a).getD 0
theorem mc_eq (a : Int) : impl_MarkClass.f a = some (mc a) ∧ 0 ≤ mc a ∧ mc a ≤ 254 := by
 obtain ⟨r, h, h1, h2⟩ := class_ok a
 unfold mc
 rw [h]
 exact ⟨rfl, h1, h2⟩
def cmpf (a b : Int) : Int := mc a - mc b
theorem cmp_ok : Stab.CmpOk cmpf := fun x y W => by
 have h : impl_normal_1.f x y = some (cmpf x y) := by
  have h1 := mc_eq x
  have h2 := mc_eq y
  unfold impl_normal_1.f
  rw [h1.1, Option.bind_some, h2.1, Option.bind_some]
  unfold cmpf wrap64
  congr 1
  omega
 exact (impl_normal_1.calls x y _ W h).mono (fun e w' ⟨h1, nd, h2⟩ => ⟨h1, nd, h2⟩)
theorem cmp_lt : Go.Proofs.ltOf cmpf = Stab.ltc mc := by
 funext x y
 unfold Go.Proofs.ltOf Stab.ltc cmpf
 congr 1
 simp only [eq_iff_iff]
 omega
mutual
def impl_normal.l0 : Nat → Int → List Int → List Int → Int → Int → Option (List Int)
 | 0, _, _, _, _, _ => none
 | k + 1, x0, x5, x18, x19, x20 => if x20 < x19 then (if 0 ≤ x20 then (if x20 < (x18.length : Int) then ((impl_decompose.f k (rd x18 x20) (decide (x0 ≥ 3))).bind fun t383 => (if x5.length + t383.length < 17592186044416 then (impl_normal.l0 k x0 (x5 ++ t383) x18 x19 (wrap64 (x20 + 1))) else (none))) else (none)) else (none)) else (impl_normal.l1 k x0 x5 0)
def impl_normal.l1 : Nat → Int → List Int → Int → Option (List Int)
 | 0, _, _, _ => none
 | k + 1, x0, x5, x8 => if x8 < (x5.length : Int) then (impl_normal.l2 k x0 x5 x8 x8) else (if x0 = 1 then (impl_normal.j3 k x5 true) else (impl_normal.j3 k x5 (x0 == 3)))
def impl_normal.l2 : Nat → Int → List Int → Int → Int → Option (List Int)
 | 0, _, _, _, _ => none
 | k + 1, x0, x5, x8, x9 => if x9 < (x5.length : Int) then (if 0 ≤ x9 then ((impl_MarkClass.f (rd x5 x9)).bind fun t390 => (if t390 = 0 then (if 0 ≤ x8 then (if x8 < (x5.length : Int) ∧ x8 ≤ x9 ∧ x9 ≤ (x5.length : Int) ∧ (x5.length : Int) ≤ 1152921504606846975 then (impl_normal.l1 k x0 (Stab.stCut mc x5 x8 x9) (mx x9 (wrap64 (x8 + 1)))) else (none)) else (none)) else (impl_normal.l2 k x0 x5 x8 (wrap64 (x9 + 1))))) else (none)) else (if 0 ≤ x8 then (if x8 < (x5.length : Int) ∧ x8 ≤ x9 ∧ x9 ≤ (x5.length : Int) ∧ (x5.length : Int) ≤ 1152921504606846975 then (impl_normal.l1 k x0 (Stab.stCut mc x5 x8 x9) (mx x9 (wrap64 (x8 + 1)))) else (none)) else (none))
def impl_normal.j3 : Nat → List Int → Bool → Option (List Int)
 | 0, _, _ => none
 | k + 1, x5, x64 => if x64 = true then (some x5) else (impl_normal.l3 k ([] : List Int) (-1) 0 x5 (x5.length : Int) 0)
def impl_normal.l3 : Nat → List Int → Int → Int → List Int → Int → Int → Option (List Int)
 | 0, _, _, _, _, _, _ => none
 | k + 1, x10, x11, x12, x66, x67, x68 => if x68 < x67 then (if 0 ≤ x68 then (if x68 < (x66.length : Int) then ((impl_MarkClass.f (rd x66 x68)).bind fun t394 => (if x11 ≥ 0 then (if (wrap64 ((x10.length : Int) - 1)) = x11 then (impl_normal.j5 k x10 x11 x12 (rd x66 x68) t394 true x66 x67 x68) else (if x12 = 0 then (impl_normal.j5 k x10 x11 x12 (rd x66 x68) t394 false x66 x67 x68) else (impl_normal.j5 k x10 x11 x12 (rd x66 x68) t394 (decide (x12 < t394)) x66 x67 x68))) else (if x10.length < 17592186044416 then ((some (x10 ++ [rd x66 x68] : List Int)).bind fun y404 => (if t394 = 0 then (impl_normal.l3 k y404 (wrap64 ((y404.length : Int) - 1)) t394 x66 x67 (wrap64 (x68 + 1))) else (impl_normal.l3 k y404 x11 t394 x66 x67 (wrap64 (x68 + 1))))) else (none)))) else (none)) else (none)) else (some x10)
def impl_normal.j5 : Nat → List Int → Int → Int → Int → Int → Bool → List Int → Int → Int → Option (List Int)
 | 0, _, _, _, _, _, _, _, _, _ => none
 | k + 1, x10, x11, x12, x14, x15, x16, x66, x67, x68 => if x16 = true then (if 0 ≤ x11 then (if x11 < (x10.length : Int) then ((impl_Compose.f k (rd x10 x11) x14).bind fun t396 => (if t396 ≥ 0 then (impl_normal.l3 k (x10.set (x11 : Int).toNat t396) x11 x12 x66 x67 (wrap64 (x68 + 1))) else (if x10.length < 17592186044416 then ((some (x10 ++ [x14] : List Int)).bind fun y398 => (if x15 = 0 then (impl_normal.l3 k y398 (wrap64 ((y398.length : Int) - 1)) x15 x66 x67 (wrap64 (x68 + 1))) else (impl_normal.l3 k y398 x11 x15 x66 x67 (wrap64 (x68 + 1))))) else (none)))) else (none)) else (none)) else (if x10.length < 17592186044416 then ((some (x10 ++ [x14] : List Int)).bind fun y401 => (if x15 = 0 then (impl_normal.l3 k y401 (wrap64 ((y401.length : Int) - 1)) x15 x66 x67 (wrap64 (x68 + 1))) else (impl_normal.l3 k y401 x11 x15 x66 x67 (wrap64 (x68 + 1))))) else (none))
end
def impl_normal.f (k : Nat) (a0 : Int) (l1 : List Int) : Option (List Int) := impl_normal.l0 k a0 ([] : List Int) l1 (l1.length : Int) 0
set_option maxHeartbeats 8000000 in
set_option maxRecDepth 100000 in
theorem impl_normal.calls (k : Nat) (a0 : Int) (A1 : Option Addr) (c1 : Nat) (l1 : List Int) (r : List Int) (w : World) (hr1 : Kd.C (Kd.int .i64) w A1 l1.length l1) (hc1 : l1.length ≤ c1) (h : impl_normal.f k a0 l1 = some r) :
  Calls Tryd.prog 53 #[.int .i64 a0, .slice A1 l1.length c1] w fun e w' => ∃ v0_ : Value, e = .returned (v0_) ∧ Kd.R (Kd.int .i64) 2 w' w.heap.size (fun _ => True) v0_ r ∧ Below w.heap.size w w' := by
 have HR1 := am hr1
 have HC1 := am hc1
 clear hr1 hc1
 have HB := am (Below.refl w.heap.size w)
 have H : (impl_normal.l0 k a0 ([] : List Int) l1 (l1.length : Int) 0) = some r := h
 clear h
 have H' := am H
 clear H
 go_enter Tryd.func53, Tryd.ntmps53
 go_wp2
 go_loopg [5, 20] k (fun kq v5 v20 w' => ∃ (x5_1 : List Int) (x20_1 : Int), v20 = .int .i64 x20_1 ∧ Aside0 (impl_normal.l0 kq a0 x5_1 l1 (l1.length : Int) x20_1 = some r) ∧ Aside0 (kq ≤ k) ∧ Aside0 (Kd.R (Kd.int .i64) 2 w' w.heap.size (fun _ => True) v5 x5_1) ∧ Aside0 (Below w.heap.size w w'))
 case atStart => exact ⟨(([] : List Int)), (0), (by first | rfl | (simp; done) | (simp [*]; done)), H', ⟨Nat.le_refl _⟩, ⟨by first | exact Kd.R_nil _ _ _ _ _ | exact Kd.N_nil _ _ _ _ _ | exact Kd.V_nil _ _ _ _ _ | exact Kd.Q_nil _ _ _ _ _ | exact Kd.S_nil _ _ _ _ _⟩, ⟨bB⟩⟩
 case round =>
  clear H'
  try clear c1
  try clear p2
  obtain ⟨x5_1, x20_1, rfl, HA, HK1, HO_5, HB⟩ := hrel
  cases gk with
  | zero => exact absurd HA.out (by simp [impl_normal.l0])
  | succ k1 =>
   have H := HA.out
   clear HA
   simp only [impl_normal.l0] at H
   by_cases c3 : x20_1 < (l1.length : Int)
   ·rw [if_pos c3] at H
    have c3b0 : decide (x20_1 < (l1.length : Int)) = true := decide_eq_true c3
    clear c3
    by_cases c4 : 0 ≤ x20_1
    ·rw [if_pos c4] at H
     have c4b0 : decide (0 ≤ x20_1) = true := decide_eq_true c4
     clear c4
     by_cases c5 : x20_1 < (l1.length : Int)
     ·rw [if_pos c5] at H
      have c5b0 : decide (x20_1 < (l1.length : Int)) = true := decide_eq_true c5
      clear c5
      replace H := Option.bind_eq_some_iff.mp H
      obtain ⟨t383, A60, H⟩ := H
      replace H : (if x5_1.length + t383.length < 17592186044416 then (impl_normal.l0 k1 a0 (x5_1 ++ t383) l1 (l1.length : Int) (wrap64 (x20_1 + 1))) else (none)) = some r := H
      have A6 := am A60
      clear A60
      by_cases c7 : x5_1.length + t383.length < 17592186044416
      ·rw [if_pos c7] at H
       have LMc7 := am c7
       clear c7
       obtain ⟨y386, hy386⟩ : ∃ y_ : List Int, y_ = (x5_1 ++ t383) := ⟨_, rfl⟩
       replace H : (impl_normal.l0 k1 a0 y386 l1 (l1.length : Int) (wrap64 (x20_1 + 1))) = some r := by first | (rw [hy386]; with_reducible exact H) | (have H2_ := (Option.bind_some _ _).symm.trans H; rw [hy386]; with_reducible exact H2_) | (have H2_ := (Option.bind_some _ _).symm.trans H; with_reducible exact H2_) | with_reducible exact H | (rw [hy386]; exact H) | exact H
       have Ny386 := am hy386
       clear hy386
       have H' := am H
       clear H
       have p382 : 0 ≤ (x20_1 : Int) := od
       have q382 : x20_1 < (l1.length : Int) := od
       obtain ⟨ad382, e382, hx382_0⟩ := Kd.at_int HR1.out x20_1 p382 q382
       cases e382
       replace hx382_0 := (HB.out.cell (World.block_lt_of_cell? w _ hx382_0)).trans hx382_0
       replace p382 := eq_true p382
       replace q382 := eq_true q382
       go_wp2_with (first | ((with_reducible refine gate_callee (f := 77) rfl ?_); refine gl 28 Tryd.func77 #[.int .i64 (rd l1 x20_1), .bool (decide (a0 ≥ 3))] ?_; (with_reducible refine (impl_decompose.calls k1 (rd l1 x20_1) (decide (a0 ≥ 3)) t383 _ A6.out).mono ?_); rintro e w8 ⟨v384, rfl, ho0, hb⟩; refine ⟨_, rfl, ?_⟩; have HO385 := am (Kd.R_lower (Kd.R_new' ho0 (Kd.R_lt (kR HO_5.out))) (below_size bB)); replace HO_5 := am (Kd.R_elder' (kR HO_5.out) (Kd.R_base ho0) hb); replace HB := am (below_step bB hb); (try clear hb); (try clear hb2); (try clear hk); (try clear hi); (try clear ho0); obtain ⟨Ao10, co10, eo10⟩ := Kd.R_slice HO385.out; subst eo10) | ((with_reducible refine gate_builtin (b := .append) (xs := #[.tmp 24, .tmp 28]) rfl ?_); at_builtin; refine Kd.R_append_rows (Kd.int .i64) (w0 := w) w.heap.size rfl (.tmp 24) (.tmp 28) 58 2 (.int .i64 0) 8 rfl Tryd.underlying58 info2 rfl (by decide) (by omega) u5 x5_1 t383 _ _ _ (fun k_ => some k_ ≠ (.slice Ao10 t383.length co10 : Value).ownBlock) (fun _ => False) rfl rfl ?aO ?aR (fun _ _ h => h) (fun _ h => h.elim) ?aF ?aB ?aS ?aL ?_; (case aR => repeat (first | exact (Kd.R_reads' HO385.out).2.2 | (with_reducible refine Kd.C_alloc ?_ _) | (with_reducible refine Kd.C_drewN ?_ _) | (with_reducible refine Kd.C_drew ?_))); (case aB => exact bB); (case aF => exact (fun k_ hk => Kd.fresh' (Kd.R_lt (kR HO385.out)) k_ hk)); (case aO => exact (kR (Kd.R_mono HO_5.out (fun _ hk => hk.2)))); (case aS => exact (below_size bB)); (case aL => have := LMc7.out; omega); intro v387 w9 ho hb hg hat; rw [← Ny386.out] at ho; replace HO385 := am (Kd.R_after (ok := (fun _ => True)) (kR HO385.out) hg hat); replace HB := am (hb); have HO388 := am (ho); clear HO_5; clear ho hb hg hat))
       go_roundg k1
       case measure => have := HK1.out; omega
       case rel => exact ⟨(y386), (wrap64 (x20_1 + 1)), (by first | rfl | (simp; done) | (simp [*]; done)), H', ⟨by have := HK1.out; omega⟩, ⟨kR (Kd.R_mono HO388.out (fun _ hk => trivial))⟩, ⟨bB⟩⟩
      ·rw [if_neg c7] at H
       exact absurd H (by simp)
     ·rw [if_neg c5] at H
      exact absurd H (by simp)
    ·rw [if_neg c4] at H
     exact absurd H (by simp)
   ·rw [if_neg c3] at H
    have c3b0 : decide (x20_1 < (l1.length : Int)) = false := decide_eq_false c3
    clear c3
    have H' := am H
    clear H
    go_wp2
    go_loopg [8] k1 (fun kq v8 w' => ∃ (x5_2 : List Int) (x8_2 : Int), v8 = .int .i64 x8_2 ∧ Aside0 (impl_normal.l1 kq a0 x5_2 x8_2 = some r) ∧ Aside0 (kq ≤ k1) ∧ Aside0 (Kd.R (Kd.int .i64) 2 w' w.heap.size (fun _ => True) u5 x5_2) ∧ Aside0 (Below w.heap.size w w'))
    case atStart => exact ⟨(x5_1), (0), (by first | rfl | (simp; done) | (simp [*]; done)), H', ⟨Nat.le_refl _⟩, ⟨kR HO_5.out⟩, ⟨bB⟩⟩
    case round =>
     clear H'
     try clear c1
     try clear p2
     try clear c3
     try clear c3b0
     try clear p3
     try clear q3
     try clear hx3
     try clear c4
     try clear c4b0
     try clear c5
     try clear c5b0
     try clear p6
     try clear c7
     try clear hx382_0
     try clear p2
     try clear p382
     try clear q382
     obtain ⟨x5_2, x8_2, rfl, HA, HK2, HO_5, HB⟩ := hrel
     cases gk with
     | zero => exact absurd HA.out (by simp [impl_normal.l1])
     | succ k2 =>
      have H := HA.out
      clear HA
      simp only [impl_normal.l1] at H
      by_cases c11 : x8_2 < (x5_2.length : Int)
      ·rw [if_pos c11] at H
       have c11b0 : decide (x8_2 < (x5_2.length : Int)) = true := decide_eq_true c11
       clear c11
       have H' := am H
       clear H
       obtain ⟨Ao12, co12, eo12⟩ := Kd.R_slice HO_5.out
       subst eo12
       go_wp2
       go_loopg [9] k2 (fun kq v9 w' => ∃ (x9_3 : Int), v9 = .int .i64 x9_3 ∧ Aside0 (impl_normal.l2 kq a0 x5_2 x8_2 x9_3 = some r) ∧ Aside0 (kq ≤ k2) ∧ Aside0 (Kd.R (Kd.int .i64) 2 w' w.heap.size (fun _ => True) (.slice Ao12 x5_2.length co12) x5_2) ∧ Aside0 (Below w.heap.size w w'))
       case atStart => exact ⟨(x8_2), (by first | rfl | (simp; done) | (simp [*]; done)), H', ⟨Nat.le_refl _⟩, ⟨kR HO_5.out⟩, ⟨bB⟩⟩
       case round =>
        clear H'
        try clear c1
        try clear p2
        try clear c3
        try clear c3b0
        try clear p3
        try clear q3
        try clear hx3
        try clear c4
        try clear c4b0
        try clear c5
        try clear c5b0
        try clear p6
        try clear c7
        try clear c11
        try clear c11b0
        try clear hx382_0
        try clear p2
        try clear p3
        try clear p382
        try clear p6
        try clear q3
        try clear q382
        obtain ⟨x9_3, rfl, HA, HK3, HO_5, HB⟩ := hrel
        cases gk with
        | zero => exact absurd HA.out (by simp [impl_normal.l2])
        | succ k3 =>
         have H := HA.out
         clear HA
         simp only [impl_normal.l2] at H
         by_cases c13 : x9_3 < (x5_2.length : Int)
         ·rw [if_pos c13] at H
          have c13b0 : decide (x9_3 < (x5_2.length : Int)) = true := decide_eq_true c13
          clear c13
          by_cases c14 : 0 ≤ x9_3
          ·rw [if_pos c14] at H
           have c14b0 : decide (0 ≤ x9_3) = true := decide_eq_true c14
           clear c14
           replace H := Option.bind_eq_some_iff.mp H
           obtain ⟨t390, A150, H⟩ := H
           replace H : (if t390 = 0 then (if 0 ≤ x8_2 then (if x8_2 < (x5_2.length : Int) ∧ x8_2 ≤ x9_3 ∧ x9_3 ≤ (x5_2.length : Int) ∧ (x5_2.length : Int) ≤ 1152921504606846975 then (impl_normal.l1 k3 a0 (Stab.stCut mc x5_2 x8_2 x9_3) (mx x9_3 (wrap64 (x8_2 + 1)))) else (none)) else (none)) else (impl_normal.l2 k3 a0 x5_2 x8_2 (wrap64 (x9_3 + 1)))) = some r := H
           have A15 := am A150
           clear A150
           by_cases c16 : t390 = 0
           ·rw [if_pos c16] at H
            have c16b0 : (t390 == 0) = true := beq_iff_eq.mpr c16
            have c16b1 : (t390 != 0) = false := bne_eq_false_iff_eq.mpr c16
            clear c16
            by_cases c17 : 0 ≤ x8_2
            ·rw [if_pos c17] at H
             have c17b0 : decide (0 ≤ x8_2) = true := decide_eq_true c17
             clear c17
             by_cases c18 : x8_2 < (x5_2.length : Int) ∧ x8_2 ≤ x9_3 ∧ x9_3 ≤ (x5_2.length : Int) ∧ (x5_2.length : Int) ≤ 1152921504606846975
             ·rw [if_pos c18] at H
              have c18b0 : decide (x8_2 < (x5_2.length : Int) ∧ x8_2 ≤ x9_3 ∧ x9_3 ≤ (x5_2.length : Int) ∧ (x5_2.length : Int) ≤ 1152921504606846975) = true := decide_eq_true c18
              clear c18
              obtain ⟨y391, hy391⟩ : ∃ y_ : List Int, y_ = (Stab.stCut mc x5_2 x8_2 x9_3) := ⟨_, rfl⟩
              replace H : (impl_normal.l1 k3 a0 y391 (mx x9_3 (wrap64 (x8_2 + 1)))) = some r := by first | (rw [hy391]; with_reducible exact H) | (have H2_ := (Option.bind_some _ _).symm.trans H; rw [hy391]; with_reducible exact H2_) | (have H2_ := (Option.bind_some _ _).symm.trans H; with_reducible exact H2_) | with_reducible exact H | (rw [hy391]; exact H) | exact H
              have Ny391 := am hy391
              clear hy391
              obtain ⟨ji20, hji20⟩ : ∃ j_ : Int, (mx x9_3 (wrap64 (x8_2 + 1))) = j_ := ⟨_, rfl⟩
              replace H : (impl_normal.l1 k3 a0 y391 ji20) = some r := by first | (rw [hji20] at H; exact H) | (simp only [hji20] at H ⊢; exact H)
              (try rw [hji20] at A15)
              have hji20_ : (if x9_3 < (wrap64 (x8_2 + 1)) then (wrap64 (x8_2 + 1)) else x9_3) = ji20 := hji20
              have H' := am H
              clear H
              have p389 : 0 ≤ (x9_3 : Int) := od
              have q389 : x9_3 < (x5_2.length : Int) := od
              obtain ⟨ad389, e389, hx389_0⟩ := Kd.at_int (Kd.R_reads' HO_5.out).2.2 x9_3 p389 q389
              cases e389
              replace p389 := eq_true p389
              replace q389 := eq_true q389
              go_wp2_with (first | (go_at_call 51; (with_reducible refine (impl_MarkClass.calls (rd x5_2 x9_3) t390 _ A15.out).mono ?_); rintro e w' ⟨rfl, ⟨nd, rfl⟩⟩; (try (rw [drewN_self wr]; generalize hq_ : World.drewN wr _ = wr; have n0_ : Aside0 (Kd.R (Kd.int .i64) 2 wr w.heap.size (fun _ => True) (.slice (some ad389) x5_2.length co12) x5_2) := ⟨by rw [← hq_]; exact (kR HO_5.out)⟩; have n1_ : Aside0 (Below w.heap.size w wr) := ⟨by rw [← hq_]; exact bB⟩; clear HO_5 HB hq_; have HO_5 := n0_; have HB := n1_; clear n0_ n1_)); have p19 : 0 ≤ (x8_2 : Int) := od; have qq19 : x8_2 < (x5_2.length : Int) ∧ x8_2 ≤ x9_3 ∧ x9_3 ≤ (x5_2.length : Int) ∧ (x5_2.length : Int) ≤ 1152921504606846975 := od; obtain ⟨go19, co19, eo19, gb19, gl19, cl19, HG19⟩ := Kd.R_form HO_5.out (by omega); (first | cases eo19 | (injection eo19 with ea_ en_ ec_; (first | subst ea_ | (injection ea_ with ea_; subst ea_)); subst ec_; clear en_)); have GB19 := am gb19; have GG19 := am HG19; clear gb19 gl19 HG19; (first | simp only [add_plain] at hx389_0 | skip); have hRV_ := am (Stab.st_cut mc cmpf cmp_ok cmp_lt _ w go19 x5_2.length co12 x5_2 (fun _ => True) HO_5.out HB.out GB19.out x8_2 x9_3 p19 qq19.2.1 qq19.2.2.1 qq19.2.2.2 (co12 - x8_2.toNat)); have hcp_ := (Kd.R_reads' HO_5.out).2.1; have hcne_ : ¬ co12 = x8_2.toNat := (by omega); have hcnf_ : ¬ x8_2.toNat = co12 := (by omega); have hcx_ : (x9_3 ≤ (co12 : Int)) = True := eq_true (by omega); have hcm_ : (x8_2 ≤ max x9_3 0) = True := eq_true (by omega); have hcz_ : (0 ≤ x9_3) = True := eq_true (by omega); have hcy_ : ¬ x9_3 < 0 := (by omega); have hcw_ : (x8_2 ≤ x9_3) = True := eq_true (by omega); clear hcp_; replace p19 := eq_true p19; clear qq19) | ((with_reducible refine gate_callee (f := 78) rfl ?_); refine goesL_ (some 54) rfl rfl Tryd.func78 (by kernel_rfl) rfl #[.slice (some ⟨go19, (x8_2 : Int).toNat, none⟩) (x9_3.toNat - x8_2.toNat) (co12 - x8_2.toNat), .func (.func 79) #[] #[]] rfl (by (try simp only [List.map_toArray, List.map_cons, List.map_nil]); first | done | rfl) ?_; (with_reducible refine (hRV_.out).mono ?_); rintro e w22 ⟨rfl, hp_, hb⟩; refine ⟨_, rfl, ?_⟩; have n0_ := am (show Kd.R (Kd.int .i64) 2 w22 w.heap.size (fun _ => True) (.slice (some ⟨go19, 0, none⟩) x5_2.length co12) y391 from (by rw [Ny391.out]; exact hp_)); have n1_ := am hb; clear hRV_; clear HO_5; clear HB; have HO_5 := n0_; have HB := n1_; clear n0_ n1_; clear hp_ hb))
              go_roundg k3
              case measure => have := HK1.out; have := HK2.out; have := HK3.out; omega
              case rel => exact ⟨(y391), (ji20), (by first | rfl | (simp; done) | (simp only [← hji20] <;> (first | rfl | simp)) | (simp [*]; done)), H', ⟨by have := HK1.out; have := HK2.out; have := HK3.out; omega⟩, ⟨kR HO_5.out⟩, ⟨bB⟩⟩
             ·rw [if_neg c18] at H
              exact absurd H (by simp)
            ·rw [if_neg c17] at H
             exact absurd H (by simp)
           ·rw [if_neg c16] at H
            have c16b0 : (t390 == 0) = false := beq_eq_false_iff_ne.mpr c16
            have c16b1 : (t390 != 0) = true := bne_iff_ne.mpr c16
            have H' := am H
            clear H
            have p389 : 0 ≤ (x9_3 : Int) := od
            have q389 : x9_3 < (x5_2.length : Int) := od
            obtain ⟨ad389, e389, hx389_0⟩ := Kd.at_int (Kd.R_reads' HO_5.out).2.2 x9_3 p389 q389
            cases e389
            replace p389 := eq_true p389
            replace q389 := eq_true q389
            go_wp2_with (first | (go_at_call 51; (with_reducible refine (impl_MarkClass.calls (rd x5_2 x9_3) t390 _ A15.out).mono ?_); rintro e w' ⟨rfl, ⟨nd, rfl⟩⟩))
            go_roundg k3
            case measure => have := HK1.out; have := HK2.out; have := HK3.out; omega
            case rel => exact ⟨(wrap64 (x9_3 + 1)), (by first | rfl | (simp; done) | (simp [*]; done)), H', ⟨by have := HK1.out; have := HK2.out; have := HK3.out; omega⟩, ⟨kR HO_5.out⟩, ⟨bB⟩⟩
          ·rw [if_neg c14] at H
           exact absurd H (by simp)
         ·rw [if_neg c13] at H
          have c13b0 : decide (x9_3 < (x5_2.length : Int)) = false := decide_eq_false c13
          clear c13
          by_cases c23 : 0 ≤ x8_2
          ·rw [if_pos c23] at H
           have c23b0 : decide (0 ≤ x8_2) = true := decide_eq_true c23
           clear c23
           by_cases c24 : x8_2 < (x5_2.length : Int) ∧ x8_2 ≤ x9_3 ∧ x9_3 ≤ (x5_2.length : Int) ∧ (x5_2.length : Int) ≤ 1152921504606846975
           ·rw [if_pos c24] at H
            have c24b0 : decide (x8_2 < (x5_2.length : Int) ∧ x8_2 ≤ x9_3 ∧ x9_3 ≤ (x5_2.length : Int) ∧ (x5_2.length : Int) ≤ 1152921504606846975) = true := decide_eq_true c24
            clear c24
            obtain ⟨y392, hy392⟩ : ∃ y_ : List Int, y_ = (Stab.stCut mc x5_2 x8_2 x9_3) := ⟨_, rfl⟩
            replace H : (impl_normal.l1 k3 a0 y392 (mx x9_3 (wrap64 (x8_2 + 1)))) = some r := by first | (rw [hy392]; with_reducible exact H) | (have H2_ := (Option.bind_some _ _).symm.trans H; rw [hy392]; with_reducible exact H2_) | (have H2_ := (Option.bind_some _ _).symm.trans H; with_reducible exact H2_) | with_reducible exact H | (rw [hy392]; exact H) | exact H
            have Ny392 := am hy392
            clear hy392
            obtain ⟨ji26, hji26⟩ : ∃ j_ : Int, (mx x9_3 (wrap64 (x8_2 + 1))) = j_ := ⟨_, rfl⟩
            replace H : (impl_normal.l1 k3 a0 y392 ji26) = some r := by first | (rw [hji26] at H; exact H) | (simp only [hji26] at H ⊢; exact H)
            have hji26_ : (if x9_3 < (wrap64 (x8_2 + 1)) then (wrap64 (x8_2 + 1)) else x9_3) = ji26 := hji26
            have H' := am H
            clear H
            have p25 : 0 ≤ (x8_2 : Int) := od
            have qq25 : x8_2 < (x5_2.length : Int) ∧ x8_2 ≤ x9_3 ∧ x9_3 ≤ (x5_2.length : Int) ∧ (x5_2.length : Int) ≤ 1152921504606846975 := od
            obtain ⟨go25, co25, eo25, gb25, gl25, cl25, HG25⟩ := Kd.R_form HO_5.out (by omega)
            (first | cases eo25 | (injection eo25 with ea_ en_ ec_; (first | subst ea_ | (injection ea_ with ea_; subst ea_)); subst ec_; clear en_))
            have GB25 := am gb25
            have GG25 := am HG25
            clear gb25 gl25 HG25
            have hRV_ := am (Stab.st_cut mc cmpf cmp_ok cmp_lt _ w go25 x5_2.length co12 x5_2 (fun _ => True) HO_5.out HB.out GB25.out x8_2 x9_3 p25 qq25.2.1 qq25.2.2.1 qq25.2.2.2 (co12 - x8_2.toNat))
            have hcp_ := (Kd.R_reads' HO_5.out).2.1
            have hcne_ : ¬ co12 = x8_2.toNat := (by omega)
            have hcnf_ : ¬ x8_2.toNat = co12 := (by omega)
            have hcx_ : (x9_3 ≤ (co12 : Int)) = True := eq_true (by omega)
            have hcm_ : (x8_2 ≤ max x9_3 0) = True := eq_true (by omega)
            have hcz_ : (0 ≤ x9_3) = True := eq_true (by omega)
            have hcy_ : ¬ x9_3 < 0 := (by omega)
            have hcw_ : (x8_2 ≤ x9_3) = True := eq_true (by omega)
            clear hcp_
            replace p25 := eq_true p25
            clear qq25
            go_wp2_with (first | ((with_reducible refine gate_callee (f := 78) rfl ?_); refine goesL_ (some 54) rfl rfl Tryd.func78 (by kernel_rfl) rfl #[.slice (some ⟨go25, (x8_2 : Int).toNat, none⟩) (x9_3.toNat - x8_2.toNat) (co12 - x8_2.toNat), .func (.func 79) #[] #[]] rfl (by (try simp only [List.map_toArray, List.map_cons, List.map_nil]); first | done | rfl) ?_; (with_reducible refine (hRV_.out).mono ?_); rintro e w28 ⟨rfl, hp_, hb⟩; refine ⟨_, rfl, ?_⟩; have n0_ := am (show Kd.R (Kd.int .i64) 2 w28 w.heap.size (fun _ => True) (.slice (some ⟨go25, 0, none⟩) x5_2.length co12) y392 from (by rw [Ny392.out]; exact hp_)); have n1_ := am hb; clear hRV_; clear HO_5; clear HB; have HO_5 := n0_; have HB := n1_; clear n0_ n1_; clear hp_ hb))
            go_roundg k3
            case measure => have := HK1.out; have := HK2.out; have := HK3.out; omega
            case rel => exact ⟨(y392), (ji26), (by first | rfl | (simp; done) | (simp only [← hji26] <;> (first | rfl | simp)) | (simp [*]; done)), H', ⟨by have := HK1.out; have := HK2.out; have := HK3.out; omega⟩, ⟨kR HO_5.out⟩, ⟨bB⟩⟩
           ·rw [if_neg c24] at H
            exact absurd H (by simp)
          ·rw [if_neg c23] at H
           exact absurd H (by simp)
      ·rw [if_neg c11] at H
       have c11b0 : decide (x8_2 < (x5_2.length : Int)) = false := decide_eq_false c11
       clear c11
       have HC29 := am H
       clear H
       obtain ⟨Ao30, co30, eo30⟩ := Kd.R_slice HO_5.out
       subst eo30
       go_upto_region 14 with (fail)
       go_cut [64] (fun v64 wc => ∃ (kq : Nat) (x64_28 : Bool), v64 = .bool x64_28 ∧ Aside0 (impl_normal.j3 kq x5_2 x64_28 = some r) ∧ Aside0 (kq ≤ k2) ∧ Aside0 (Kd.R (Kd.int .i64) 2 wc w.heap.size (fun _ => True) (.slice Ao30 x5_2.length co30) x5_2) ∧ Aside0 (Below w.heap.size w wc))
       case first =>
        have H := HC29.out
        clear HC29
        by_cases c31 : a0 = 1
        ·rw [if_pos c31] at H
         have c31b0 : (a0 == 1) = true := beq_iff_eq.mpr c31
         have c31b1 : (a0 != 1) = false := bne_eq_false_iff_eq.mpr c31
         clear c31
         (first | rw [c31b0] | (simp only [i64_w, i32_w]; rw [c31b0]) | skip)
         have H' := am H
         clear H
         go_wp2
         go_meet
         case rel => exact ⟨_, (true), (by first | rfl | (simp; done) | (simp [*]; done)), H', ⟨by have := HK1.out; have := HK2.out; first | omega | exact Nat.le_refl _⟩, ⟨kR HO_5.out⟩, ⟨bB⟩⟩
        ·rw [if_neg c31] at H
         have c31b0 : (a0 == 1) = false := beq_eq_false_iff_ne.mpr c31
         have c31b1 : (a0 != 1) = true := bne_iff_ne.mpr c31
         (first | rw [c31b0] | (simp only [i64_w, i32_w]; rw [c31b0]) | skip)
         have H' := am H
         clear H
         go_wp2
         go_meet
         case rel => exact ⟨_, ((a0 == 3)), (by first | rfl | (simp; done) | (simp [*]; done)), H', ⟨by have := HK1.out; have := HK2.out; first | omega | exact Nat.le_refl _⟩, ⟨kR HO_5.out⟩, ⟨bB⟩⟩
       case rest =>
        clear HC29
        try clear c1
        try clear p1
        try clear q1
        try clear hx1
        try clear c2
        try clear p2
        try clear q2
        try clear hx2
        try clear hf2
        try clear c3
        try clear c3b0
        try clear p3
        try clear q3
        try clear hx3
        try clear c4
        try clear c4b0
        try clear c5
        try clear c5b0
        try clear p6
        try clear c7
        try clear c11
        try clear c11b0
        try clear c13
        try clear c13b0
        try clear c14
        try clear c14b0
        try clear c16
        try clear c16b0
        try clear c16b1
        try clear c17
        try clear c17b0
        try clear c18
        try clear c18b0
        try clear p19
        try clear q19
        try clear hx19
        try clear hf19
        try clear c23
        try clear c23b0
        try clear c24
        try clear c24b0
        try clear p25
        try clear q25
        try clear hx25
        try clear hf25
        try clear c31
        try clear c31b0
        try clear c31b1
        try clear hx19_0
        try clear hx25_0
        try clear hx382_0
        try clear hx389_0
        try clear p19
        try clear p2
        try clear p25
        try clear p3
        try clear p382
        try clear p389
        try clear p6
        try clear q19
        try clear q25
        try clear q3
        try clear q382
        try clear q389
        obtain ⟨kq, x64_28, rfl, HA, HJ28, HO_5, HB⟩ := hcut
        cases kq with
        | zero => exact absurd HA.out (by simp [impl_normal.j3])
        | succ kj28 =>
         have H := HA.out
         clear HA
         simp only [impl_normal.j3] at H
         by_cases c32 : x64_28 = true
         ·subst c32
          have H1 : (some x5_2) = some r := by rw [if_pos rfl] at H; exact H
          clear H
          have H := H1
          clear H1
          obtain rfl := Option.some.inj H
          go_wp2
          go_ret
          exact ⟨_, rv, kR HO_5.out, bB⟩
         ·replace c32 := Bool.eq_false_iff.mpr c32
          subst c32
          have H1 : (impl_normal.l3 kj28 ([] : List Int) (-1) 0 x5_2 (x5_2.length : Int) 0) = some r := by rw [if_neg (show ¬ (false = true) by decide)] at H; exact H
          clear H
          have H := H1
          clear H1
          have H' := am H
          clear H
          go_wp2
          go_loopg [10, 11, 12, 68] kj28 (fun kq v10 v11 v12 v68 w' => ∃ (x10_4 : List Int) (x11_4 : Int) (x12_4 : Int) (x66_4 : List Int) (x68_4 : Int), v11 = .int .i64 x11_4 ∧ v12 = .int .i64 x12_4 ∧ v68 = .int .i64 x68_4 ∧ Aside0 (impl_normal.l3 kq x10_4 x11_4 x12_4 x66_4 (x5_2.length : Int) x68_4 = some r) ∧ Aside0 (kq ≤ kj28) ∧ Aside0 (Kd.R (Kd.int .i64) 2 w' w.heap.size (fun k_ => some k_ ≠ ((.slice Ao30 x5_2.length co30) : Value).ownBlock) v10 x10_4) ∧ Aside0 (Kd.R (Kd.int .i64) 2 w' w.heap.size (fun k_ => some k_ ≠ (v10 : Value).ownBlock) (.slice Ao30 x5_2.length co30) x66_4) ∧ Aside0 (Below w.heap.size w w'))
          case atStart => exact ⟨(([] : List Int)), ((-1)), (0), (x5_2), (0), (by first | rfl | (simp; done) | (simp [*]; done)), (by first | rfl | (simp; done) | (simp [*]; done)), (by first | rfl | (simp; done) | (simp [*]; done)), H', ⟨Nat.le_refl _⟩, ⟨by first | exact Kd.R_nil _ _ _ _ _ | exact Kd.N_nil _ _ _ _ _ | exact Kd.V_nil _ _ _ _ _ | exact Kd.Q_nil _ _ _ _ _ | exact Kd.S_nil _ _ _ _ _⟩, ⟨kR (Kd.R_mono HO_5.out (fun _ hk => (by simp [Value.ownBlock])))⟩, ⟨bB⟩⟩
          case round =>
           clear H'
           try clear c1
           try clear p1
           try clear q1
           try clear hx1
           try clear c2
           try clear p2
           try clear q2
           try clear hx2
           try clear hf2
           try clear c3
           try clear c3b0
           try clear p3
           try clear q3
           try clear hx3
           try clear c4
           try clear c4b0
           try clear c5
           try clear c5b0
           try clear p6
           try clear c7
           try clear c11
           try clear c11b0
           try clear c13
           try clear c13b0
           try clear c14
           try clear c14b0
           try clear c16
           try clear c16b0
           try clear c16b1
           try clear c17
           try clear c17b0
           try clear c18
           try clear c18b0
           try clear p19
           try clear q19
           try clear hx19
           try clear hf19
           try clear c23
           try clear c23b0
           try clear c24
           try clear c24b0
           try clear p25
           try clear q25
           try clear hx25
           try clear hf25
           try clear c31
           try clear c31b0
           try clear c31b1
           try clear c32
           try clear hx19_0
           try clear hx25_0
           try clear hx382_0
           try clear hx389_0
           try clear p1
           try clear p19
           try clear p2
           try clear p25
           try clear p3
           try clear p382
           try clear p389
           try clear p6
           try clear q1
           try clear q19
           try clear q2
           try clear q25
           try clear q3
           try clear q382
           try clear q389
           obtain ⟨x10_4, x11_4, x12_4, x66_4, x68_4, rfl, rfl, rfl, HA, HK4, HO_10, HO_66, HB⟩ := hrel
           have hl66_4 := (Kd.R_reads' HO_66.out).1
           rw [hl66_4] at HO_66
           (try simp only [hl66_4])
           (try simp only [hl66_4] at HO_10)
           cases gk with
           | zero => exact absurd HA.out (by simp [impl_normal.l3])
           | succ k4 =>
            have H := HA.out
            clear HA
            simp only [impl_normal.l3] at H
            by_cases c33 : x68_4 < (x5_2.length : Int)
            ·rw [if_pos c33] at H
             have c33b0 : decide (x68_4 < (x5_2.length : Int)) = true := decide_eq_true c33
             simp only [hl66_4] at c33b0
             clear c33
             by_cases c34 : 0 ≤ x68_4
             ·rw [if_pos c34] at H
              have c34b0 : decide (0 ≤ x68_4) = true := decide_eq_true c34
              clear c34
              by_cases c35 : x68_4 < (x66_4.length : Int)
              ·rw [if_pos c35] at H
               have c35b0 : decide (x68_4 < (x66_4.length : Int)) = true := decide_eq_true c35
               clear c35
               replace H := Option.bind_eq_some_iff.mp H
               obtain ⟨t394, A360, H⟩ := H
               replace H : (if x11_4 ≥ 0 then (if (wrap64 ((x10_4.length : Int) - 1)) = x11_4 then (impl_normal.j5 k4 x10_4 x11_4 x12_4 (rd x66_4 x68_4) t394 true x66_4 (x5_2.length : Int) x68_4) else (if x12_4 = 0 then (impl_normal.j5 k4 x10_4 x11_4 x12_4 (rd x66_4 x68_4) t394 false x66_4 (x5_2.length : Int) x68_4) else (impl_normal.j5 k4 x10_4 x11_4 x12_4 (rd x66_4 x68_4) t394 (decide (x12_4 < t394)) x66_4 (x5_2.length : Int) x68_4))) else (if x10_4.length < 17592186044416 then ((some (x10_4 ++ [rd x66_4 x68_4] : List Int)).bind fun y404 => (if t394 = 0 then (impl_normal.l3 k4 y404 (wrap64 ((y404.length : Int) - 1)) t394 x66_4 (x5_2.length : Int) (wrap64 (x68_4 + 1))) else (impl_normal.l3 k4 y404 x11_4 t394 x66_4 (x5_2.length : Int) (wrap64 (x68_4 + 1))))) else (none))) = some r := H
               have A36 := am A360
               clear A360
               by_cases c37 : x11_4 ≥ 0
               ·rw [if_pos c37] at H
                have c37b0 : decide (0 ≤ x11_4) = true := decide_eq_true c37
                clear c37
                have HC38 := am H
                clear H
                have p393 : 0 ≤ (x68_4 : Int) := od
                have q393 : x68_4 < (x66_4.length : Int) := od
                obtain ⟨ad393, e393, hx393_0⟩ := Kd.at_int (Kd.R_reads' HO_66.out).2.2 x68_4 p393 q393
                cases e393
                replace p393 := eq_true p393
                replace q393 := eq_true q393
                go_upto_region 24 with (first | ((with_reducible refine gate_callee (f := 51) rfl ?_); refine gl 73 Tryd.func51 #[.int .i64 (rd x66_4 x68_4)] ?_; (with_reducible refine (impl_MarkClass.calls (rd x66_4 x68_4) t394 _ A36.out).mono ?_); rintro e w' ⟨rfl, ⟨nd, rfl⟩⟩; refine ⟨_, rfl, ?_⟩))
                (try simp only [Act.put, List.setIfInBounds_toArray, List.set_cons_zero, List.set_cons_succ])
                go_cut [16] (fun v16 wc => ∃ (kq : Nat) (x16_37 : Bool), v16 = .bool x16_37 ∧ Aside0 (impl_normal.j5 kq x10_4 x11_4 x12_4 (rd x66_4 x68_4) t394 x16_37 x66_4 (x5_2.length : Int) x68_4 = some r) ∧ Aside0 (kq ≤ k4) ∧ Aside0 (Kd.R (Kd.int .i64) 2 wc w.heap.size (fun k_ => some k_ ≠ ((.slice (some ad393) x66_4.length co30) : Value).ownBlock) u10 x10_4) ∧ Aside0 (Kd.R (Kd.int .i64) 2 wc w.heap.size (fun k_ => some k_ ≠ (u10 : Value).ownBlock) (.slice (some ad393) x66_4.length co30) x66_4) ∧ Aside0 (Below w.heap.size w wc))
                case first =>
                 have H := HC38.out
                 clear HC38
                 by_cases c39 : (wrap64 ((x10_4.length : Int) - 1)) = x11_4
                 ·rw [if_pos c39] at H
                  have c39b0 : ((wrap64 ((x10_4.length : Int) - 1)) == x11_4) = true := beq_iff_eq.mpr c39
                  have c39b1 : ((wrap64 ((x10_4.length : Int) - 1)) != x11_4) = false := bne_eq_false_iff_eq.mpr c39
                  clear c39
                  (first | rw [c39b0] | (simp only [i64_w, i32_w]; rw [c39b0]) | skip)
                  have H' := am H
                  clear H
                  obtain ⟨Ao40, co40, eo40⟩ := Kd.R_slice HO_10.out
                  subst eo40
                  go_wp2
                  go_meet
                  case rel => exact ⟨_, (true), (by first | rfl | (simp; done) | (simp [*]; done)), H', ⟨by have := HK1.out; have := HK2.out; have := HJ28.out; have := HK4.out; first | omega | exact Nat.le_refl _⟩, ⟨by (try simp only [hl66_4]); (with_reducible repeat (first | apply Kd.R_alloc | apply Kd.R_drewN | apply Kd.R_drew)); exact HO_10.out⟩, ⟨by (try simp only [hl66_4]); (with_reducible repeat (first | apply Kd.R_alloc | apply Kd.R_drewN | apply Kd.R_drew)); exact HO_66.out⟩, ⟨bB⟩⟩
                 ·rw [if_neg c39] at H
                  have c39b0 : ((wrap64 ((x10_4.length : Int) - 1)) == x11_4) = false := beq_eq_false_iff_ne.mpr c39
                  have c39b1 : ((wrap64 ((x10_4.length : Int) - 1)) != x11_4) = true := bne_iff_ne.mpr c39
                  (first | rw [c39b0] | (simp only [i64_w, i32_w]; rw [c39b0]) | skip)
                  by_cases c41 : x12_4 = 0
                  ·rw [if_pos c41] at H
                   have c41b0 : (x12_4 == 0) = true := beq_iff_eq.mpr c41
                   have c41b1 : (x12_4 != 0) = false := bne_eq_false_iff_eq.mpr c41
                   clear c41
                   have H' := am H
                   clear H
                   obtain ⟨Ao42, co42, eo42⟩ := Kd.R_slice HO_10.out
                   subst eo42
                   go_wp2
                   go_meet
                   case rel => exact ⟨_, (false), (by first | rfl | (simp; done) | (simp [*]; done)), H', ⟨by have := HK1.out; have := HK2.out; have := HJ28.out; have := HK4.out; first | omega | exact Nat.le_refl _⟩, ⟨by (try simp only [hl66_4]); (with_reducible repeat (first | apply Kd.R_alloc | apply Kd.R_drewN | apply Kd.R_drew)); exact HO_10.out⟩, ⟨by (try simp only [hl66_4]); (with_reducible repeat (first | apply Kd.R_alloc | apply Kd.R_drewN | apply Kd.R_drew)); exact HO_66.out⟩, ⟨bB⟩⟩
                  ·rw [if_neg c41] at H
                   have c41b0 : (x12_4 == 0) = false := beq_eq_false_iff_ne.mpr c41
                   have c41b1 : (x12_4 != 0) = true := bne_iff_ne.mpr c41
                   have H' := am H
                   clear H
                   obtain ⟨Ao43, co43, eo43⟩ := Kd.R_slice HO_10.out
                   subst eo43
                   go_wp2
                   go_meet
                   case rel => exact ⟨_, (decide (x12_4 < t394)), (by first | rfl | (simp; done) | (simp [*]; done)), H', ⟨by have := HK1.out; have := HK2.out; have := HJ28.out; have := HK4.out; first | omega | exact Nat.le_refl _⟩, ⟨by (try simp only [hl66_4]); (with_reducible repeat (first | apply Kd.R_alloc | apply Kd.R_drewN | apply Kd.R_drew)); exact HO_10.out⟩, ⟨by (try simp only [hl66_4]); (with_reducible repeat (first | apply Kd.R_alloc | apply Kd.R_drewN | apply Kd.R_drew)); exact HO_66.out⟩, ⟨bB⟩⟩
                case rest =>
                 clear HC38
                 try clear c1
                 try clear p1
                 try clear q1
                 try clear hx1
                 try clear c2
                 try clear p2
                 try clear q2
                 try clear hx2
                 try clear hf2
                 try clear c3
                 try clear c3b0
                 try clear p3
                 try clear q3
                 try clear hx3
                 try clear c4
                 try clear c4b0
                 try clear c5
                 try clear c5b0
                 try clear p6
                 try clear c7
                 try clear c11
                 try clear c11b0
                 try clear c13
                 try clear c13b0
                 try clear c14
                 try clear c14b0
                 try clear c16
                 try clear c16b0
                 try clear c16b1
                 try clear c17
                 try clear c17b0
                 try clear c18
                 try clear c18b0
                 try clear p19
                 try clear q19
                 try clear hx19
                 try clear hf19
                 try clear c23
                 try clear c23b0
                 try clear c24
                 try clear c24b0
                 try clear p25
                 try clear q25
                 try clear hx25
                 try clear hf25
                 try clear c31
                 try clear c31b0
                 try clear c31b1
                 try clear c32
                 try clear c33
                 try clear c33b0
                 try clear c34
                 try clear c34b0
                 try clear c35
                 try clear c35b0
                 try clear c37
                 try clear c37b0
                 try clear p38
                 try clear q38
                 try clear hx38
                 try clear c39
                 try clear c39b0
                 try clear c39b1
                 try clear p39
                 try clear q39
                 try clear hx39
                 try clear c41
                 try clear c41b0
                 try clear c41b1
                 try clear hx19_0
                 try clear hx25_0
                 try clear hx382_0
                 try clear hx389_0
                 try clear hx393_0
                 try clear p1
                 try clear p19
                 try clear p2
                 try clear p25
                 try clear p3
                 try clear p382
                 try clear p389
                 try clear p393
                 try clear p6
                 try clear q1
                 try clear q19
                 try clear q2
                 try clear q25
                 try clear q3
                 try clear q382
                 try clear q389
                 try clear q393
                 obtain ⟨kq, x16_37, rfl, HA, HJ37, HO_10, HO_66, HB⟩ := hcut
                 cases kq with
                 | zero => exact absurd HA.out (by simp [impl_normal.j5])
                 | succ kj37 =>
                  have H := HA.out
                  clear HA
                  simp only [impl_normal.j5] at H
                  by_cases c44 : x16_37 = true
                  ·subst c44
                   have H1 : (if 0 ≤ x11_4 then (if x11_4 < (x10_4.length : Int) then ((impl_Compose.f kj37 (rd x10_4 x11_4) (rd x66_4 x68_4)).bind fun t396 => (if t396 ≥ 0 then (impl_normal.l3 kj37 (x10_4.set (x11_4 : Int).toNat t396) x11_4 x12_4 x66_4 (x5_2.length : Int) (wrap64 (x68_4 + 1))) else (if x10_4.length < 17592186044416 then ((some (x10_4 ++ [(rd x66_4 x68_4)] : List Int)).bind fun y398 => (if t394 = 0 then (impl_normal.l3 kj37 y398 (wrap64 ((y398.length : Int) - 1)) t394 x66_4 (x5_2.length : Int) (wrap64 (x68_4 + 1))) else (impl_normal.l3 kj37 y398 x11_4 t394 x66_4 (x5_2.length : Int) (wrap64 (x68_4 + 1))))) else (none)))) else (none)) else (none)) = some r := by rw [if_pos rfl] at H; exact H
                   clear H
                   have H := H1
                   clear H1
                   by_cases c45 : 0 ≤ x11_4
                   ·rw [if_pos c45] at H
                    have c45b0 : decide (0 ≤ x11_4) = true := decide_eq_true c45
                    clear c45
                    by_cases c46 : x11_4 < (x10_4.length : Int)
                    ·rw [if_pos c46] at H
                     have c46b0 : decide (x11_4 < (x10_4.length : Int)) = true := decide_eq_true c46
                     clear c46
                     replace H := Option.bind_eq_some_iff.mp H
                     obtain ⟨t396, A470, H⟩ := H
                     replace H : (if t396 ≥ 0 then (impl_normal.l3 kj37 (x10_4.set (x11_4 : Int).toNat t396) x11_4 x12_4 x66_4 (x5_2.length : Int) (wrap64 (x68_4 + 1))) else (if x10_4.length < 17592186044416 then ((some (x10_4 ++ [(rd x66_4 x68_4)] : List Int)).bind fun y398 => (if t394 = 0 then (impl_normal.l3 kj37 y398 (wrap64 ((y398.length : Int) - 1)) t394 x66_4 (x5_2.length : Int) (wrap64 (x68_4 + 1))) else (impl_normal.l3 kj37 y398 x11_4 t394 x66_4 (x5_2.length : Int) (wrap64 (x68_4 + 1))))) else (none))) = some r := H
                     have A47 := am A470
                     clear A470
                     by_cases c48 : t396 ≥ 0
                     ·rw [if_pos c48] at H
                      have c48b0 : decide (0 ≤ t396) = true := decide_eq_true c48
                      clear c48
                      obtain ⟨y397, hy397⟩ : ∃ y_ : List Int, y_ = (x10_4.set (x11_4 : Int).toNat t396) := ⟨_, rfl⟩
                      replace H : (impl_normal.l3 kj37 y397 x11_4 x12_4 x66_4 (x5_2.length : Int) (wrap64 (x68_4 + 1))) = some r := by first | (rw [hy397]; with_reducible exact H) | (have H2_ := (Option.bind_some _ _).symm.trans H; rw [hy397]; with_reducible exact H2_) | (have H2_ := (Option.bind_some _ _).symm.trans H; with_reducible exact H2_) | with_reducible exact H | (rw [hy397]; exact H) | exact H
                      have Ny397 := am hy397
                      clear hy397
                      have H' := am H
                      clear H
                      obtain ⟨Ao50, co50, eo50⟩ := Kd.R_slice HO_10.out
                      subst eo50
                      have p395 : 0 ≤ (x11_4 : Int) := od
                      have q395 : x11_4 < (x10_4.length : Int) := od
                      obtain ⟨ad395, e395, hx395_0⟩ := Kd.at_int (Kd.R_reads' HO_10.out).2.2 x11_4 p395 q395
                      cases e395
                      replace p395 := eq_true p395
                      replace q395 := eq_true q395
                      go_wp2_with (first | ((with_reducible refine gate_callee (f := 80) rfl ?_); refine gl 96 Tryd.func80 #[.int .i64 (rd x10_4 x11_4), .int .i64 (rd x66_4 x68_4)] ?_; (with_reducible refine (impl_Compose.calls kj37 (rd x10_4 x11_4) (rd x66_4 x68_4) t396 _ A47.out).mono ?_); rintro e w' ⟨rfl, ⟨nd, rfl⟩⟩; refine ⟨_, rfl, ?_⟩; (try (rw [drewN_self wc]; generalize hq_ : World.drewN wc _ = wc; have n0_ : Aside0 (Kd.R (Kd.int .i64) 2 wc w.heap.size (fun k_ => some k_ ≠ (.slice (some ad393) x66_4.length co30 : Value).ownBlock) (.slice (some ad395) x10_4.length co50) x10_4) := ⟨by rw [← hq_]; exact (kR HO_10.out)⟩; have n1_ : Aside0 (Kd.R (Kd.int .i64) 2 wc w.heap.size (fun k_ => some k_ ≠ (.slice (some ad395) x10_4.length co50 : Value).ownBlock) (.slice (some ad393) x66_4.length co30) x66_4) := ⟨by rw [← hq_]; exact (kR HO_66.out)⟩; have n2_ : Aside0 (Below w.heap.size w wc) := ⟨by rw [← hq_]; exact bB⟩; clear HO_10 HO_66 HB hq_; have HO_10 := n0_; have HO_66 := n1_; have HB := n2_; clear n0_ n1_ n2_)); have p49 : 0 ≤ (x11_4 : Int) := od; have q49 : (x11_4 : Int) < ((x10_4.length : Int) : Int) := od; obtain ⟨go49, co49, eo49, gb49, gl49, cl49, HG49⟩ := Kd.R_form HO_10.out (by omega); (first | cases eo49 | (injection eo49 with ea_ en_ ec_; (first | subst ea_ | (injection ea_ with ea_; subst ea_)); subst ec_; clear en_)); have GB49 := am gb49; have GG49 := am HG49; clear gb49 gl49 HG49; (first | simp only [add_plain] at hx395_0 | skip); obtain ⟨hx49_0, hf49_0⟩ := Kd.R_celln 0 HO_10.out (x11_4 : Int) p49 q49; replace p49 := eq_true p49; replace q49 := eq_true q49; obtain ⟨hy51_, hz51_⟩ := Kd.R_celln 0 HO_10.out (x11_4 : Int) (od) (od); have HP51 := Kd.R_putg HO_10.out (x11_4 : Int) t396) | ((with_reducible refine gate_store (t := 2) (p := 102) rfl ?_); refine store_event (t := 2) (p := 102) (v := ?vo_w52) (w1 := (wc.setCell ⟨go49, (x11_4 : Int).toNat, none⟩ (.int .i64 t396))) ?hg ?ho ?hn ?hr ?_; (case ho => rfl); (case hg => rfl); (case hn => rfl); (case hr => first | (go_simp; done) | (go_simp; rfl)); intro w52 hw; have hg : wc.grownBy w52 (some go49) := (by rw [hw]; exact HP51.2); have hp_ : Kd.R (Kd.int .i64) 2 w52 w.heap.size (fun k_ => some k_ ≠ (.slice (some ad393) x66_4.length co30 : Value).ownBlock) (.slice (some ⟨go49, 0, none⟩) x10_4.length co50) y397 := (by rw [hw, Ny397.out]; exact HP51.1); clear HP51; replace HO_10 := am (hp_); replace HO_66 := am (Kd.R_after (v := (.slice (some ⟨go49, 0, none⟩) x10_4.length co50)) (v1 := (.slice (some ⟨go49, 0, none⟩) x10_4.length co50)) (ok := (fun _ => True)) (kR (Kd.R_mono HO_66.out (fun _ hk => ⟨trivial, hk⟩))) hg (.inl rfl)); replace HB := am ((by rw [hw]; exact below_set (HB.out) GB49.out : Below w.heap.size w w52)); clear hg hw hp_))
                      (try simp only [← hl66_4])
                      go_roundg kj37
                      case measure => have := HK1.out; have := HK2.out; have := HJ28.out; have := HK4.out; have := HJ37.out; omega
                      case rel => exact ⟨(y397), (x11_4), (x12_4), (x66_4), (wrap64 (x68_4 + 1)), (by first | rfl | (simp; done) | (simp [*]; done)), (by first | rfl | (simp; done) | (simp [*]; done)), (by first | rfl | (simp; done) | (simp [*]; done)), H', ⟨by have := HK1.out; have := HK2.out; have := HJ28.out; have := HK4.out; have := HJ37.out; omega⟩, ⟨by (try simp only [hl66_4]); (with_reducible repeat (first | apply Kd.R_alloc | apply Kd.R_drewN | apply Kd.R_drew)); exact HO_10.out⟩, ⟨by (try simp only [hl66_4]); (with_reducible repeat (first | apply Kd.R_alloc | apply Kd.R_drewN | apply Kd.R_drew)); exact Kd.R_mono HO_66.out (fun _ hk => hk.2)⟩, ⟨bB⟩⟩
                     ·rw [if_neg c48] at H
                      have c48b0 : decide (0 ≤ t396) = false := decide_eq_false c48
                      clear c48
                      by_cases c53 : x10_4.length < 17592186044416
                      ·rw [if_pos c53] at H
                       have LMc53 := am c53
                       clear c53
                       obtain ⟨y398, hy398⟩ : ∃ y_ : List Int, y_ = (x10_4 ++ [(rd x66_4 x68_4)]) := ⟨_, rfl⟩
                       replace H : (if t394 = 0 then (impl_normal.l3 kj37 y398 (wrap64 ((y398.length : Int) - 1)) t394 x66_4 (x5_2.length : Int) (wrap64 (x68_4 + 1))) else (impl_normal.l3 kj37 y398 x11_4 t394 x66_4 (x5_2.length : Int) (wrap64 (x68_4 + 1)))) = some r := by first | (rw [hy398]; with_reducible exact H) | (have H2_ := (Option.bind_some _ _).symm.trans H; rw [hy398]; with_reducible exact H2_) | (have H2_ := (Option.bind_some _ _).symm.trans H; with_reducible exact H2_) | with_reducible exact H | (rw [hy398]; exact H) | exact H
                       have Ny398 := am hy398
                       clear hy398
                       by_cases c54 : t394 = 0
                       ·rw [if_pos c54] at H
                        have c54b0 : (t394 == 0) = true := beq_iff_eq.mpr c54
                        have c54b1 : (t394 != 0) = false := bne_eq_false_iff_eq.mpr c54
                        clear c54
                        have H' := am H
                        clear H
                        obtain ⟨Ao55, co55, eo55⟩ := Kd.R_slice HO_10.out
                        subst eo55
                        have p395 : 0 ≤ (x11_4 : Int) := od
                        have q395 : x11_4 < (x10_4.length : Int) := od
                        obtain ⟨ad395, e395, hx395_0⟩ := Kd.at_int (Kd.R_reads' HO_10.out).2.2 x11_4 p395 q395
                        cases e395
                        replace p395 := eq_true p395
                        replace q395 := eq_true q395
                        go_wp2_with (first | ((with_reducible refine gate_callee (f := 80) rfl ?_); refine gl 96 Tryd.func80 #[.int .i64 (rd x10_4 x11_4), .int .i64 (rd x66_4 x68_4)] ?_; (with_reducible refine (impl_Compose.calls kj37 (rd x10_4 x11_4) (rd x66_4 x68_4) t396 _ A47.out).mono ?_); rintro e w' ⟨rfl, ⟨nd, rfl⟩⟩; refine ⟨_, rfl, ?_⟩) | ((with_reducible refine gate_builtin (b := .append) (xs := #[.tmp 103, .tmp 105]) rfl ?_); at_builtin; refine Kd.R_append (Kd.int .i64) (w0 := w) w.heap.size rfl (.tmp 103) (.tmp 105) 58 2 (.int .i64 0) 8 rfl Tryd.underlying58 info2 rfl (by decide) (by omega) (.slice (some ad395) x10_4.length co55) x10_4 (rd x66_4 x68_4) [.int .i64 (rd x66_4 x68_4)] (fun k_ => some k_ ≠ (.slice (some ad393) x66_4.length co30 : Value).ownBlock) (fun _ => False) rfl rfl ?aP (fun _ hk => hk.elim) ?aF ?aO ?aB ?aS ?aL ?_; (case aP => exact rfl); (case aB => exact bB); (case aF => exact (fun k_ hk => Kd.fresh' (Kd.R_lt (kR HO_66.out)) k_ hk)); (case aO => exact (kR HO_10.out)); (case aS => exact (below_size bB)); (case aL => have := LMc53.out; omega); intro v399 w56 ho hb hg hat; rw [← Ny398.out] at ho; replace HO_66 := am (Kd.R_after (ok := (fun _ => True)) (kR (Kd.R_mono HO_66.out (fun _ hk => ⟨trivial, hk⟩))) hg hat); replace HB := am (hb); have HO400 := am (ho); clear HO_10; clear ho hb hg hat; obtain ⟨Ao57, co57, eo57⟩ := Kd.R_slice HO400.out; subst eo57))
                        (try simp only [← hl66_4])
                        go_roundg kj37
                        case measure => have := HK1.out; have := HK2.out; have := HJ28.out; have := HK4.out; have := HJ37.out; omega
                        case rel => exact ⟨(y398), (wrap64 ((y398.length : Int) - 1)), (t394), (x66_4), (wrap64 (x68_4 + 1)), (by first | rfl | (simp; done) | (simp [*]; done)), (by first | rfl | (simp; done) | (simp [*]; done)), (by first | rfl | (simp; done) | (simp [*]; done)), H', ⟨by have := HK1.out; have := HK2.out; have := HJ28.out; have := HK4.out; have := HJ37.out; omega⟩, ⟨by (try simp only [hl66_4]); (with_reducible repeat (first | apply Kd.R_alloc | apply Kd.R_drewN | apply Kd.R_drew)); exact HO400.out⟩, ⟨by (try simp only [hl66_4]); (with_reducible repeat (first | apply Kd.R_alloc | apply Kd.R_drewN | apply Kd.R_drew)); exact Kd.R_mono HO_66.out (fun _ hk => hk.2)⟩, ⟨bB⟩⟩
                       ·rw [if_neg c54] at H
                        have c54b0 : (t394 == 0) = false := beq_eq_false_iff_ne.mpr c54
                        have c54b1 : (t394 != 0) = true := bne_iff_ne.mpr c54
                        have H' := am H
                        clear H
                        obtain ⟨Ao58, co58, eo58⟩ := Kd.R_slice HO_10.out
                        subst eo58
                        have p395 : 0 ≤ (x11_4 : Int) := od
                        have q395 : x11_4 < (x10_4.length : Int) := od
                        obtain ⟨ad395, e395, hx395_0⟩ := Kd.at_int (Kd.R_reads' HO_10.out).2.2 x11_4 p395 q395
                        cases e395
                        replace p395 := eq_true p395
                        replace q395 := eq_true q395
                        go_wp2_with (first | ((with_reducible refine gate_callee (f := 80) rfl ?_); refine gl 96 Tryd.func80 #[.int .i64 (rd x10_4 x11_4), .int .i64 (rd x66_4 x68_4)] ?_; (with_reducible refine (impl_Compose.calls kj37 (rd x10_4 x11_4) (rd x66_4 x68_4) t396 _ A47.out).mono ?_); rintro e w' ⟨rfl, ⟨nd, rfl⟩⟩; refine ⟨_, rfl, ?_⟩) | ((with_reducible refine gate_builtin (b := .append) (xs := #[.tmp 103, .tmp 105]) rfl ?_); at_builtin; refine Kd.R_append (Kd.int .i64) (w0 := w) w.heap.size rfl (.tmp 103) (.tmp 105) 58 2 (.int .i64 0) 8 rfl Tryd.underlying58 info2 rfl (by decide) (by omega) (.slice (some ad395) x10_4.length co58) x10_4 (rd x66_4 x68_4) [.int .i64 (rd x66_4 x68_4)] (fun k_ => some k_ ≠ (.slice (some ad393) x66_4.length co30 : Value).ownBlock) (fun _ => False) rfl rfl ?aP (fun _ hk => hk.elim) ?aF ?aO ?aB ?aS ?aL ?_; (case aP => exact rfl); (case aB => exact bB); (case aF => exact (fun k_ hk => Kd.fresh' (Kd.R_lt (kR HO_66.out)) k_ hk)); (case aO => exact (kR HO_10.out)); (case aS => exact (below_size bB)); (case aL => have := LMc53.out; omega); intro v399 w59 ho hb hg hat; rw [← Ny398.out] at ho; replace HO_66 := am (Kd.R_after (ok := (fun _ => True)) (kR (Kd.R_mono HO_66.out (fun _ hk => ⟨trivial, hk⟩))) hg hat); replace HB := am (hb); have HO400 := am (ho); clear HO_10; clear ho hb hg hat))
                        (try simp only [← hl66_4])
                        go_roundg kj37
                        case measure => have := HK1.out; have := HK2.out; have := HJ28.out; have := HK4.out; have := HJ37.out; omega
                        case rel => exact ⟨(y398), (x11_4), (t394), (x66_4), (wrap64 (x68_4 + 1)), (by first | rfl | (simp; done) | (simp [*]; done)), (by first | rfl | (simp; done) | (simp [*]; done)), (by first | rfl | (simp; done) | (simp [*]; done)), H', ⟨by have := HK1.out; have := HK2.out; have := HJ28.out; have := HK4.out; have := HJ37.out; omega⟩, ⟨by (try simp only [hl66_4]); (with_reducible repeat (first | apply Kd.R_alloc | apply Kd.R_drewN | apply Kd.R_drew)); exact HO400.out⟩, ⟨by (try simp only [hl66_4]); (with_reducible repeat (first | apply Kd.R_alloc | apply Kd.R_drewN | apply Kd.R_drew)); exact Kd.R_mono HO_66.out (fun _ hk => hk.2)⟩, ⟨bB⟩⟩
                      ·rw [if_neg c53] at H
                       exact absurd H (by simp)
                    ·rw [if_neg c46] at H
                     exact absurd H (by simp)
                   ·rw [if_neg c45] at H
                    exact absurd H (by simp)
                  ·replace c44 := Bool.eq_false_iff.mpr c44
                   subst c44
                   have H1 : (if x10_4.length < 17592186044416 then ((some (x10_4 ++ [(rd x66_4 x68_4)] : List Int)).bind fun y401 => (if t394 = 0 then (impl_normal.l3 kj37 y401 (wrap64 ((y401.length : Int) - 1)) t394 x66_4 (x5_2.length : Int) (wrap64 (x68_4 + 1))) else (impl_normal.l3 kj37 y401 x11_4 t394 x66_4 (x5_2.length : Int) (wrap64 (x68_4 + 1))))) else (none)) = some r := by rw [if_neg (show ¬ (false = true) by decide)] at H; exact H
                   clear H
                   have H := H1
                   clear H1
                   by_cases c60 : x10_4.length < 17592186044416
                   ·rw [if_pos c60] at H
                    have LMc60 := am c60
                    clear c60
                    obtain ⟨y401, hy401⟩ : ∃ y_ : List Int, y_ = (x10_4 ++ [(rd x66_4 x68_4)]) := ⟨_, rfl⟩
                    replace H : (if t394 = 0 then (impl_normal.l3 kj37 y401 (wrap64 ((y401.length : Int) - 1)) t394 x66_4 (x5_2.length : Int) (wrap64 (x68_4 + 1))) else (impl_normal.l3 kj37 y401 x11_4 t394 x66_4 (x5_2.length : Int) (wrap64 (x68_4 + 1)))) = some r := by first | (rw [hy401]; with_reducible exact H) | (have H2_ := (Option.bind_some _ _).symm.trans H; rw [hy401]; with_reducible exact H2_) | (have H2_ := (Option.bind_some _ _).symm.trans H; with_reducible exact H2_) | with_reducible exact H | (rw [hy401]; exact H) | exact H
                    have Ny401 := am hy401
                    clear hy401
                    by_cases c61 : t394 = 0
                    ·rw [if_pos c61] at H
                     have c61b0 : (t394 == 0) = true := beq_iff_eq.mpr c61
                     have c61b1 : (t394 != 0) = false := bne_eq_false_iff_eq.mpr c61
                     clear c61
                     have H' := am H
                     clear H
                     go_wp2_with (first | ((with_reducible refine gate_builtin (b := .append) (xs := #[.tmp 103, .tmp 105]) rfl ?_); at_builtin; refine Kd.R_append (Kd.int .i64) (w0 := w) w.heap.size rfl (.tmp 103) (.tmp 105) 58 2 (.int .i64 0) 8 rfl Tryd.underlying58 info2 rfl (by decide) (by omega) u10 x10_4 (rd x66_4 x68_4) [.int .i64 (rd x66_4 x68_4)] (fun k_ => some k_ ≠ (.slice (some ad393) x66_4.length co30 : Value).ownBlock) (fun _ => False) rfl rfl ?aP (fun _ hk => hk.elim) ?aF ?aO ?aB ?aS ?aL ?_; (case aP => exact rfl); (case aB => exact bB); (case aF => exact (fun k_ hk => Kd.fresh' (Kd.R_lt (kR HO_66.out)) k_ hk)); (case aO => exact (kR HO_10.out)); (case aS => exact (below_size bB)); (case aL => have := LMc60.out; omega); intro v402 w62 ho hb hg hat; rw [← Ny401.out] at ho; replace HO_66 := am (Kd.R_after (ok := (fun _ => True)) (kR (Kd.R_mono HO_66.out (fun _ hk => ⟨trivial, hk⟩))) hg hat); replace HB := am (hb); have HO403 := am (ho); clear HO_10; clear ho hb hg hat; obtain ⟨Ao63, co63, eo63⟩ := Kd.R_slice HO403.out; subst eo63))
                     (try simp only [← hl66_4])
                     go_roundg kj37
                     case measure => have := HK1.out; have := HK2.out; have := HJ28.out; have := HK4.out; have := HJ37.out; omega
                     case rel => exact ⟨(y401), (wrap64 ((y401.length : Int) - 1)), (t394), (x66_4), (wrap64 (x68_4 + 1)), (by first | rfl | (simp; done) | (simp [*]; done)), (by first | rfl | (simp; done) | (simp [*]; done)), (by first | rfl | (simp; done) | (simp [*]; done)), H', ⟨by have := HK1.out; have := HK2.out; have := HJ28.out; have := HK4.out; have := HJ37.out; omega⟩, ⟨by (try simp only [hl66_4]); (with_reducible repeat (first | apply Kd.R_alloc | apply Kd.R_drewN | apply Kd.R_drew)); exact HO403.out⟩, ⟨by (try simp only [hl66_4]); (with_reducible repeat (first | apply Kd.R_alloc | apply Kd.R_drewN | apply Kd.R_drew)); exact Kd.R_mono HO_66.out (fun _ hk => hk.2)⟩, ⟨bB⟩⟩
                    ·rw [if_neg c61] at H
                     have c61b0 : (t394 == 0) = false := beq_eq_false_iff_ne.mpr c61
                     have c61b1 : (t394 != 0) = true := bne_iff_ne.mpr c61
                     have H' := am H
                     clear H
                     go_wp2_with (first | ((with_reducible refine gate_builtin (b := .append) (xs := #[.tmp 103, .tmp 105]) rfl ?_); at_builtin; refine Kd.R_append (Kd.int .i64) (w0 := w) w.heap.size rfl (.tmp 103) (.tmp 105) 58 2 (.int .i64 0) 8 rfl Tryd.underlying58 info2 rfl (by decide) (by omega) u10 x10_4 (rd x66_4 x68_4) [.int .i64 (rd x66_4 x68_4)] (fun k_ => some k_ ≠ (.slice (some ad393) x66_4.length co30 : Value).ownBlock) (fun _ => False) rfl rfl ?aP (fun _ hk => hk.elim) ?aF ?aO ?aB ?aS ?aL ?_; (case aP => exact rfl); (case aB => exact bB); (case aF => exact (fun k_ hk => Kd.fresh' (Kd.R_lt (kR HO_66.out)) k_ hk)); (case aO => exact (kR HO_10.out)); (case aS => exact (below_size bB)); (case aL => have := LMc60.out; omega); intro v402 w64 ho hb hg hat; rw [← Ny401.out] at ho; replace HO_66 := am (Kd.R_after (ok := (fun _ => True)) (kR (Kd.R_mono HO_66.out (fun _ hk => ⟨trivial, hk⟩))) hg hat); replace HB := am (hb); have HO403 := am (ho); clear HO_10; clear ho hb hg hat))
                     (try simp only [← hl66_4])
                     go_roundg kj37
                     case measure => have := HK1.out; have := HK2.out; have := HJ28.out; have := HK4.out; have := HJ37.out; omega
                     case rel => exact ⟨(y401), (x11_4), (t394), (x66_4), (wrap64 (x68_4 + 1)), (by first | rfl | (simp; done) | (simp [*]; done)), (by first | rfl | (simp; done) | (simp [*]; done)), (by first | rfl | (simp; done) | (simp [*]; done)), H', ⟨by have := HK1.out; have := HK2.out; have := HJ28.out; have := HK4.out; have := HJ37.out; omega⟩, ⟨by (try simp only [hl66_4]); (with_reducible repeat (first | apply Kd.R_alloc | apply Kd.R_drewN | apply Kd.R_drew)); exact HO403.out⟩, ⟨by (try simp only [hl66_4]); (with_reducible repeat (first | apply Kd.R_alloc | apply Kd.R_drewN | apply Kd.R_drew)); exact Kd.R_mono HO_66.out (fun _ hk => hk.2)⟩, ⟨bB⟩⟩
                   ·rw [if_neg c60] at H
                    exact absurd H (by simp)
               ·rw [if_neg c37] at H
                have c37b0 : decide (0 ≤ x11_4) = false := decide_eq_false c37
                clear c37
                by_cases c65 : x10_4.length < 17592186044416
                ·rw [if_pos c65] at H
                 have LMc65 := am c65
                 clear c65
                 obtain ⟨y404, hy404⟩ : ∃ y_ : List Int, y_ = (x10_4 ++ [rd x66_4 x68_4]) := ⟨_, rfl⟩
                 replace H : (if t394 = 0 then (impl_normal.l3 k4 y404 (wrap64 ((y404.length : Int) - 1)) t394 x66_4 (x5_2.length : Int) (wrap64 (x68_4 + 1))) else (impl_normal.l3 k4 y404 x11_4 t394 x66_4 (x5_2.length : Int) (wrap64 (x68_4 + 1)))) = some r := by first | (rw [hy404]; with_reducible exact H) | (have H2_ := (Option.bind_some _ _).symm.trans H; rw [hy404]; with_reducible exact H2_) | (have H2_ := (Option.bind_some _ _).symm.trans H; with_reducible exact H2_) | with_reducible exact H | (rw [hy404]; exact H) | exact H
                 have Ny404 := am hy404
                 clear hy404
                 by_cases c66 : t394 = 0
                 ·rw [if_pos c66] at H
                  have c66b0 : (t394 == 0) = true := beq_iff_eq.mpr c66
                  have c66b1 : (t394 != 0) = false := bne_eq_false_iff_eq.mpr c66
                  clear c66
                  have H' := am H
                  clear H
                  have p393 : 0 ≤ (x68_4 : Int) := od
                  have q393 : x68_4 < (x66_4.length : Int) := od
                  obtain ⟨ad393, e393, hx393_0⟩ := Kd.at_int (Kd.R_reads' HO_66.out).2.2 x68_4 p393 q393
                  cases e393
                  replace p393 := eq_true p393
                  replace q393 := eq_true q393
                  go_wp2_with (first | ((with_reducible refine gate_callee (f := 51) rfl ?_); refine gl 73 Tryd.func51 #[.int .i64 (rd x66_4 x68_4)] ?_; (with_reducible refine (impl_MarkClass.calls (rd x66_4 x68_4) t394 _ A36.out).mono ?_); rintro e w' ⟨rfl, ⟨nd, rfl⟩⟩; refine ⟨_, rfl, ?_⟩) | ((with_reducible refine gate_builtin (b := .append) (xs := #[.tmp 103, .tmp 105]) rfl ?_); at_builtin; refine Kd.R_append (Kd.int .i64) (w0 := w) w.heap.size rfl (.tmp 103) (.tmp 105) 58 2 (.int .i64 0) 8 rfl Tryd.underlying58 info2 rfl (by decide) (by omega) u10 x10_4 (rd x66_4 x68_4) [.int .i64 (rd x66_4 x68_4)] (fun k_ => some k_ ≠ (.slice (some ad393) x66_4.length co30 : Value).ownBlock) (fun _ => False) rfl rfl ?aP (fun _ hk => hk.elim) ?aF ?aO ?aB ?aS ?aL ?_; (case aP => exact rfl); (case aB => exact bB); (case aF => exact (fun k_ hk => Kd.fresh' (Kd.R_lt (kR HO_66.out)) k_ hk)); (case aO => exact (kR HO_10.out)); (case aS => exact (below_size bB)); (case aL => have := LMc65.out; omega); intro v405 w67 ho hb hg hat; rw [← Ny404.out] at ho; replace HO_66 := am (Kd.R_after (ok := (fun _ => True)) (kR (Kd.R_mono HO_66.out (fun _ hk => ⟨trivial, hk⟩))) hg hat); replace HB := am (hb); have HO406 := am (ho); clear HO_10; clear ho hb hg hat; obtain ⟨Ao68, co68, eo68⟩ := Kd.R_slice HO406.out; subst eo68))
                  (try simp only [← hl66_4])
                  go_roundg k4
                  case measure => have := HK1.out; have := HK2.out; have := HJ28.out; have := HK4.out; omega
                  case rel => exact ⟨(y404), (wrap64 ((y404.length : Int) - 1)), (t394), (x66_4), (wrap64 (x68_4 + 1)), (by first | rfl | (simp; done) | (simp [*]; done)), (by first | rfl | (simp; done) | (simp [*]; done)), (by first | rfl | (simp; done) | (simp [*]; done)), H', ⟨by have := HK1.out; have := HK2.out; have := HJ28.out; have := HK4.out; omega⟩, ⟨by (try simp only [hl66_4]); (with_reducible repeat (first | apply Kd.R_alloc | apply Kd.R_drewN | apply Kd.R_drew)); exact HO406.out⟩, ⟨by (try simp only [hl66_4]); (with_reducible repeat (first | apply Kd.R_alloc | apply Kd.R_drewN | apply Kd.R_drew)); exact Kd.R_mono HO_66.out (fun _ hk => hk.2)⟩, ⟨bB⟩⟩
                 ·rw [if_neg c66] at H
                  have c66b0 : (t394 == 0) = false := beq_eq_false_iff_ne.mpr c66
                  have c66b1 : (t394 != 0) = true := bne_iff_ne.mpr c66
                  have H' := am H
                  clear H
                  have p393 : 0 ≤ (x68_4 : Int) := od
                  have q393 : x68_4 < (x66_4.length : Int) := od
                  obtain ⟨ad393, e393, hx393_0⟩ := Kd.at_int (Kd.R_reads' HO_66.out).2.2 x68_4 p393 q393
                  cases e393
                  replace p393 := eq_true p393
                  replace q393 := eq_true q393
                  go_wp2_with (first | ((with_reducible refine gate_callee (f := 51) rfl ?_); refine gl 73 Tryd.func51 #[.int .i64 (rd x66_4 x68_4)] ?_; (with_reducible refine (impl_MarkClass.calls (rd x66_4 x68_4) t394 _ A36.out).mono ?_); rintro e w' ⟨rfl, ⟨nd, rfl⟩⟩; refine ⟨_, rfl, ?_⟩) | ((with_reducible refine gate_builtin (b := .append) (xs := #[.tmp 103, .tmp 105]) rfl ?_); at_builtin; refine Kd.R_append (Kd.int .i64) (w0 := w) w.heap.size rfl (.tmp 103) (.tmp 105) 58 2 (.int .i64 0) 8 rfl Tryd.underlying58 info2 rfl (by decide) (by omega) u10 x10_4 (rd x66_4 x68_4) [.int .i64 (rd x66_4 x68_4)] (fun k_ => some k_ ≠ (.slice (some ad393) x66_4.length co30 : Value).ownBlock) (fun _ => False) rfl rfl ?aP (fun _ hk => hk.elim) ?aF ?aO ?aB ?aS ?aL ?_; (case aP => exact rfl); (case aB => exact bB); (case aF => exact (fun k_ hk => Kd.fresh' (Kd.R_lt (kR HO_66.out)) k_ hk)); (case aO => exact (kR HO_10.out)); (case aS => exact (below_size bB)); (case aL => have := LMc65.out; omega); intro v405 w69 ho hb hg hat; rw [← Ny404.out] at ho; replace HO_66 := am (Kd.R_after (ok := (fun _ => True)) (kR (Kd.R_mono HO_66.out (fun _ hk => ⟨trivial, hk⟩))) hg hat); replace HB := am (hb); have HO406 := am (ho); clear HO_10; clear ho hb hg hat))
                  (try simp only [← hl66_4])
                  go_roundg k4
                  case measure => have := HK1.out; have := HK2.out; have := HJ28.out; have := HK4.out; omega
                  case rel => exact ⟨(y404), (x11_4), (t394), (x66_4), (wrap64 (x68_4 + 1)), (by first | rfl | (simp; done) | (simp [*]; done)), (by first | rfl | (simp; done) | (simp [*]; done)), (by first | rfl | (simp; done) | (simp [*]; done)), H', ⟨by have := HK1.out; have := HK2.out; have := HJ28.out; have := HK4.out; omega⟩, ⟨by (try simp only [hl66_4]); (with_reducible repeat (first | apply Kd.R_alloc | apply Kd.R_drewN | apply Kd.R_drew)); exact HO406.out⟩, ⟨by (try simp only [hl66_4]); (with_reducible repeat (first | apply Kd.R_alloc | apply Kd.R_drewN | apply Kd.R_drew)); exact Kd.R_mono HO_66.out (fun _ hk => hk.2)⟩, ⟨bB⟩⟩
                ·rw [if_neg c65] at H
                 exact absurd H (by simp)
              ·rw [if_neg c35] at H
               exact absurd H (by simp)
             ·rw [if_neg c34] at H
              exact absurd H (by simp)
            ·rw [if_neg c33] at H
             have c33b0 : decide (x68_4 < (x5_2.length : Int)) = false := decide_eq_false c33
             simp only [hl66_4] at c33b0
             clear c33
             obtain rfl := Option.some.inj H
             go_wp2
             go_ret
             exact ⟨_, rv, by (with_reducible repeat (first | apply Kd.R_alloc | apply Kd.R_drewN | apply Kd.R_drew)); exact Kd.R_mono HO_10.out (fun _ hk => trivial), bB⟩
end Go.Proofs.YtnbedmihgnjdpaaDoor.PFnExactCollatorFault

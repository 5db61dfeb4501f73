-- Written by a program of this session (wip/tools/myprint.py) that runs the kit's print with hooks of its own. Lean checks it.
import Derived.Test.YtnbedmihgnjdpaaDoorPFnExactQuickCheckx0
import Derived.Test.YtnbedmihgnjdpaaDoorPFnExactQuickCheckx6
import Derived.Test.YtnbedmihgnjdpaaDoorPFnExactQuickCheckx7
import Derived.Test.YtnbedmihgnjdpaaDoorPFnExactQuickCheckx8
namespace Go.Proofs.YtnbedmihgnjdpaaDoor.PFnExactQuickCheck
open Go.RowKit Go.Proofs.YtnbedmihgnjdpaaDoorW.PrintWords Go.Proofs.YtnbedmihgnjdpaaDoorW.PrintLast Go.Proofs.YtnbedmihgnjdpaaDoorW.PrintMore
attribute [local go_sem] max2_int min2_int max_two min_two max_three min_three max_four min_four   -- for this text's walks alone
set_option linter.unusedVariables false
set_option linter.unusedSimpArgs false

/-! ### impl_normal: function 53 -/
theorem class_ok (a : Int) : ∃ r, impl_MarkClass.f a = some r ∧ 0 ≤ r ∧ r ≤ 254 := by
 unfold impl_MarkClass.f impl_in.f
 by_cases h1 : a = 1584
 ·rw [if_pos h1]; exact ⟨_, rfl, by omega, by omega⟩
 rw [if_neg h1]
 by_cases h2 : a = 1585
 ·rw [if_pos h2]; exact ⟨_, rfl, by omega, by omega⟩
 rw [if_neg h2]
 by_cases h3 : a ≥ 4096
 ·rw [if_pos h3, Option.bind_some]
  repeat' split
  all_goals exact ⟨_, rfl, by omega, by omega⟩
 ·rw [if_neg h3, Option.bind_some]
  repeat' split
  all_goals exact ⟨_, rfl, by omega, by omega⟩
def mc (a : Int) : Int := (impl_MarkClass.f a).getD 0
theorem mc_eq (a : Int) : impl_MarkClass.f a = some (mc a) ∧ 0 ≤ mc a ∧ mc a ≤ 254 := by
 obtain ⟨r, h, h1, h2⟩ := class_ok a
 unfold mc
 rw [h]
 exact ⟨rfl, h1, h2⟩
def cmpf (a b : Int) : Int := mc a - mc b
theorem cmp_ok : Stab.CmpOk cmpf := fun x y W => by
 have h : impl_normal_1.f x y = some (cmpf x y) := by
  have h1 := mc_eq x
  have h2 := mc_eq y
  unfold impl_normal_1.f
  rw [h1.1, Option.bind_some, h2.1, Option.bind_some]
  unfold cmpf wrap64
  congr 1
  omega
 exact (impl_normal_1.calls x y _ W h).mono (fun e w' ⟨h1, nd, h2⟩ => ⟨h1, nd, h2⟩)
theorem cmp_lt : Go.Proofs.ltOf cmpf = Stab.ltc mc := by
 funext x y
 unfold Go.Proofs.ltOf Stab.ltc cmpf
 congr 1
 simp only [eq_iff_iff]
 omega
mutual
def impl_normal.l0 : Nat → Int → List Int → List Int → Int → Int → Option (List Int)
 | 0, _, _, _, _, _ => none
 | k + 1, x0, x5, x18, x19, x20 => if x20 < x19 then (if 0 ≤ x20 then (if x20 < (x18.length : Int) then ((impl_decompose.f k (rd x18 x20) (decide (x0 ≥ 3))).bind fun t333 => (if x5.length + t333.length < 17592186044416 then (impl_normal.l0 k x0 (x5 ++ t333) x18 x19 (wrap64 (x20 + 1))) else (none))) else (none)) else (none)) else (impl_normal.l1 k x0 x5 0)
def impl_normal.l1 : Nat → Int → List Int → Int → Option (List Int)
 | 0, _, _, _ => none
 | k + 1, x0, x5, x8 => if x8 < (x5.length : Int) then (impl_normal.l2 k x0 x5 x8 x8) else (if x0 = 1 then (impl_normal.j3 k x5 true) else (impl_normal.j3 k x5 (x0 == 3)))
def impl_normal.l2 : Nat → Int → List Int → Int → Int → Option (List Int)
 | 0, _, _, _, _ => none
 | k + 1, x0, x5, x8, x9 => if x9 < (x5.length : Int) then (if 0 ≤ x9 then ((impl_MarkClass.f (rd x5 x9)).bind fun t340 => (if t340 = 0 then (if 0 ≤ x8 then (if x8 < (x5.length : Int) ∧ x8 ≤ x9 ∧ x9 ≤ (x5.length : Int) ∧ (x5.length : Int) ≤ 1152921504606846975 then (impl_normal.l1 k x0 (Stab.stCut mc x5 x8 x9) (mx x9 (wrap64 (x8 + 1)))) else (none)) else (none)) else (impl_normal.l2 k x0 x5 x8 (wrap64 (x9 + 1))))) else (none)) else (if 0 ≤ x8 then (if x8 < (x5.length : Int) ∧ x8 ≤ x9 ∧ x9 ≤ (x5.length : Int) ∧ (x5.length : Int) ≤ 1152921504606846975 then (impl_normal.l1 k x0 (Stab.stCut mc x5 x8 x9) (mx x9 (wrap64 (x8 + 1)))) else (none)) else (none))
def impl_normal.j3 : Nat → List Int → Bool → Option (List Int)
 | 0, _, _ => none
 | k + 1, x5, x64 => if x64 = true then (some x5) else (impl_normal.l3 k ([] : List Int) (-1) 0 x5 (x5.length : Int) 0)
def impl_normal.l3 : Nat → List Int → Int → Int → List Int → Int → Int → Option (List Int)
 | 0, _, _, _, _, _, _ => none
 | k + 1, x10, x11, x12, x66, x67, x68 => if x68 < x67 then (if 0 ≤ x68 then (if x68 < (x66.length : Int) then ((impl_MarkClass.f (rd x66 x68)).bind fun t344 => (if x11 ≥ 0 then (if (wrap64 ((x10.length : Int) - 1)) = x11 then (impl_normal.j5 k x10 x11 x12 (rd x66 x68) t344 true x66 x67 x68) else (if x12 = 0 then (impl_normal.j5 k x10 x11 x12 (rd x66 x68) t344 false x66 x67 x68) else (impl_normal.j5 k x10 x11 x12 (rd x66 x68) t344 (decide (x12 < t344)) x66 x67 x68))) else (if x10.length < 17592186044416 then ((some (x10 ++ [rd x66 x68] : List Int)).bind fun y354 => (if t344 = 0 then (impl_normal.l3 k y354 (wrap64 ((y354.length : Int) - 1)) t344 x66 x67 (wrap64 (x68 + 1))) else (impl_normal.l3 k y354 x11 t344 x66 x67 (wrap64 (x68 + 1))))) else (none)))) else (none)) else (none)) else (some x10)
def impl_normal.j5 : Nat → List Int → Int → Int → Int → Int → Bool → List Int → Int → Int → Option (List Int)
 | 0, _, _, _, _, _, _, _, _, _ => none
 | k + 1, x10, x11, x12, x14, x15, x16, x66, x67, x68 => if x16 = true then (if 0 ≤ x11 then (if x11 < (x10.length : Int) then ((impl_Compose.f k (rd x10 x11) x14).bind fun t346 => (if t346 ≥ 0 then (impl_normal.l3 k (x10.set (x11 : Int).toNat t346) x11 x12 x66 x67 (wrap64 (x68 + 1))) else (if x10.length < 17592186044416 then ((some (x10 ++ [x14] : List Int)).bind fun y348 => (if x15 = 0 then (impl_normal.l3 k y348 (wrap64 ((y348.length : Int) - 1)) x15 x66 x67 (wrap64 (x68 + 1))) else (impl_normal.l3 k y348 x11 x15 x66 x67 (wrap64 (x68 + 1))))) else (none)))) else (none)) else (none)) else (if x10.length < 17592186044416 then ((some (x10 ++ [x14] : List Int)).bind fun y351 => (if x15 = 0 then (impl_normal.l3 k y351 (wrap64 ((y351.length : Int) - 1)) x15 x66 x67 (wrap64 (x68 + 1))) else (impl_normal.l3 k y351 x11 x15 x66 x67 (wrap64 (x68 + 1))))) else (none))
end
def impl_normal.f (k : Nat) (a0 : Int) (l1 : List Int) : Option (List Int) := impl_normal.l0 k a0 ([] : List Int) l1 (l1.length : Int) 0
set_option maxHeartbeats 8000000 in
set_option maxRecDepth 100000 in
theorem impl_normal.calls (k : Nat) (a0 : Int) (A1 : Option Addr) (c1 : Nat) (l1 : List Int) (r : List Int) (w : World) (hr1 : Kd.C (Kd.int .i64) w A1 l1.length l1) (hc1 : l1.length ≤ c1) (h : impl_normal.f k a0 l1 = some r) :
  Calls Tryd.prog 53 #[.int .i64 a0, .slice A1 l1.length c1] w fun e w' => ∃ v0_ : Value, e = .returned (v0_) ∧ Kd.R (Kd.int .i64) 2 w' w.heap.size (fun _ => True) v0_ r ∧ Below w.heap.size w w' := by
 have HR1 := Aside0.mk hr1
 have HC1 := Aside0.mk hc1
 clear hr1 hc1
 have HB := Aside0.mk (Below.refl w.heap.size w)
 have H : (impl_normal.l0 k a0 ([] : List Int) l1 (l1.length : Int) 0) = some r := h
 clear h
 have H' := Aside0.mk H
 clear H
 go_enter Tryd.func53, Tryd.ntmps53
 go_wp2
 go_loopg [5, 20] k (fun kq v5 v20 w' => ∃ (x5_1 : List Int) (x20_1 : Int), v20 = .int .i64 x20_1 ∧ Aside0 (impl_normal.l0 kq a0 x5_1 l1 (l1.length : Int) x20_1 = some r) ∧ Aside0 (kq ≤ k) ∧ Aside0 (Kd.R (Kd.int .i64) 2 w' w.heap.size (fun _ => True) v5 x5_1) ∧ Aside0 (Below w.heap.size w w'))
 case atStart => exact ⟨(([] : List Int)), (0), (by first | rfl | (simp; done) | (simp [*]; done)), H', ⟨Nat.le_refl _⟩, ⟨by first | exact Kd.R_nil _ _ _ _ _ | exact Kd.N_nil _ _ _ _ _ | exact Kd.V_nil _ _ _ _ _ | exact Kd.Q_nil _ _ _ _ _ | exact Kd.S_nil _ _ _ _ _⟩, ⟨by repeat (first | (with_reducible first | exact HB.out | apply below_alloc | apply pw_below_drewN | apply below_drew1) | exact HB.out)⟩⟩
 case round =>
  clear H'
  try clear c1
  try clear p2
  obtain ⟨x5_1, x20_1, rfl, HA, HK1, HO_5, HB⟩ := hrel
  cases gk with
  | zero => exact absurd HA.out (by simp [impl_normal.l0])
  | succ k1 =>
   have H := HA.out
   clear HA
   simp only [impl_normal.l0] at H
   by_cases c3 : x20_1 < (l1.length : Int)
   ·rw [if_pos c3] at H
    have c3b0 : decide (x20_1 < (l1.length : Int)) = true := decide_eq_true c3
    clear c3
    by_cases c4 : 0 ≤ x20_1
    ·rw [if_pos c4] at H
     have c4b0 : decide (0 ≤ x20_1) = true := decide_eq_true c4
     clear c4
     by_cases c5 : x20_1 < (l1.length : Int)
     ·rw [if_pos c5] at H
      have c5b0 : decide (x20_1 < (l1.length : Int)) = true := decide_eq_true c5
      clear c5
      replace H := Option.bind_eq_some_iff.mp H
      obtain ⟨t333, A60, H⟩ := H
      replace H : (if x5_1.length + t333.length < 17592186044416 then (impl_normal.l0 k1 a0 (x5_1 ++ t333) l1 (l1.length : Int) (wrap64 (x20_1 + 1))) else (none)) = some r := H
      have A6 := Aside0.mk A60
      clear A60
      by_cases c7 : x5_1.length + t333.length < 17592186044416
      ·rw [if_pos c7] at H
       have LMc7 := Aside0.mk c7
       clear c7
       obtain ⟨y336, hy336⟩ : ∃ y_ : List Int, y_ = (x5_1 ++ t333) := ⟨_, rfl⟩
       replace H : (impl_normal.l0 k1 a0 y336 l1 (l1.length : Int) (wrap64 (x20_1 + 1))) = some r := by first | (rw [hy336]; with_reducible exact H) | (have H2_ := (Option.bind_some _ _).symm.trans H; rw [hy336]; with_reducible exact H2_) | (have H2_ := (Option.bind_some _ _).symm.trans H; with_reducible exact H2_) | with_reducible exact H | (rw [hy336]; exact H) | exact H
       have Ny336 := Aside0.mk hy336
       clear hy336
       have H' := Aside0.mk H
       clear H
       have p332 : 0 ≤ (x20_1 : Int) := of_decide_eq_true (by first | (with_reducible assumption) | assumption)
       have q332 : x20_1 < (l1.length : Int) := of_decide_eq_true (by first | (with_reducible assumption) | assumption)
       obtain ⟨ad332, e332, hx332_0⟩ := Kd.at_int HR1.out x20_1 p332 q332
       cases e332
       replace hx332_0 := (HB.out.cell (World.block_lt_of_cell? w _ hx332_0)).trans hx332_0
       replace p332 := eq_true p332
       replace q332 := eq_true q332
       go_wp2_with (first | ((with_reducible refine gate_callee (f := 77) rfl ?_); refine goesL_ (some 28) rfl rfl Tryd.func77 (by kernel_rfl) rfl #[.int .i64 (rd l1 x20_1), .bool (decide (a0 ≥ 3))] rfl (by (try simp only [List.map_toArray, List.map_cons, List.map_nil]); first | done | rfl | (simp only [List.length_drop, List.length_take]; rfl)) ?_; (with_reducible refine (impl_decompose.calls k1 (rd l1 x20_1) (decide (a0 ≥ 3)) t333 _ A6.out).mono ?_); rintro e w8 ⟨v334, rfl, ho0, hb⟩; refine ⟨_, rfl, ?_⟩; have n0_ := Aside0.mk (Kd.R_elder' (by (with_reducible repeat (first | apply Kd.R_alloc | apply Kd.R_drewN | apply Kd.R_drew)); exact HO_5.out) (Kd.R_base ho0) hb); have n1_ := Aside0.mk (Kd.R_lower (Kd.R_new' ho0 (Kd.R_lt (by (with_reducible repeat (first | apply Kd.R_alloc | apply Kd.R_drewN | apply Kd.R_drew)); exact HO_5.out))) (below_size (by repeat (first | (with_reducible first | exact HB.out | apply below_alloc | apply pw_below_drewN | apply below_drew1) | exact HB.out)))); have n2_ := Aside0.mk (below_step (by repeat (first | (with_reducible first | exact HB.out | apply below_alloc | apply pw_below_drewN | apply below_drew1) | exact HB.out)) hb); clear HO_5; clear HB; have HO_5 := n0_; have HO335 := n1_; have HB := n2_; clear n0_ n1_ n2_; (try clear hb); (try clear hb2); (try clear hk); (try clear hi); (try clear ho0); obtain ⟨Ao10, co10, eo10⟩ := Kd.R_slice HO335.out; subst eo10) | ((with_reducible refine gate_builtin (b := .append) (xs := #[.tmp 24, .tmp 28]) rfl ?_); at_builtin; refine Kd.R_append_rows (Kd.int .i64) (w0 := w) w.heap.size rfl (.tmp 24) (.tmp 28) 58 2 (.int .i64 0) 8 rfl Tryd.underlying58 info2 rfl (by decide) (by omega) u5 x5_1 t333 _ _ _ (fun k_ => some k_ ≠ (.slice Ao10 t333.length co10 : Value).ownBlock) (fun _ => False) rfl rfl ?aO ?aR (fun _ _ h => h) (fun _ h => h.elim) ?aF ?aB ?aS ?aL ?_; (case aR => repeat (first | exact (Kd.R_reads' HO335.out).2.2 | (with_reducible refine Kd.C_alloc ?_ _) | (with_reducible refine Kd.C_drewN ?_ _) | (with_reducible refine Kd.C_drew ?_))); (case aB => exact (by repeat (first | (with_reducible first | exact HB.out | apply below_alloc | apply pw_below_drewN | apply below_drew1) | exact HB.out))); (case aF => exact (fun k_ hk => Kd.fresh' (Kd.R_lt (by (with_reducible repeat (first | apply Kd.R_alloc | apply Kd.R_drewN | apply Kd.R_drew)); exact HO335.out)) k_ hk)); (case aO => exact (by (with_reducible repeat (first | apply Kd.R_alloc | apply Kd.R_drewN | apply Kd.R_drew)); exact Kd.R_mono HO_5.out (fun _ hk => hk.2))); (case aS => exact (below_size (by repeat (first | (with_reducible first | exact HB.out | apply below_alloc | apply pw_below_drewN | apply below_drew1) | exact HB.out)))); (case aL => have := LMc7.out; omega); intro v337 w9 ho hb hg hat; rw [← Ny336.out] at ho; have n0_ := Aside0.mk (Kd.R_after (ok := (fun _ => True)) (by (with_reducible repeat (first | apply Kd.R_alloc | apply Kd.R_drewN | apply Kd.R_drew)); exact HO335.out) hg hat); have n1_ := Aside0.mk (hb); have n2_ := Aside0.mk (ho); clear HO335; clear HB; clear HO_5; have HO335 := n0_; have HB := n1_; have HO338 := n2_; clear n0_ n1_ n2_; clear ho hb hg hat))
       go_roundg k1
       case measure => have := HK1.out; omega
       case rel => exact ⟨(y336), (wrap64 (x20_1 + 1)), (by first | rfl | (simp; done) | (simp [*]; done)), H', ⟨by have := HK1.out; omega⟩, ⟨by (with_reducible repeat (first | apply Kd.R_alloc | apply Kd.R_drewN | apply Kd.R_drew)); exact Kd.R_mono HO338.out (fun _ hk => trivial)⟩, ⟨by repeat (first | (with_reducible first | exact HB.out | apply below_alloc | apply pw_below_drewN | apply below_drew1) | exact HB.out)⟩⟩
      ·rw [if_neg c7] at H
       exact absurd H (by simp)
     ·rw [if_neg c5] at H
      exact absurd H (by simp)
    ·rw [if_neg c4] at H
     exact absurd H (by simp)
   ·rw [if_neg c3] at H
    have c3b0 : decide (x20_1 < (l1.length : Int)) = false := decide_eq_false c3
    clear c3
    have H' := Aside0.mk H
    clear H
    go_wp2
    go_loopg [8] k1 (fun kq v8 w' => ∃ (x5_2 : List Int) (x8_2 : Int), v8 = .int .i64 x8_2 ∧ Aside0 (impl_normal.l1 kq a0 x5_2 x8_2 = some r) ∧ Aside0 (kq ≤ k1) ∧ Aside0 (Kd.R (Kd.int .i64) 2 w' w.heap.size (fun _ => True) u5 x5_2) ∧ Aside0 (Below w.heap.size w w'))
    case atStart => exact ⟨(x5_1), (0), (by first | rfl | (simp; done) | (simp [*]; done)), H', ⟨Nat.le_refl _⟩, ⟨by (with_reducible repeat (first | apply Kd.R_alloc | apply Kd.R_drewN | apply Kd.R_drew)); exact HO_5.out⟩, ⟨by repeat (first | (with_reducible first | exact HB.out | apply below_alloc | apply pw_below_drewN | apply below_drew1) | exact HB.out)⟩⟩
    case round =>
     clear H'
     try clear c1
     try clear p2
     try clear c3
     try clear c3b0
     try clear p3
     try clear q3
     try clear hx3
     try clear c4
     try clear c4b0
     try clear c5
     try clear c5b0
     try clear p6
     try clear c7
     try clear hx332_0
     try clear p2
     try clear p332
     try clear q332
     obtain ⟨x5_2, x8_2, rfl, HA, HK2, HO_5, HB⟩ := hrel
     cases gk with
     | zero => exact absurd HA.out (by simp [impl_normal.l1])
     | succ k2 =>
      have H := HA.out
      clear HA
      simp only [impl_normal.l1] at H
      by_cases c11 : x8_2 < (x5_2.length : Int)
      ·rw [if_pos c11] at H
       have c11b0 : decide (x8_2 < (x5_2.length : Int)) = true := decide_eq_true c11
       clear c11
       have H' := Aside0.mk H
       clear H
       obtain ⟨Ao12, co12, eo12⟩ := Kd.R_slice HO_5.out
       subst eo12
       go_wp2
       go_loopg [9] k2 (fun kq v9 w' => ∃ (x9_3 : Int), v9 = .int .i64 x9_3 ∧ Aside0 (impl_normal.l2 kq a0 x5_2 x8_2 x9_3 = some r) ∧ Aside0 (kq ≤ k2) ∧ Aside0 (Kd.R (Kd.int .i64) 2 w' w.heap.size (fun _ => True) (.slice Ao12 x5_2.length co12) x5_2) ∧ Aside0 (Below w.heap.size w w'))
       case atStart => exact ⟨(x8_2), (by first | rfl | (simp; done) | (simp [*]; done)), H', ⟨Nat.le_refl _⟩, ⟨by (with_reducible repeat (first | apply Kd.R_alloc | apply Kd.R_drewN | apply Kd.R_drew)); exact HO_5.out⟩, ⟨by repeat (first | (with_reducible first | exact HB.out | apply below_alloc | apply pw_below_drewN | apply below_drew1) | exact HB.out)⟩⟩
       case round =>
        clear H'
        try clear c1
        try clear p2
        try clear c3
        try clear c3b0
        try clear p3
        try clear q3
        try clear hx3
        try clear c4
        try clear c4b0
        try clear c5
        try clear c5b0
        try clear p6
        try clear c7
        try clear c11
        try clear c11b0
        try clear hx332_0
        try clear p2
        try clear p3
        try clear p332
        try clear p6
        try clear q3
        try clear q332
        obtain ⟨x9_3, rfl, HA, HK3, HO_5, HB⟩ := hrel
        cases gk with
        | zero => exact absurd HA.out (by simp [impl_normal.l2])
        | succ k3 =>
         have H := HA.out
         clear HA
         simp only [impl_normal.l2] at H
         by_cases c13 : x9_3 < (x5_2.length : Int)
         ·rw [if_pos c13] at H
          have c13b0 : decide (x9_3 < (x5_2.length : Int)) = true := decide_eq_true c13
          clear c13
          by_cases c14 : 0 ≤ x9_3
          ·rw [if_pos c14] at H
           have c14b0 : decide (0 ≤ x9_3) = true := decide_eq_true c14
           clear c14
           replace H := Option.bind_eq_some_iff.mp H
           obtain ⟨t340, A150, H⟩ := H
           replace H : (if t340 = 0 then (if 0 ≤ x8_2 then (if x8_2 < (x5_2.length : Int) ∧ x8_2 ≤ x9_3 ∧ x9_3 ≤ (x5_2.length : Int) ∧ (x5_2.length : Int) ≤ 1152921504606846975 then (impl_normal.l1 k3 a0 (Stab.stCut mc x5_2 x8_2 x9_3) (mx x9_3 (wrap64 (x8_2 + 1)))) else (none)) else (none)) else (impl_normal.l2 k3 a0 x5_2 x8_2 (wrap64 (x9_3 + 1)))) = some r := H
           have A15 := Aside0.mk A150
           clear A150
           by_cases c16 : t340 = 0
           ·rw [if_pos c16] at H
            have c16b0 : (t340 == 0) = true := beq_iff_eq.mpr c16
            have c16b1 : (t340 != 0) = false := bne_eq_false_iff_eq.mpr c16
            clear c16
            by_cases c17 : 0 ≤ x8_2
            ·rw [if_pos c17] at H
             have c17b0 : decide (0 ≤ x8_2) = true := decide_eq_true c17
             clear c17
             by_cases c18 : x8_2 < (x5_2.length : Int) ∧ x8_2 ≤ x9_3 ∧ x9_3 ≤ (x5_2.length : Int) ∧ (x5_2.length : Int) ≤ 1152921504606846975
             ·rw [if_pos c18] at H
              have c18b0 : decide (x8_2 < (x5_2.length : Int) ∧ x8_2 ≤ x9_3 ∧ x9_3 ≤ (x5_2.length : Int) ∧ (x5_2.length : Int) ≤ 1152921504606846975) = true := decide_eq_true c18
              clear c18
              obtain ⟨y341, hy341⟩ : ∃ y_ : List Int, y_ = (Stab.stCut mc x5_2 x8_2 x9_3) := ⟨_, rfl⟩
              replace H : (impl_normal.l1 k3 a0 y341 (mx x9_3 (wrap64 (x8_2 + 1)))) = some r := by first | (rw [hy341]; with_reducible exact H) | (have H2_ := (Option.bind_some _ _).symm.trans H; rw [hy341]; with_reducible exact H2_) | (have H2_ := (Option.bind_some _ _).symm.trans H; with_reducible exact H2_) | with_reducible exact H | (rw [hy341]; exact H) | exact H
              have Ny341 := Aside0.mk hy341
              clear hy341
              obtain ⟨ji20, hji20⟩ : ∃ j_ : Int, (mx x9_3 (wrap64 (x8_2 + 1))) = j_ := ⟨_, rfl⟩
              replace H : (impl_normal.l1 k3 a0 y341 ji20) = some r := by first | (rw [hji20] at H; exact H) | (simp only [hji20] at H ⊢; exact H)
              (try rw [hji20] at A15)
              have hji20_ : (if x9_3 < (wrap64 (x8_2 + 1)) then (wrap64 (x8_2 + 1)) else x9_3) = ji20 := hji20
              have H' := Aside0.mk H
              clear H
              have p339 : 0 ≤ (x9_3 : Int) := of_decide_eq_true (by first | (with_reducible assumption) | assumption)
              have q339 : x9_3 < (x5_2.length : Int) := of_decide_eq_true (by first | (with_reducible assumption) | assumption)
              obtain ⟨ad339, e339, hx339_0⟩ := Kd.at_int (Kd.R_reads' HO_5.out).2.2 x9_3 p339 q339
              cases e339
              replace p339 := eq_true p339
              replace q339 := eq_true q339
              go_wp2_with (first | (go_at_call 51; (with_reducible refine (impl_MarkClass.calls (rd x5_2 x9_3) t340 _ A15.out).mono ?_); rintro e w' ⟨rfl, ⟨nd, rfl⟩⟩; (try (rw [drewN_self wr]; generalize hq_ : World.drewN wr _ = wr; have n0_ : Aside0 (Kd.R (Kd.int .i64) 2 wr w.heap.size (fun _ => True) (.slice (some ad339) x5_2.length co12) x5_2) := ⟨by rw [← hq_]; exact (by (with_reducible repeat (first | apply Kd.R_alloc | apply Kd.R_drewN | apply Kd.R_drew)); exact HO_5.out)⟩; have n1_ : Aside0 (Below w.heap.size w wr) := ⟨by rw [← hq_]; exact (by repeat (first | (with_reducible first | exact HB.out | apply below_alloc | apply pw_below_drewN | apply below_drew1) | exact HB.out))⟩; clear HO_5 HB hq_; have HO_5 := n0_; have HB := n1_; clear n0_ n1_)); have p19 : 0 ≤ (x8_2 : Int) := of_decide_eq_true (by first | (with_reducible assumption) | assumption); have qq19 : x8_2 < (x5_2.length : Int) ∧ x8_2 ≤ x9_3 ∧ x9_3 ≤ (x5_2.length : Int) ∧ (x5_2.length : Int) ≤ 1152921504606846975 := of_decide_eq_true (by first | (with_reducible assumption) | assumption); obtain ⟨go19, co19, eo19, gb19, gl19, cl19, HG19⟩ := Kd.R_form HO_5.out (by omega); (first | cases eo19 | (injection eo19 with ea_ en_ ec_; (first | subst ea_ | (injection ea_ with ea_; subst ea_)); subst ec_; clear en_)); have GB19 := Aside0.mk gb19; have GG19 := Aside0.mk HG19; clear gb19 gl19 HG19; (first | simp only [add_plain] at hx339_0 | skip); have hRV_ := Aside0.mk (Stab.st_cut mc cmpf cmp_ok cmp_lt _ w go19 x5_2.length co12 x5_2 (fun _ => True) HO_5.out HB.out GB19.out x8_2 x9_3 p19 qq19.2.1 qq19.2.2.1 qq19.2.2.2 (co12 - x8_2.toNat)); have hcp_ := (Kd.R_reads' HO_5.out).2.1; have hcne_ : ¬ co12 = x8_2.toNat := (by omega); have hcnf_ : ¬ x8_2.toNat = co12 := (by omega); have hcx_ : (x9_3 ≤ (co12 : Int)) = True := eq_true (by omega); have hcm_ : (x8_2 ≤ max x9_3 0) = True := eq_true (by omega); have hcz_ : (0 ≤ x9_3) = True := eq_true (by omega); have hcy_ : ¬ x9_3 < 0 := (by omega); have hcw_ : (x8_2 ≤ x9_3) = True := eq_true (by omega); clear hcp_; replace p19 := eq_true p19; clear qq19) | ((with_reducible refine gate_callee (f := 78) rfl ?_); refine goesL_ (some 54) rfl rfl Tryd.func78 (by kernel_rfl) rfl #[.slice (some ⟨go19, (x8_2 : Int).toNat, none⟩) (x9_3.toNat - x8_2.toNat) (co12 - x8_2.toNat), .func (.func 79) #[] #[]] rfl (by (try simp only [List.map_toArray, List.map_cons, List.map_nil]); first | done | rfl) ?_; (with_reducible refine (hRV_.out).mono ?_); rintro e w22 ⟨rfl, hp_, hb⟩; refine ⟨_, rfl, ?_⟩; have n0_ := Aside0.mk (show Kd.R (Kd.int .i64) 2 w22 w.heap.size (fun _ => True) (.slice (some ⟨go19, 0, none⟩) x5_2.length co12) y341 from (by rw [Ny341.out]; exact hp_)); have n1_ := Aside0.mk hb; clear hRV_; clear HO_5; clear HB; have HO_5 := n0_; have HB := n1_; clear n0_ n1_; clear hp_ hb))
              go_roundg k3
              case measure => have := HK1.out; have := HK2.out; have := HK3.out; omega
              case rel => exact ⟨(y341), (ji20), (by first | rfl | (simp; done) | (simp only [← hji20] <;> (first | rfl | simp)) | (simp [*]; done)), H', ⟨by have := HK1.out; have := HK2.out; have := HK3.out; omega⟩, ⟨by (with_reducible repeat (first | apply Kd.R_alloc | apply Kd.R_drewN | apply Kd.R_drew)); exact HO_5.out⟩, ⟨by repeat (first | (with_reducible first | exact HB.out | apply below_alloc | apply pw_below_drewN | apply below_drew1) | exact HB.out)⟩⟩
             ·rw [if_neg c18] at H
              exact absurd H (by simp)
            ·rw [if_neg c17] at H
             exact absurd H (by simp)
           ·rw [if_neg c16] at H
            have c16b0 : (t340 == 0) = false := beq_eq_false_iff_ne.mpr c16
            have c16b1 : (t340 != 0) = true := bne_iff_ne.mpr c16
            have H' := Aside0.mk H
            clear H
            have p339 : 0 ≤ (x9_3 : Int) := of_decide_eq_true (by first | (with_reducible assumption) | assumption)
            have q339 : x9_3 < (x5_2.length : Int) := of_decide_eq_true (by first | (with_reducible assumption) | assumption)
            obtain ⟨ad339, e339, hx339_0⟩ := Kd.at_int (Kd.R_reads' HO_5.out).2.2 x9_3 p339 q339
            cases e339
            replace p339 := eq_true p339
            replace q339 := eq_true q339
            go_wp2_with (first | (go_at_call 51; (with_reducible refine (impl_MarkClass.calls (rd x5_2 x9_3) t340 _ A15.out).mono ?_); rintro e w' ⟨rfl, ⟨nd, rfl⟩⟩))
            go_roundg k3
            case measure => have := HK1.out; have := HK2.out; have := HK3.out; omega
            case rel => exact ⟨(wrap64 (x9_3 + 1)), (by first | rfl | (simp; done) | (simp [*]; done)), H', ⟨by have := HK1.out; have := HK2.out; have := HK3.out; omega⟩, ⟨by (with_reducible repeat (first | apply Kd.R_alloc | apply Kd.R_drewN | apply Kd.R_drew)); exact HO_5.out⟩, ⟨by repeat (first | (with_reducible first | exact HB.out | apply below_alloc | apply pw_below_drewN | apply below_drew1) | exact HB.out)⟩⟩
          ·rw [if_neg c14] at H
           exact absurd H (by simp)
         ·rw [if_neg c13] at H
          have c13b0 : decide (x9_3 < (x5_2.length : Int)) = false := decide_eq_false c13
          clear c13
          by_cases c23 : 0 ≤ x8_2
          ·rw [if_pos c23] at H
           have c23b0 : decide (0 ≤ x8_2) = true := decide_eq_true c23
           clear c23
           by_cases c24 : x8_2 < (x5_2.length : Int) ∧ x8_2 ≤ x9_3 ∧ x9_3 ≤ (x5_2.length : Int) ∧ (x5_2.length : Int) ≤ 1152921504606846975
           ·rw [if_pos c24] at H
            have c24b0 : decide (x8_2 < (x5_2.length : Int) ∧ x8_2 ≤ x9_3 ∧ x9_3 ≤ (x5_2.length : Int) ∧ (x5_2.length : Int) ≤ 1152921504606846975) = true := decide_eq_true c24
            clear c24
            obtain ⟨y342, hy342⟩ : ∃ y_ : List Int, y_ = (Stab.stCut mc x5_2 x8_2 x9_3) := ⟨_, rfl⟩
            replace H : (impl_normal.l1 k3 a0 y342 (mx x9_3 (wrap64 (x8_2 + 1)))) = some r := by first | (rw [hy342]; with_reducible exact H) | (have H2_ := (Option.bind_some _ _).symm.trans H; rw [hy342]; with_reducible exact H2_) | (have H2_ := (Option.bind_some _ _).symm.trans H; with_reducible exact H2_) | with_reducible exact H | (rw [hy342]; exact H) | exact H
            have Ny342 := Aside0.mk hy342
            clear hy342
            obtain ⟨ji26, hji26⟩ : ∃ j_ : Int, (mx x9_3 (wrap64 (x8_2 + 1))) = j_ := ⟨_, rfl⟩
            replace H : (impl_normal.l1 k3 a0 y342 ji26) = some r := by first | (rw [hji26] at H; exact H) | (simp only [hji26] at H ⊢; exact H)
            have hji26_ : (if x9_3 < (wrap64 (x8_2 + 1)) then (wrap64 (x8_2 + 1)) else x9_3) = ji26 := hji26
            have H' := Aside0.mk H
            clear H
            have p25 : 0 ≤ (x8_2 : Int) := of_decide_eq_true (by first | (with_reducible assumption) | assumption)
            have qq25 : x8_2 < (x5_2.length : Int) ∧ x8_2 ≤ x9_3 ∧ x9_3 ≤ (x5_2.length : Int) ∧ (x5_2.length : Int) ≤ 1152921504606846975 := of_decide_eq_true (by first | (with_reducible assumption) | assumption)
            obtain ⟨go25, co25, eo25, gb25, gl25, cl25, HG25⟩ := Kd.R_form HO_5.out (by omega)
            (first | cases eo25 | (injection eo25 with ea_ en_ ec_; (first | subst ea_ | (injection ea_ with ea_; subst ea_)); subst ec_; clear en_))
            have GB25 := Aside0.mk gb25
            have GG25 := Aside0.mk HG25
            clear gb25 gl25 HG25
            have hRV_ := Aside0.mk (Stab.st_cut mc cmpf cmp_ok cmp_lt _ w go25 x5_2.length co12 x5_2 (fun _ => True) HO_5.out HB.out GB25.out x8_2 x9_3 p25 qq25.2.1 qq25.2.2.1 qq25.2.2.2 (co12 - x8_2.toNat))
            have hcp_ := (Kd.R_reads' HO_5.out).2.1
            have hcne_ : ¬ co12 = x8_2.toNat := (by omega)
            have hcnf_ : ¬ x8_2.toNat = co12 := (by omega)
            have hcx_ : (x9_3 ≤ (co12 : Int)) = True := eq_true (by omega)
            have hcm_ : (x8_2 ≤ max x9_3 0) = True := eq_true (by omega)
            have hcz_ : (0 ≤ x9_3) = True := eq_true (by omega)
            have hcy_ : ¬ x9_3 < 0 := (by omega)
            have hcw_ : (x8_2 ≤ x9_3) = True := eq_true (by omega)
            clear hcp_
            replace p25 := eq_true p25
            clear qq25
            go_wp2_with (first | ((with_reducible refine gate_callee (f := 78) rfl ?_); refine goesL_ (some 54) rfl rfl Tryd.func78 (by kernel_rfl) rfl #[.slice (some ⟨go25, (x8_2 : Int).toNat, none⟩) (x9_3.toNat - x8_2.toNat) (co12 - x8_2.toNat), .func (.func 79) #[] #[]] rfl (by (try simp only [List.map_toArray, List.map_cons, List.map_nil]); first | done | rfl) ?_; (with_reducible refine (hRV_.out).mono ?_); rintro e w28 ⟨rfl, hp_, hb⟩; refine ⟨_, rfl, ?_⟩; have n0_ := Aside0.mk (show Kd.R (Kd.int .i64) 2 w28 w.heap.size (fun _ => True) (.slice (some ⟨go25, 0, none⟩) x5_2.length co12) y342 from (by rw [Ny342.out]; exact hp_)); have n1_ := Aside0.mk hb; clear hRV_; clear HO_5; clear HB; have HO_5 := n0_; have HB := n1_; clear n0_ n1_; clear hp_ hb))
            go_roundg k3
            case measure => have := HK1.out; have := HK2.out; have := HK3.out; omega
            case rel => exact ⟨(y342), (ji26), (by first | rfl | (simp; done) | (simp only [← hji26] <;> (first | rfl | simp)) | (simp [*]; done)), H', ⟨by have := HK1.out; have := HK2.out; have := HK3.out; omega⟩, ⟨by (with_reducible repeat (first | apply Kd.R_alloc | apply Kd.R_drewN | apply Kd.R_drew)); exact HO_5.out⟩, ⟨by repeat (first | (with_reducible first | exact HB.out | apply below_alloc | apply pw_below_drewN | apply below_drew1) | exact HB.out)⟩⟩
           ·rw [if_neg c24] at H
            exact absurd H (by simp)
          ·rw [if_neg c23] at H
           exact absurd H (by simp)
      ·rw [if_neg c11] at H
       have c11b0 : decide (x8_2 < (x5_2.length : Int)) = false := decide_eq_false c11
       clear c11
       have HC29 := Aside0.mk H
       clear H
       obtain ⟨Ao30, co30, eo30⟩ := Kd.R_slice HO_5.out
       subst eo30
       go_upto_region 14 with (fail)
       go_cut [64] (fun v64 wc => ∃ (kq : Nat) (x64_28 : Bool), v64 = .bool x64_28 ∧ Aside0 (impl_normal.j3 kq x5_2 x64_28 = some r) ∧ Aside0 (kq ≤ k2) ∧ Aside0 (Kd.R (Kd.int .i64) 2 wc w.heap.size (fun _ => True) (.slice Ao30 x5_2.length co30) x5_2) ∧ Aside0 (Below w.heap.size w wc))
       case first =>
        have H := HC29.out
        clear HC29
        by_cases c31 : a0 = 1
        ·rw [if_pos c31] at H
         have c31b0 : (a0 == 1) = true := beq_iff_eq.mpr c31
         have c31b1 : (a0 != 1) = false := bne_eq_false_iff_eq.mpr c31
         clear c31
         (first | rw [c31b0] | (simp only [i64_w, i32_w]; rw [c31b0]) | skip)
         have H' := Aside0.mk H
         clear H
         go_wp2
         go_meet
         case rel => exact ⟨_, (true), (by first | rfl | (simp; done) | (simp [*]; done)), H', ⟨by have := HK1.out; have := HK2.out; first | omega | exact Nat.le_refl _⟩, ⟨by (with_reducible repeat (first | apply Kd.R_alloc | apply Kd.R_drewN | apply Kd.R_drew)); exact HO_5.out⟩, ⟨by repeat (first | (with_reducible first | exact HB.out | apply below_alloc | apply pw_below_drewN | apply below_drew1) | exact HB.out)⟩⟩
        ·rw [if_neg c31] at H
         have c31b0 : (a0 == 1) = false := beq_eq_false_iff_ne.mpr c31
         have c31b1 : (a0 != 1) = true := bne_iff_ne.mpr c31
         (first | rw [c31b0] | (simp only [i64_w, i32_w]; rw [c31b0]) | skip)
         have H' := Aside0.mk H
         clear H
         go_wp2
         go_meet
         case rel => exact ⟨_, ((a0 == 3)), (by first | rfl | (simp; done) | (simp [*]; done)), H', ⟨by have := HK1.out; have := HK2.out; first | omega | exact Nat.le_refl _⟩, ⟨by (with_reducible repeat (first | apply Kd.R_alloc | apply Kd.R_drewN | apply Kd.R_drew)); exact HO_5.out⟩, ⟨by repeat (first | (with_reducible first | exact HB.out | apply below_alloc | apply pw_below_drewN | apply below_drew1) | exact HB.out)⟩⟩
       case rest =>
        clear HC29
        try clear c1
        try clear p1
        try clear q1
        try clear hx1
        try clear c2
        try clear p2
        try clear q2
        try clear hx2
        try clear hf2
        try clear c3
        try clear c3b0
        try clear p3
        try clear q3
        try clear hx3
        try clear c4
        try clear c4b0
        try clear c5
        try clear c5b0
        try clear p6
        try clear c7
        try clear c11
        try clear c11b0
        try clear c13
        try clear c13b0
        try clear c14
        try clear c14b0
        try clear c16
        try clear c16b0
        try clear c16b1
        try clear c17
        try clear c17b0
        try clear c18
        try clear c18b0
        try clear p19
        try clear q19
        try clear hx19
        try clear hf19
        try clear c23
        try clear c23b0
        try clear c24
        try clear c24b0
        try clear p25
        try clear q25
        try clear hx25
        try clear hf25
        try clear c31
        try clear c31b0
        try clear c31b1
        try clear hx19_0
        try clear hx25_0
        try clear hx332_0
        try clear hx339_0
        try clear p19
        try clear p2
        try clear p25
        try clear p3
        try clear p332
        try clear p339
        try clear p6
        try clear q19
        try clear q25
        try clear q3
        try clear q332
        try clear q339
        obtain ⟨kq, x64_28, rfl, HA, HJ28, HO_5, HB⟩ := hcut
        cases kq with
        | zero => exact absurd HA.out (by simp [impl_normal.j3])
        | succ kj28 =>
         have H := HA.out
         clear HA
         simp only [impl_normal.j3] at H
         by_cases c32 : x64_28 = true
         ·subst c32
          have H1 : (some x5_2) = some r := by rw [if_pos rfl] at H; exact H
          clear H
          have H := H1
          clear H1
          obtain rfl := Option.some.inj H
          go_wp2
          go_ret
          exact ⟨_, by first | rfl | (simp [errW_none, errW_some] <;> rfl) | (simp [*, errW_none, errW_some] <;> rfl), by (with_reducible repeat (first | apply Kd.R_alloc | apply Kd.R_drewN | apply Kd.R_drew)); exact HO_5.out, by repeat (first | (with_reducible first | exact HB.out | apply below_alloc | apply pw_below_drewN | apply below_drew1) | exact HB.out)⟩
         ·replace c32 := Bool.eq_false_iff.mpr c32
          subst c32
          have H1 : (impl_normal.l3 kj28 ([] : List Int) (-1) 0 x5_2 (x5_2.length : Int) 0) = some r := by rw [if_neg (show ¬ (false = true) by decide)] at H; exact H
          clear H
          have H := H1
          clear H1
          have H' := Aside0.mk H
          clear H
          go_wp2
          go_loopg [10, 11, 12, 68] kj28 (fun kq v10 v11 v12 v68 w' => ∃ (x10_4 : List Int) (x11_4 : Int) (x12_4 : Int) (x66_4 : List Int) (x68_4 : Int), v11 = .int .i64 x11_4 ∧ v12 = .int .i64 x12_4 ∧ v68 = .int .i64 x68_4 ∧ Aside0 (impl_normal.l3 kq x10_4 x11_4 x12_4 x66_4 (x5_2.length : Int) x68_4 = some r) ∧ Aside0 (kq ≤ kj28) ∧ Aside0 (Kd.R (Kd.int .i64) 2 w' w.heap.size (fun k_ => some k_ ≠ ((.slice Ao30 x5_2.length co30) : Value).ownBlock) v10 x10_4) ∧ Aside0 (Kd.R (Kd.int .i64) 2 w' w.heap.size (fun k_ => some k_ ≠ (v10 : Value).ownBlock) (.slice Ao30 x5_2.length co30) x66_4) ∧ Aside0 (Below w.heap.size w w'))
          case atStart => exact ⟨(([] : List Int)), ((-1)), (0), (x5_2), (0), (by first | rfl | (simp; done) | (simp [*]; done)), (by first | rfl | (simp; done) | (simp [*]; done)), (by first | rfl | (simp; done) | (simp [*]; done)), H', ⟨Nat.le_refl _⟩, ⟨by first | exact Kd.R_nil _ _ _ _ _ | exact Kd.N_nil _ _ _ _ _ | exact Kd.V_nil _ _ _ _ _ | exact Kd.Q_nil _ _ _ _ _ | exact Kd.S_nil _ _ _ _ _⟩, ⟨by (with_reducible repeat (first | apply Kd.R_alloc | apply Kd.R_drewN | apply Kd.R_drew)); exact Kd.R_mono HO_5.out (fun _ hk => (by simp [Value.ownBlock]))⟩, ⟨by repeat (first | (with_reducible first | exact HB.out | apply below_alloc | apply pw_below_drewN | apply below_drew1) | exact HB.out)⟩⟩
          case round =>
           clear H'
           try clear c1
           try clear p1
           try clear q1
           try clear hx1
           try clear c2
           try clear p2
           try clear q2
           try clear hx2
           try clear hf2
           try clear c3
           try clear c3b0
           try clear p3
           try clear q3
           try clear hx3
           try clear c4
           try clear c4b0
           try clear c5
           try clear c5b0
           try clear p6
           try clear c7
           try clear c11
           try clear c11b0
           try clear c13
           try clear c13b0
           try clear c14
           try clear c14b0
           try clear c16
           try clear c16b0
           try clear c16b1
           try clear c17
           try clear c17b0
           try clear c18
           try clear c18b0
           try clear p19
           try clear q19
           try clear hx19
           try clear hf19
           try clear c23
           try clear c23b0
           try clear c24
           try clear c24b0
           try clear p25
           try clear q25
           try clear hx25
           try clear hf25
           try clear c31
           try clear c31b0
           try clear c31b1
           try clear c32
           try clear hx19_0
           try clear hx25_0
           try clear hx332_0
           try clear hx339_0
           try clear p1
           try clear p19
           try clear p2
           try clear p25
           try clear p3
           try clear p332
           try clear p339
           try clear p6
           try clear q1
           try clear q19
           try clear q2
           try clear q25
           try clear q3
           try clear q332
           try clear q339
           obtain ⟨x10_4, x11_4, x12_4, x66_4, x68_4, rfl, rfl, rfl, HA, HK4, HO_10, HO_66, HB⟩ := hrel
           have hl66_4 := (Kd.R_reads' HO_66.out).1
           rw [hl66_4] at HO_66
           (try simp only [hl66_4])
           (try simp only [hl66_4] at HO_10)
           cases gk with
           | zero => exact absurd HA.out (by simp [impl_normal.l3])
           | succ k4 =>
            have H := HA.out
            clear HA
            simp only [impl_normal.l3] at H
            by_cases c33 : x68_4 < (x5_2.length : Int)
            ·rw [if_pos c33] at H
             have c33b0 : decide (x68_4 < (x5_2.length : Int)) = true := decide_eq_true c33
             simp only [hl66_4] at c33b0
             clear c33
             by_cases c34 : 0 ≤ x68_4
             ·rw [if_pos c34] at H
              have c34b0 : decide (0 ≤ x68_4) = true := decide_eq_true c34
              clear c34
              by_cases c35 : x68_4 < (x66_4.length : Int)
              ·rw [if_pos c35] at H
               have c35b0 : decide (x68_4 < (x66_4.length : Int)) = true := decide_eq_true c35
               clear c35
               replace H := Option.bind_eq_some_iff.mp H
               obtain ⟨t344, A360, H⟩ := H
               replace H : (if x11_4 ≥ 0 then (if (wrap64 ((x10_4.length : Int) - 1)) = x11_4 then (impl_normal.j5 k4 x10_4 x11_4 x12_4 (rd x66_4 x68_4) t344 true x66_4 (x5_2.length : Int) x68_4) else (if x12_4 = 0 then (impl_normal.j5 k4 x10_4 x11_4 x12_4 (rd x66_4 x68_4) t344 false x66_4 (x5_2.length : Int) x68_4) else (impl_normal.j5 k4 x10_4 x11_4 x12_4 (rd x66_4 x68_4) t344 (decide (x12_4 < t344)) x66_4 (x5_2.length : Int) x68_4))) else (if x10_4.length < 17592186044416 then ((some (x10_4 ++ [rd x66_4 x68_4] : List Int)).bind fun y354 => (if t344 = 0 then (impl_normal.l3 k4 y354 (wrap64 ((y354.length : Int) - 1)) t344 x66_4 (x5_2.length : Int) (wrap64 (x68_4 + 1))) else (impl_normal.l3 k4 y354 x11_4 t344 x66_4 (x5_2.length : Int) (wrap64 (x68_4 + 1))))) else (none))) = some r := H
               have A36 := Aside0.mk A360
               clear A360
               by_cases c37 : x11_4 ≥ 0
               ·rw [if_pos c37] at H
                have c37b0 : decide (0 ≤ x11_4) = true := decide_eq_true c37
                clear c37
                have HC38 := Aside0.mk H
                clear H
                have p343 : 0 ≤ (x68_4 : Int) := of_decide_eq_true (by first | (with_reducible assumption) | assumption)
                have q343 : x68_4 < (x66_4.length : Int) := of_decide_eq_true (by first | (with_reducible assumption) | assumption)
                obtain ⟨ad343, e343, hx343_0⟩ := Kd.at_int (Kd.R_reads' HO_66.out).2.2 x68_4 p343 q343
                cases e343
                replace p343 := eq_true p343
                replace q343 := eq_true q343
                go_upto_region 24 with (first | ((with_reducible refine gate_callee (f := 51) rfl ?_); refine goesL_ (some 73) rfl rfl Tryd.func51 (by kernel_rfl) rfl #[.int .i64 (rd x66_4 x68_4)] rfl (by (try simp only [List.map_toArray, List.map_cons, List.map_nil]); first | done | rfl | (simp only [List.length_drop, List.length_take]; rfl)) ?_; (with_reducible refine (impl_MarkClass.calls (rd x66_4 x68_4) t344 _ A36.out).mono ?_); rintro e w' ⟨rfl, ⟨nd, rfl⟩⟩; refine ⟨_, rfl, ?_⟩))
                (try simp only [Act.put, List.setIfInBounds_toArray, List.set_cons_zero, List.set_cons_succ])
                go_cut [16] (fun v16 wc => ∃ (kq : Nat) (x16_37 : Bool), v16 = .bool x16_37 ∧ Aside0 (impl_normal.j5 kq x10_4 x11_4 x12_4 (rd x66_4 x68_4) t344 x16_37 x66_4 (x5_2.length : Int) x68_4 = some r) ∧ Aside0 (kq ≤ k4) ∧ Aside0 (Kd.R (Kd.int .i64) 2 wc w.heap.size (fun k_ => some k_ ≠ ((.slice (some ad343) x66_4.length co30) : Value).ownBlock) u10 x10_4) ∧ Aside0 (Kd.R (Kd.int .i64) 2 wc w.heap.size (fun k_ => some k_ ≠ (u10 : Value).ownBlock) (.slice (some ad343) x66_4.length co30) x66_4) ∧ Aside0 (Below w.heap.size w wc))
                case first =>
                 have H := HC38.out
                 clear HC38
                 by_cases c39 : (wrap64 ((x10_4.length : Int) - 1)) = x11_4
                 ·rw [if_pos c39] at H
                  have c39b0 : ((wrap64 ((x10_4.length : Int) - 1)) == x11_4) = true := beq_iff_eq.mpr c39
                  have c39b1 : ((wrap64 ((x10_4.length : Int) - 1)) != x11_4) = false := bne_eq_false_iff_eq.mpr c39
                  clear c39
                  (first | rw [c39b0] | (simp only [i64_w, i32_w]; rw [c39b0]) | skip)
                  have H' := Aside0.mk H
                  clear H
                  obtain ⟨Ao40, co40, eo40⟩ := Kd.R_slice HO_10.out
                  subst eo40
                  go_wp2
                  go_meet
                  case rel => exact ⟨_, (true), (by first | rfl | (simp; done) | (simp [*]; done)), H', ⟨by have := HK1.out; have := HK2.out; have := HJ28.out; have := HK4.out; first | omega | exact Nat.le_refl _⟩, ⟨by (try simp only [hl66_4]); (with_reducible repeat (first | apply Kd.R_alloc | apply Kd.R_drewN | apply Kd.R_drew)); exact HO_10.out⟩, ⟨by (try simp only [hl66_4]); (with_reducible repeat (first | apply Kd.R_alloc | apply Kd.R_drewN | apply Kd.R_drew)); exact HO_66.out⟩, ⟨by repeat (first | (with_reducible first | exact HB.out | apply below_alloc | apply pw_below_drewN | apply below_drew1) | exact HB.out)⟩⟩
                 ·rw [if_neg c39] at H
                  have c39b0 : ((wrap64 ((x10_4.length : Int) - 1)) == x11_4) = false := beq_eq_false_iff_ne.mpr c39
                  have c39b1 : ((wrap64 ((x10_4.length : Int) - 1)) != x11_4) = true := bne_iff_ne.mpr c39
                  (first | rw [c39b0] | (simp only [i64_w, i32_w]; rw [c39b0]) | skip)
                  by_cases c41 : x12_4 = 0
                  ·rw [if_pos c41] at H
                   have c41b0 : (x12_4 == 0) = true := beq_iff_eq.mpr c41
                   have c41b1 : (x12_4 != 0) = false := bne_eq_false_iff_eq.mpr c41
                   clear c41
                   have H' := Aside0.mk H
                   clear H
                   obtain ⟨Ao42, co42, eo42⟩ := Kd.R_slice HO_10.out
                   subst eo42
                   go_wp2
                   go_meet
                   case rel => exact ⟨_, (false), (by first | rfl | (simp; done) | (simp [*]; done)), H', ⟨by have := HK1.out; have := HK2.out; have := HJ28.out; have := HK4.out; first | omega | exact Nat.le_refl _⟩, ⟨by (try simp only [hl66_4]); (with_reducible repeat (first | apply Kd.R_alloc | apply Kd.R_drewN | apply Kd.R_drew)); exact HO_10.out⟩, ⟨by (try simp only [hl66_4]); (with_reducible repeat (first | apply Kd.R_alloc | apply Kd.R_drewN | apply Kd.R_drew)); exact HO_66.out⟩, ⟨by repeat (first | (with_reducible first | exact HB.out | apply below_alloc | apply pw_below_drewN | apply below_drew1) | exact HB.out)⟩⟩
                  ·rw [if_neg c41] at H
                   have c41b0 : (x12_4 == 0) = false := beq_eq_false_iff_ne.mpr c41
                   have c41b1 : (x12_4 != 0) = true := bne_iff_ne.mpr c41
                   have H' := Aside0.mk H
                   clear H
                   obtain ⟨Ao43, co43, eo43⟩ := Kd.R_slice HO_10.out
                   subst eo43
                   go_wp2
                   go_meet
                   case rel => exact ⟨_, (decide (x12_4 < t344)), (by first | rfl | (simp; done) | (simp [*]; done)), H', ⟨by have := HK1.out; have := HK2.out; have := HJ28.out; have := HK4.out; first | omega | exact Nat.le_refl _⟩, ⟨by (try simp only [hl66_4]); (with_reducible repeat (first | apply Kd.R_alloc | apply Kd.R_drewN | apply Kd.R_drew)); exact HO_10.out⟩, ⟨by (try simp only [hl66_4]); (with_reducible repeat (first | apply Kd.R_alloc | apply Kd.R_drewN | apply Kd.R_drew)); exact HO_66.out⟩, ⟨by repeat (first | (with_reducible first | exact HB.out | apply below_alloc | apply pw_below_drewN | apply below_drew1) | exact HB.out)⟩⟩
                case rest =>
                 clear HC38
                 try clear c1
                 try clear p1
                 try clear q1
                 try clear hx1
                 try clear c2
                 try clear p2
                 try clear q2
                 try clear hx2
                 try clear hf2
                 try clear c3
                 try clear c3b0
                 try clear p3
                 try clear q3
                 try clear hx3
                 try clear c4
                 try clear c4b0
                 try clear c5
                 try clear c5b0
                 try clear p6
                 try clear c7
                 try clear c11
                 try clear c11b0
                 try clear c13
                 try clear c13b0
                 try clear c14
                 try clear c14b0
                 try clear c16
                 try clear c16b0
                 try clear c16b1
                 try clear c17
                 try clear c17b0
                 try clear c18
                 try clear c18b0
                 try clear p19
                 try clear q19
                 try clear hx19
                 try clear hf19
                 try clear c23
                 try clear c23b0
                 try clear c24
                 try clear c24b0
                 try clear p25
                 try clear q25
                 try clear hx25
                 try clear hf25
                 try clear c31
                 try clear c31b0
                 try clear c31b1
                 try clear c32
                 try clear c33
                 try clear c33b0
                 try clear p33
                 try clear q33
                 try clear hx33
                 try clear c34
                 try clear c34b0
                 try clear p34
                 try clear q34
                 try clear hx34
                 try clear c35
                 try clear c35b0
                 try clear c37
                 try clear c37b0
                 try clear c39
                 try clear c39b0
                 try clear c39b1
                 try clear c41
                 try clear c41b0
                 try clear c41b1
                 try clear hx19_0
                 try clear hx25_0
                 try clear hx332_0
                 try clear hx339_0
                 try clear hx343_0
                 try clear p1
                 try clear p19
                 try clear p2
                 try clear p25
                 try clear p3
                 try clear p332
                 try clear p339
                 try clear p343
                 try clear p6
                 try clear q1
                 try clear q19
                 try clear q2
                 try clear q25
                 try clear q3
                 try clear q332
                 try clear q339
                 try clear q343
                 obtain ⟨kq, x16_37, rfl, HA, HJ37, HO_10, HO_66, HB⟩ := hcut
                 cases kq with
                 | zero => exact absurd HA.out (by simp [impl_normal.j5])
                 | succ kj37 =>
                  have H := HA.out
                  clear HA
                  simp only [impl_normal.j5] at H
                  by_cases c44 : x16_37 = true
                  ·subst c44
                   have H1 : (if 0 ≤ x11_4 then (if x11_4 < (x10_4.length : Int) then ((impl_Compose.f kj37 (rd x10_4 x11_4) (rd x66_4 x68_4)).bind fun t346 => (if t346 ≥ 0 then (impl_normal.l3 kj37 (x10_4.set (x11_4 : Int).toNat t346) x11_4 x12_4 x66_4 (x5_2.length : Int) (wrap64 (x68_4 + 1))) else (if x10_4.length < 17592186044416 then ((some (x10_4 ++ [(rd x66_4 x68_4)] : List Int)).bind fun y348 => (if t344 = 0 then (impl_normal.l3 kj37 y348 (wrap64 ((y348.length : Int) - 1)) t344 x66_4 (x5_2.length : Int) (wrap64 (x68_4 + 1))) else (impl_normal.l3 kj37 y348 x11_4 t344 x66_4 (x5_2.length : Int) (wrap64 (x68_4 + 1))))) else (none)))) else (none)) else (none)) = some r := by rw [if_pos rfl] at H; exact H
                   clear H
                   have H := H1
                   clear H1
                   by_cases c45 : 0 ≤ x11_4
                   ·rw [if_pos c45] at H
                    have c45b0 : decide (0 ≤ x11_4) = true := decide_eq_true c45
                    clear c45
                    by_cases c46 : x11_4 < (x10_4.length : Int)
                    ·rw [if_pos c46] at H
                     have c46b0 : decide (x11_4 < (x10_4.length : Int)) = true := decide_eq_true c46
                     clear c46
                     replace H := Option.bind_eq_some_iff.mp H
                     obtain ⟨t346, A470, H⟩ := H
                     replace H : (if t346 ≥ 0 then (impl_normal.l3 kj37 (x10_4.set (x11_4 : Int).toNat t346) x11_4 x12_4 x66_4 (x5_2.length : Int) (wrap64 (x68_4 + 1))) else (if x10_4.length < 17592186044416 then ((some (x10_4 ++ [(rd x66_4 x68_4)] : List Int)).bind fun y348 => (if t344 = 0 then (impl_normal.l3 kj37 y348 (wrap64 ((y348.length : Int) - 1)) t344 x66_4 (x5_2.length : Int) (wrap64 (x68_4 + 1))) else (impl_normal.l3 kj37 y348 x11_4 t344 x66_4 (x5_2.length : Int) (wrap64 (x68_4 + 1))))) else (none))) = some r := H
                     have A47 := Aside0.mk A470
                     clear A470
                     by_cases c48 : t346 ≥ 0
                     ·rw [if_pos c48] at H
                      have c48b0 : decide (0 ≤ t346) = true := decide_eq_true c48
                      clear c48
                      obtain ⟨y347, hy347⟩ : ∃ y_ : List Int, y_ = (x10_4.set (x11_4 : Int).toNat t346) := ⟨_, rfl⟩
                      replace H : (impl_normal.l3 kj37 y347 x11_4 x12_4 x66_4 (x5_2.length : Int) (wrap64 (x68_4 + 1))) = some r := by first | (rw [hy347]; with_reducible exact H) | (have H2_ := (Option.bind_some _ _).symm.trans H; rw [hy347]; with_reducible exact H2_) | (have H2_ := (Option.bind_some _ _).symm.trans H; with_reducible exact H2_) | with_reducible exact H | (rw [hy347]; exact H) | exact H
                      have Ny347 := Aside0.mk hy347
                      clear hy347
                      have H' := Aside0.mk H
                      clear H
                      obtain ⟨Ao50, co50, eo50⟩ := Kd.R_slice HO_10.out
                      subst eo50
                      have p345 : 0 ≤ (x11_4 : Int) := of_decide_eq_true (by first | (with_reducible assumption) | assumption)
                      have q345 : x11_4 < (x10_4.length : Int) := of_decide_eq_true (by first | (with_reducible assumption) | assumption)
                      obtain ⟨ad345, e345, hx345_0⟩ := Kd.at_int (Kd.R_reads' HO_10.out).2.2 x11_4 p345 q345
                      cases e345
                      replace p345 := eq_true p345
                      replace q345 := eq_true q345
                      go_wp2_with (first | ((with_reducible refine gate_callee (f := 80) rfl ?_); refine goesL_ (some 96) rfl rfl Tryd.func80 (by kernel_rfl) rfl #[.int .i64 (rd x10_4 x11_4), .int .i64 (rd x66_4 x68_4)] rfl (by (try simp only [List.map_toArray, List.map_cons, List.map_nil]); first | done | rfl | (simp only [List.length_drop, List.length_take]; rfl)) ?_; (with_reducible refine (impl_Compose.calls kj37 (rd x10_4 x11_4) (rd x66_4 x68_4) t346 _ A47.out).mono ?_); rintro e w' ⟨rfl, ⟨nd, rfl⟩⟩; refine ⟨_, rfl, ?_⟩; (try (rw [drewN_self wc]; generalize hq_ : World.drewN wc _ = wc; have n0_ : Aside0 (Kd.R (Kd.int .i64) 2 wc w.heap.size (fun k_ => some k_ ≠ (.slice (some ad343) x66_4.length co30 : Value).ownBlock) (.slice (some ad345) x10_4.length co50) x10_4) := ⟨by rw [← hq_]; exact (by (with_reducible repeat (first | apply Kd.R_alloc | apply Kd.R_drewN | apply Kd.R_drew)); exact HO_10.out)⟩; have n1_ : Aside0 (Kd.R (Kd.int .i64) 2 wc w.heap.size (fun k_ => some k_ ≠ (.slice (some ad345) x10_4.length co50 : Value).ownBlock) (.slice (some ad343) x66_4.length co30) x66_4) := ⟨by rw [← hq_]; exact (by (with_reducible repeat (first | apply Kd.R_alloc | apply Kd.R_drewN | apply Kd.R_drew)); exact HO_66.out)⟩; have n2_ : Aside0 (Below w.heap.size w wc) := ⟨by rw [← hq_]; exact (by repeat (first | (with_reducible first | exact HB.out | apply below_alloc | apply pw_below_drewN | apply below_drew1) | exact HB.out))⟩; clear HO_10 HO_66 HB hq_; have HO_10 := n0_; have HO_66 := n1_; have HB := n2_; clear n0_ n1_ n2_)); have p49 : 0 ≤ (x11_4 : Int) := of_decide_eq_true (by first | (with_reducible assumption) | assumption); have q49 : (x11_4 : Int) < ((x10_4.length : Int) : Int) := of_decide_eq_true (by first | (with_reducible assumption) | assumption); obtain ⟨go49, co49, eo49, gb49, gl49, cl49, HG49⟩ := Kd.R_form HO_10.out (by omega); (first | cases eo49 | (injection eo49 with ea_ en_ ec_; (first | subst ea_ | (injection ea_ with ea_; subst ea_)); subst ec_; clear en_)); have GB49 := Aside0.mk gb49; have GG49 := Aside0.mk HG49; clear gb49 gl49 HG49; (first | simp only [add_plain] at hx345_0 | skip); obtain ⟨hx49_0, hf49_0⟩ := Kd.R_celln 0 HO_10.out (x11_4 : Int) p49 q49; replace p49 := eq_true p49; replace q49 := eq_true q49; obtain ⟨hy51_, hz51_⟩ := Kd.R_celln 0 HO_10.out (x11_4 : Int) (of_decide_eq_true (by first | (with_reducible assumption) | assumption)) (of_decide_eq_true (by first | (with_reducible assumption) | assumption)); have HP51 := Kd.R_putg HO_10.out (x11_4 : Int) t346) | ((with_reducible refine gate_store (t := 2) (p := 102) rfl ?_); refine store_event (t := 2) (p := 102) (v := ?vo_w52) (w1 := (wc.setCell ⟨go49, (x11_4 : Int).toNat, none⟩ (.int .i64 t346))) ?hg ?ho ?hn ?hr ?_; (case ho => rfl); (case hg => rfl); (case hn => rfl); (case hr => first | (go_simp; done) | (go_simp; rfl)); intro w52 hw; have hg : wc.grownBy w52 (some go49) := (by rw [hw]; exact HP51.2); have hp_ : Kd.R (Kd.int .i64) 2 w52 w.heap.size (fun k_ => some k_ ≠ (.slice (some ad343) x66_4.length co30 : Value).ownBlock) (.slice (some ⟨go49, 0, none⟩) x10_4.length co50) y347 := (by rw [hw, Ny347.out]; exact HP51.1); clear HP51; have n0_ := Aside0.mk (hp_); have n1_ := Aside0.mk (Kd.R_after (v := (.slice (some ⟨go49, 0, none⟩) x10_4.length co50)) (v1 := (.slice (some ⟨go49, 0, none⟩) x10_4.length co50)) (ok := (fun _ => True)) (by (with_reducible repeat (first | apply Kd.R_alloc | apply Kd.R_drewN | apply Kd.R_drew)); exact Kd.R_mono HO_66.out (fun _ hk => ⟨trivial, hk⟩)) hg (.inl rfl)); have n2_ := Aside0.mk ((by rw [hw]; exact below_set (HB.out) GB49.out : Below w.heap.size w w52)); clear HO_10; clear HO_66; clear HB; have HO_10 := n0_; have HO_66 := n1_; have HB := n2_; clear n0_ n1_ n2_; clear hg hw hp_))
                      (try simp only [← hl66_4])
                      go_roundg kj37
                      case measure => have := HK1.out; have := HK2.out; have := HJ28.out; have := HK4.out; have := HJ37.out; omega
                      case rel => exact ⟨(y347), (x11_4), (x12_4), (x66_4), (wrap64 (x68_4 + 1)), (by first | rfl | (simp; done) | (simp [*]; done)), (by first | rfl | (simp; done) | (simp [*]; done)), (by first | rfl | (simp; done) | (simp [*]; done)), H', ⟨by have := HK1.out; have := HK2.out; have := HJ28.out; have := HK4.out; have := HJ37.out; omega⟩, ⟨by (try simp only [hl66_4]); (with_reducible repeat (first | apply Kd.R_alloc | apply Kd.R_drewN | apply Kd.R_drew)); exact HO_10.out⟩, ⟨by (try simp only [hl66_4]); (with_reducible repeat (first | apply Kd.R_alloc | apply Kd.R_drewN | apply Kd.R_drew)); exact Kd.R_mono HO_66.out (fun _ hk => hk.2)⟩, ⟨by repeat (first | (with_reducible first | exact HB.out | apply below_alloc | apply pw_below_drewN | apply below_drew1) | exact HB.out)⟩⟩
                     ·rw [if_neg c48] at H
                      have c48b0 : decide (0 ≤ t346) = false := decide_eq_false c48
                      clear c48
                      by_cases c53 : x10_4.length < 17592186044416
                      ·rw [if_pos c53] at H
                       have LMc53 := Aside0.mk c53
                       clear c53
                       obtain ⟨y348, hy348⟩ : ∃ y_ : List Int, y_ = (x10_4 ++ [(rd x66_4 x68_4)]) := ⟨_, rfl⟩
                       replace H : (if t344 = 0 then (impl_normal.l3 kj37 y348 (wrap64 ((y348.length : Int) - 1)) t344 x66_4 (x5_2.length : Int) (wrap64 (x68_4 + 1))) else (impl_normal.l3 kj37 y348 x11_4 t344 x66_4 (x5_2.length : Int) (wrap64 (x68_4 + 1)))) = some r := by first | (rw [hy348]; with_reducible exact H) | (have H2_ := (Option.bind_some _ _).symm.trans H; rw [hy348]; with_reducible exact H2_) | (have H2_ := (Option.bind_some _ _).symm.trans H; with_reducible exact H2_) | with_reducible exact H | (rw [hy348]; exact H) | exact H
                       have Ny348 := Aside0.mk hy348
                       clear hy348
                       by_cases c54 : t344 = 0
                       ·rw [if_pos c54] at H
                        have c54b0 : (t344 == 0) = true := beq_iff_eq.mpr c54
                        have c54b1 : (t344 != 0) = false := bne_eq_false_iff_eq.mpr c54
                        clear c54
                        have H' := Aside0.mk H
                        clear H
                        obtain ⟨Ao55, co55, eo55⟩ := Kd.R_slice HO_10.out
                        subst eo55
                        have p345 : 0 ≤ (x11_4 : Int) := of_decide_eq_true (by first | (with_reducible assumption) | assumption)
                        have q345 : x11_4 < (x10_4.length : Int) := of_decide_eq_true (by first | (with_reducible assumption) | assumption)
                        obtain ⟨ad345, e345, hx345_0⟩ := Kd.at_int (Kd.R_reads' HO_10.out).2.2 x11_4 p345 q345
                        cases e345
                        replace p345 := eq_true p345
                        replace q345 := eq_true q345
                        go_wp2_with (first | ((with_reducible refine gate_callee (f := 80) rfl ?_); refine goesL_ (some 96) rfl rfl Tryd.func80 (by kernel_rfl) rfl #[.int .i64 (rd x10_4 x11_4), .int .i64 (rd x66_4 x68_4)] rfl (by (try simp only [List.map_toArray, List.map_cons, List.map_nil]); first | done | rfl | (simp only [List.length_drop, List.length_take]; rfl)) ?_; (with_reducible refine (impl_Compose.calls kj37 (rd x10_4 x11_4) (rd x66_4 x68_4) t346 _ A47.out).mono ?_); rintro e w' ⟨rfl, ⟨nd, rfl⟩⟩; refine ⟨_, rfl, ?_⟩) | ((with_reducible refine gate_builtin (b := .append) (xs := #[.tmp 103, .tmp 105]) rfl ?_); at_builtin; refine Kd.R_append (Kd.int .i64) (w0 := w) w.heap.size rfl (.tmp 103) (.tmp 105) 58 2 (.int .i64 0) 8 rfl Tryd.underlying58 info2 rfl (by decide) (by omega) (.slice (some ad345) x10_4.length co55) x10_4 (rd x66_4 x68_4) [.int .i64 (rd x66_4 x68_4)] (fun k_ => some k_ ≠ (.slice (some ad343) x66_4.length co30 : Value).ownBlock) (fun _ => False) rfl rfl ?aP (fun _ hk => hk.elim) ?aF ?aO ?aB ?aS ?aL ?_; (case aP => exact rfl); (case aB => exact (by repeat (first | (with_reducible first | exact HB.out | apply below_alloc | apply pw_below_drewN | apply below_drew1) | exact HB.out))); (case aF => exact (fun k_ hk => Kd.fresh' (Kd.R_lt (by (with_reducible repeat (first | apply Kd.R_alloc | apply Kd.R_drewN | apply Kd.R_drew)); exact HO_66.out)) k_ hk)); (case aO => exact (by (with_reducible repeat (first | apply Kd.R_alloc | apply Kd.R_drewN | apply Kd.R_drew)); exact HO_10.out)); (case aS => exact (below_size (by repeat (first | (with_reducible first | exact HB.out | apply below_alloc | apply pw_below_drewN | apply below_drew1) | exact HB.out)))); (case aL => have := LMc53.out; omega); intro v349 w56 ho hb hg hat; rw [← Ny348.out] at ho; have n0_ := Aside0.mk (Kd.R_after (ok := (fun _ => True)) (by (with_reducible repeat (first | apply Kd.R_alloc | apply Kd.R_drewN | apply Kd.R_drew)); exact Kd.R_mono HO_66.out (fun _ hk => ⟨trivial, hk⟩)) hg hat); have n1_ := Aside0.mk (hb); have n2_ := Aside0.mk (ho); clear HO_66; clear HB; clear HO_10; have HO_66 := n0_; have HB := n1_; have HO350 := n2_; clear n0_ n1_ n2_; clear ho hb hg hat; obtain ⟨Ao57, co57, eo57⟩ := Kd.R_slice HO350.out; subst eo57))
                        (try simp only [← hl66_4])
                        go_roundg kj37
                        case measure => have := HK1.out; have := HK2.out; have := HJ28.out; have := HK4.out; have := HJ37.out; omega
                        case rel => exact ⟨(y348), (wrap64 ((y348.length : Int) - 1)), (t344), (x66_4), (wrap64 (x68_4 + 1)), (by first | rfl | (simp; done) | (simp [*]; done)), (by first | rfl | (simp; done) | (simp [*]; done)), (by first | rfl | (simp; done) | (simp [*]; done)), H', ⟨by have := HK1.out; have := HK2.out; have := HJ28.out; have := HK4.out; have := HJ37.out; omega⟩, ⟨by (try simp only [hl66_4]); (with_reducible repeat (first | apply Kd.R_alloc | apply Kd.R_drewN | apply Kd.R_drew)); exact HO350.out⟩, ⟨by (try simp only [hl66_4]); (with_reducible repeat (first | apply Kd.R_alloc | apply Kd.R_drewN | apply Kd.R_drew)); exact Kd.R_mono HO_66.out (fun _ hk => hk.2)⟩, ⟨by repeat (first | (with_reducible first | exact HB.out | apply below_alloc | apply pw_below_drewN | apply below_drew1) | exact HB.out)⟩⟩
                       ·rw [if_neg c54] at H
                        have c54b0 : (t344 == 0) = false := beq_eq_false_iff_ne.mpr c54
                        have c54b1 : (t344 != 0) = true := bne_iff_ne.mpr c54
                        have H' := Aside0.mk H
                        clear H
                        obtain ⟨Ao58, co58, eo58⟩ := Kd.R_slice HO_10.out
                        subst eo58
                        have p345 : 0 ≤ (x11_4 : Int) := of_decide_eq_true (by first | (with_reducible assumption) | assumption)
                        have q345 : x11_4 < (x10_4.length : Int) := of_decide_eq_true (by first | (with_reducible assumption) | assumption)
                        obtain ⟨ad345, e345, hx345_0⟩ := Kd.at_int (Kd.R_reads' HO_10.out).2.2 x11_4 p345 q345
                        cases e345
                        replace p345 := eq_true p345
                        replace q345 := eq_true q345
                        go_wp2_with (first | ((with_reducible refine gate_callee (f := 80) rfl ?_); refine goesL_ (some 96) rfl rfl Tryd.func80 (by kernel_rfl) rfl #[.int .i64 (rd x10_4 x11_4), .int .i64 (rd x66_4 x68_4)] rfl (by (try simp only [List.map_toArray, List.map_cons, List.map_nil]); first | done | rfl | (simp only [List.length_drop, List.length_take]; rfl)) ?_; (with_reducible refine (impl_Compose.calls kj37 (rd x10_4 x11_4) (rd x66_4 x68_4) t346 _ A47.out).mono ?_); rintro e w' ⟨rfl, ⟨nd, rfl⟩⟩; refine ⟨_, rfl, ?_⟩) | ((with_reducible refine gate_builtin (b := .append) (xs := #[.tmp 103, .tmp 105]) rfl ?_); at_builtin; refine Kd.R_append (Kd.int .i64) (w0 := w) w.heap.size rfl (.tmp 103) (.tmp 105) 58 2 (.int .i64 0) 8 rfl Tryd.underlying58 info2 rfl (by decide) (by omega) (.slice (some ad345) x10_4.length co58) x10_4 (rd x66_4 x68_4) [.int .i64 (rd x66_4 x68_4)] (fun k_ => some k_ ≠ (.slice (some ad343) x66_4.length co30 : Value).ownBlock) (fun _ => False) rfl rfl ?aP (fun _ hk => hk.elim) ?aF ?aO ?aB ?aS ?aL ?_; (case aP => exact rfl); (case aB => exact (by repeat (first | (with_reducible first | exact HB.out | apply below_alloc | apply pw_below_drewN | apply below_drew1) | exact HB.out))); (case aF => exact (fun k_ hk => Kd.fresh' (Kd.R_lt (by (with_reducible repeat (first | apply Kd.R_alloc | apply Kd.R_drewN | apply Kd.R_drew)); exact HO_66.out)) k_ hk)); (case aO => exact (by (with_reducible repeat (first | apply Kd.R_alloc | apply Kd.R_drewN | apply Kd.R_drew)); exact HO_10.out)); (case aS => exact (below_size (by repeat (first | (with_reducible first | exact HB.out | apply below_alloc | apply pw_below_drewN | apply below_drew1) | exact HB.out)))); (case aL => have := LMc53.out; omega); intro v349 w59 ho hb hg hat; rw [← Ny348.out] at ho; have n0_ := Aside0.mk (Kd.R_after (ok := (fun _ => True)) (by (with_reducible repeat (first | apply Kd.R_alloc | apply Kd.R_drewN | apply Kd.R_drew)); exact Kd.R_mono HO_66.out (fun _ hk => ⟨trivial, hk⟩)) hg hat); have n1_ := Aside0.mk (hb); have n2_ := Aside0.mk (ho); clear HO_66; clear HB; clear HO_10; have HO_66 := n0_; have HB := n1_; have HO350 := n2_; clear n0_ n1_ n2_; clear ho hb hg hat))
                        (try simp only [← hl66_4])
                        go_roundg kj37
                        case measure => have := HK1.out; have := HK2.out; have := HJ28.out; have := HK4.out; have := HJ37.out; omega
                        case rel => exact ⟨(y348), (x11_4), (t344), (x66_4), (wrap64 (x68_4 + 1)), (by first | rfl | (simp; done) | (simp [*]; done)), (by first | rfl | (simp; done) | (simp [*]; done)), (by first | rfl | (simp; done) | (simp [*]; done)), H', ⟨by have := HK1.out; have := HK2.out; have := HJ28.out; have := HK4.out; have := HJ37.out; omega⟩, ⟨by (try simp only [hl66_4]); (with_reducible repeat (first | apply Kd.R_alloc | apply Kd.R_drewN | apply Kd.R_drew)); exact HO350.out⟩, ⟨by (try simp only [hl66_4]); (with_reducible repeat (first | apply Kd.R_alloc | apply Kd.R_drewN | apply Kd.R_drew)); exact Kd.R_mono HO_66.out (fun _ hk => hk.2)⟩, ⟨by repeat (first | (with_reducible first | exact HB.out | apply below_alloc | apply pw_below_drewN | apply below_drew1) | exact HB.out)⟩⟩
                      ·rw [if_neg c53] at H
                       exact absurd H (by simp)
                    ·rw [if_neg c46] at H
                     exact absurd H (by simp)
                   ·rw [if_neg c45] at H
                    exact absurd H (by simp)
                  ·replace c44 := Bool.eq_false_iff.mpr c44
                   subst c44
                   have H1 : (if x10_4.length < 17592186044416 then ((some (x10_4 ++ [(rd x66_4 x68_4)] : List Int)).bind fun y351 => (if t344 = 0 then (impl_normal.l3 kj37 y351 (wrap64 ((y351.length : Int) - 1)) t344 x66_4 (x5_2.length : Int) (wrap64 (x68_4 + 1))) else (impl_normal.l3 kj37 y351 x11_4 t344 x66_4 (x5_2.length : Int) (wrap64 (x68_4 + 1))))) else (none)) = some r := by rw [if_neg (show ¬ (false = true) by decide)] at H; exact H
                   clear H
                   have H := H1
                   clear H1
                   by_cases c60 : x10_4.length < 17592186044416
                   ·rw [if_pos c60] at H
                    have LMc60 := Aside0.mk c60
                    clear c60
                    obtain ⟨y351, hy351⟩ : ∃ y_ : List Int, y_ = (x10_4 ++ [(rd x66_4 x68_4)]) := ⟨_, rfl⟩
                    replace H : (if t344 = 0 then (impl_normal.l3 kj37 y351 (wrap64 ((y351.length : Int) - 1)) t344 x66_4 (x5_2.length : Int) (wrap64 (x68_4 + 1))) else (impl_normal.l3 kj37 y351 x11_4 t344 x66_4 (x5_2.length : Int) (wrap64 (x68_4 + 1)))) = some r := by first | (rw [hy351]; with_reducible exact H) | (have H2_ := (Option.bind_some _ _).symm.trans H; rw [hy351]; with_reducible exact H2_) | (have H2_ := (Option.bind_some _ _).symm.trans H; with_reducible exact H2_) | with_reducible exact H | (rw [hy351]; exact H) | exact H
                    have Ny351 := Aside0.mk hy351
                    clear hy351
                    by_cases c61 : t344 = 0
                    ·rw [if_pos c61] at H
                     have c61b0 : (t344 == 0) = true := beq_iff_eq.mpr c61
                     have c61b1 : (t344 != 0) = false := bne_eq_false_iff_eq.mpr c61
                     clear c61
                     have H' := Aside0.mk H
                     clear H
                     go_wp2_with (first | ((with_reducible refine gate_builtin (b := .append) (xs := #[.tmp 103, .tmp 105]) rfl ?_); at_builtin; refine Kd.R_append (Kd.int .i64) (w0 := w) w.heap.size rfl (.tmp 103) (.tmp 105) 58 2 (.int .i64 0) 8 rfl Tryd.underlying58 info2 rfl (by decide) (by omega) u10 x10_4 (rd x66_4 x68_4) [.int .i64 (rd x66_4 x68_4)] (fun k_ => some k_ ≠ (.slice (some ad343) x66_4.length co30 : Value).ownBlock) (fun _ => False) rfl rfl ?aP (fun _ hk => hk.elim) ?aF ?aO ?aB ?aS ?aL ?_; (case aP => exact rfl); (case aB => exact (by repeat (first | (with_reducible first | exact HB.out | apply below_alloc | apply pw_below_drewN | apply below_drew1) | exact HB.out))); (case aF => exact (fun k_ hk => Kd.fresh' (Kd.R_lt (by (with_reducible repeat (first | apply Kd.R_alloc | apply Kd.R_drewN | apply Kd.R_drew)); exact HO_66.out)) k_ hk)); (case aO => exact (by (with_reducible repeat (first | apply Kd.R_alloc | apply Kd.R_drewN | apply Kd.R_drew)); exact HO_10.out)); (case aS => exact (below_size (by repeat (first | (with_reducible first | exact HB.out | apply below_alloc | apply pw_below_drewN | apply below_drew1) | exact HB.out)))); (case aL => have := LMc60.out; omega); intro v352 w62 ho hb hg hat; rw [← Ny351.out] at ho; have n0_ := Aside0.mk (Kd.R_after (ok := (fun _ => True)) (by (with_reducible repeat (first | apply Kd.R_alloc | apply Kd.R_drewN | apply Kd.R_drew)); exact Kd.R_mono HO_66.out (fun _ hk => ⟨trivial, hk⟩)) hg hat); have n1_ := Aside0.mk (hb); have n2_ := Aside0.mk (ho); clear HO_66; clear HB; clear HO_10; have HO_66 := n0_; have HB := n1_; have HO353 := n2_; clear n0_ n1_ n2_; clear ho hb hg hat; obtain ⟨Ao63, co63, eo63⟩ := Kd.R_slice HO353.out; subst eo63))
                     (try simp only [← hl66_4])
                     go_roundg kj37
                     case measure => have := HK1.out; have := HK2.out; have := HJ28.out; have := HK4.out; have := HJ37.out; omega
                     case rel => exact ⟨(y351), (wrap64 ((y351.length : Int) - 1)), (t344), (x66_4), (wrap64 (x68_4 + 1)), (by first | rfl | (simp; done) | (simp [*]; done)), (by first | rfl | (simp; done) | (simp [*]; done)), (by first | rfl | (simp; done) | (simp [*]; done)), H', ⟨by have := HK1.out; have := HK2.out; have := HJ28.out; have := HK4.out; have := HJ37.out; omega⟩, ⟨by (try simp only [hl66_4]); (with_reducible repeat (first | apply Kd.R_alloc | apply Kd.R_drewN | apply Kd.R_drew)); exact HO353.out⟩, ⟨by (try simp only [hl66_4]); (with_reducible repeat (first | apply Kd.R_alloc | apply Kd.R_drewN | apply Kd.R_drew)); exact Kd.R_mono HO_66.out (fun _ hk => hk.2)⟩, ⟨by repeat (first | (with_reducible first | exact HB.out | apply below_alloc | apply pw_below_drewN | apply below_drew1) | exact HB.out)⟩⟩
                    ·rw [if_neg c61] at H
                     have c61b0 : (t344 == 0) = false := beq_eq_false_iff_ne.mpr c61
                     have c61b1 : (t344 != 0) = true := bne_iff_ne.mpr c61
                     have H' := Aside0.mk H
                     clear H
                     go_wp2_with (first | ((with_reducible refine gate_builtin (b := .append) (xs := #[.tmp 103, .tmp 105]) rfl ?_); at_builtin; refine Kd.R_append (Kd.int .i64) (w0 := w) w.heap.size rfl (.tmp 103) (.tmp 105) 58 2 (.int .i64 0) 8 rfl Tryd.underlying58 info2 rfl (by decide) (by omega) u10 x10_4 (rd x66_4 x68_4) [.int .i64 (rd x66_4 x68_4)] (fun k_ => some k_ ≠ (.slice (some ad343) x66_4.length co30 : Value).ownBlock) (fun _ => False) rfl rfl ?aP (fun _ hk => hk.elim) ?aF ?aO ?aB ?aS ?aL ?_; (case aP => exact rfl); (case aB => exact (by repeat (first | (with_reducible first | exact HB.out | apply below_alloc | apply pw_below_drewN | apply below_drew1) | exact HB.out))); (case aF => exact (fun k_ hk => Kd.fresh' (Kd.R_lt (by (with_reducible repeat (first | apply Kd.R_alloc | apply Kd.R_drewN | apply Kd.R_drew)); exact HO_66.out)) k_ hk)); (case aO => exact (by (with_reducible repeat (first | apply Kd.R_alloc | apply Kd.R_drewN | apply Kd.R_drew)); exact HO_10.out)); (case aS => exact (below_size (by repeat (first | (with_reducible first | exact HB.out | apply below_alloc | apply pw_below_drewN | apply below_drew1) | exact HB.out)))); (case aL => have := LMc60.out; omega); intro v352 w64 ho hb hg hat; rw [← Ny351.out] at ho; have n0_ := Aside0.mk (Kd.R_after (ok := (fun _ => True)) (by (with_reducible repeat (first | apply Kd.R_alloc | apply Kd.R_drewN | apply Kd.R_drew)); exact Kd.R_mono HO_66.out (fun _ hk => ⟨trivial, hk⟩)) hg hat); have n1_ := Aside0.mk (hb); have n2_ := Aside0.mk (ho); clear HO_66; clear HB; clear HO_10; have HO_66 := n0_; have HB := n1_; have HO353 := n2_; clear n0_ n1_ n2_; clear ho hb hg hat))
                     (try simp only [← hl66_4])
                     go_roundg kj37
                     case measure => have := HK1.out; have := HK2.out; have := HJ28.out; have := HK4.out; have := HJ37.out; omega
                     case rel => exact ⟨(y351), (x11_4), (t344), (x66_4), (wrap64 (x68_4 + 1)), (by first | rfl | (simp; done) | (simp [*]; done)), (by first | rfl | (simp; done) | (simp [*]; done)), (by first | rfl | (simp; done) | (simp [*]; done)), H', ⟨by have := HK1.out; have := HK2.out; have := HJ28.out; have := HK4.out; have := HJ37.out; omega⟩, ⟨by (try simp only [hl66_4]); (with_reducible repeat (first | apply Kd.R_alloc | apply Kd.R_drewN | apply Kd.R_drew)); exact HO353.out⟩, ⟨by (try simp only [hl66_4]); (with_reducible repeat (first | apply Kd.R_alloc | apply Kd.R_drewN | apply Kd.R_drew)); exact Kd.R_mono HO_66.out (fun _ hk => hk.2)⟩, ⟨by repeat (first | (with_reducible first | exact HB.out | apply below_alloc | apply pw_below_drewN | apply below_drew1) | exact HB.out)⟩⟩
                   ·rw [if_neg c60] at H
                    exact absurd H (by simp)
               ·rw [if_neg c37] at H
                have c37b0 : decide (0 ≤ x11_4) = false := decide_eq_false c37
                clear c37
                by_cases c65 : x10_4.length < 17592186044416
                ·rw [if_pos c65] at H
                 have LMc65 := Aside0.mk c65
                 clear c65
                 obtain ⟨y354, hy354⟩ : ∃ y_ : List Int, y_ = (x10_4 ++ [rd x66_4 x68_4]) := ⟨_, rfl⟩
                 replace H : (if t344 = 0 then (impl_normal.l3 k4 y354 (wrap64 ((y354.length : Int) - 1)) t344 x66_4 (x5_2.length : Int) (wrap64 (x68_4 + 1))) else (impl_normal.l3 k4 y354 x11_4 t344 x66_4 (x5_2.length : Int) (wrap64 (x68_4 + 1)))) = some r := by first | (rw [hy354]; with_reducible exact H) | (have H2_ := (Option.bind_some _ _).symm.trans H; rw [hy354]; with_reducible exact H2_) | (have H2_ := (Option.bind_some _ _).symm.trans H; with_reducible exact H2_) | with_reducible exact H | (rw [hy354]; exact H) | exact H
                 have Ny354 := Aside0.mk hy354
                 clear hy354
                 by_cases c66 : t344 = 0
                 ·rw [if_pos c66] at H
                  have c66b0 : (t344 == 0) = true := beq_iff_eq.mpr c66
                  have c66b1 : (t344 != 0) = false := bne_eq_false_iff_eq.mpr c66
                  clear c66
                  have H' := Aside0.mk H
                  clear H
                  have p343 : 0 ≤ (x68_4 : Int) := of_decide_eq_true (by first | (with_reducible assumption) | assumption)
                  have q343 : x68_4 < (x66_4.length : Int) := of_decide_eq_true (by first | (with_reducible assumption) | assumption)
                  obtain ⟨ad343, e343, hx343_0⟩ := Kd.at_int (Kd.R_reads' HO_66.out).2.2 x68_4 p343 q343
                  cases e343
                  replace p343 := eq_true p343
                  replace q343 := eq_true q343
                  go_wp2_with (first | ((with_reducible refine gate_callee (f := 51) rfl ?_); refine goesL_ (some 73) rfl rfl Tryd.func51 (by kernel_rfl) rfl #[.int .i64 (rd x66_4 x68_4)] rfl (by (try simp only [List.map_toArray, List.map_cons, List.map_nil]); first | done | rfl | (simp only [List.length_drop, List.length_take]; rfl)) ?_; (with_reducible refine (impl_MarkClass.calls (rd x66_4 x68_4) t344 _ A36.out).mono ?_); rintro e w' ⟨rfl, ⟨nd, rfl⟩⟩; refine ⟨_, rfl, ?_⟩) | ((with_reducible refine gate_builtin (b := .append) (xs := #[.tmp 103, .tmp 105]) rfl ?_); at_builtin; refine Kd.R_append (Kd.int .i64) (w0 := w) w.heap.size rfl (.tmp 103) (.tmp 105) 58 2 (.int .i64 0) 8 rfl Tryd.underlying58 info2 rfl (by decide) (by omega) u10 x10_4 (rd x66_4 x68_4) [.int .i64 (rd x66_4 x68_4)] (fun k_ => some k_ ≠ (.slice (some ad343) x66_4.length co30 : Value).ownBlock) (fun _ => False) rfl rfl ?aP (fun _ hk => hk.elim) ?aF ?aO ?aB ?aS ?aL ?_; (case aP => exact rfl); (case aB => exact (by repeat (first | (with_reducible first | exact HB.out | apply below_alloc | apply pw_below_drewN | apply below_drew1) | exact HB.out))); (case aF => exact (fun k_ hk => Kd.fresh' (Kd.R_lt (by (with_reducible repeat (first | apply Kd.R_alloc | apply Kd.R_drewN | apply Kd.R_drew)); exact HO_66.out)) k_ hk)); (case aO => exact (by (with_reducible repeat (first | apply Kd.R_alloc | apply Kd.R_drewN | apply Kd.R_drew)); exact HO_10.out)); (case aS => exact (below_size (by repeat (first | (with_reducible first | exact HB.out | apply below_alloc | apply pw_below_drewN | apply below_drew1) | exact HB.out)))); (case aL => have := LMc65.out; omega); intro v355 w67 ho hb hg hat; rw [← Ny354.out] at ho; have n0_ := Aside0.mk (Kd.R_after (ok := (fun _ => True)) (by (with_reducible repeat (first | apply Kd.R_alloc | apply Kd.R_drewN | apply Kd.R_drew)); exact Kd.R_mono HO_66.out (fun _ hk => ⟨trivial, hk⟩)) hg hat); have n1_ := Aside0.mk (hb); have n2_ := Aside0.mk (ho); clear HO_66; clear HB; clear HO_10; have HO_66 := n0_; have HB := n1_; have HO356 := n2_; clear n0_ n1_ n2_; clear ho hb hg hat; obtain ⟨Ao68, co68, eo68⟩ := Kd.R_slice HO356.out; subst eo68))
                  (try simp only [← hl66_4])
                  go_roundg k4
                  case measure => have := HK1.out; have := HK2.out; have := HJ28.out; have := HK4.out; omega
                  case rel => exact ⟨(y354), (wrap64 ((y354.length : Int) - 1)), (t344), (x66_4), (wrap64 (x68_4 + 1)), (by first | rfl | (simp; done) | (simp [*]; done)), (by first | rfl | (simp; done) | (simp [*]; done)), (by first | rfl | (simp; done) | (simp [*]; done)), H', ⟨by have := HK1.out; have := HK2.out; have := HJ28.out; have := HK4.out; omega⟩, ⟨by (try simp only [hl66_4]); (with_reducible repeat (first | apply Kd.R_alloc | apply Kd.R_drewN | apply Kd.R_drew)); exact HO356.out⟩, ⟨by (try simp only [hl66_4]); (with_reducible repeat (first | apply Kd.R_alloc | apply Kd.R_drewN | apply Kd.R_drew)); exact Kd.R_mono HO_66.out (fun _ hk => hk.2)⟩, ⟨by repeat (first | (with_reducible first | exact HB.out | apply below_alloc | apply pw_below_drewN | apply below_drew1) | exact HB.out)⟩⟩
                 ·rw [if_neg c66] at H
                  have c66b0 : (t344 == 0) = false := beq_eq_false_iff_ne.mpr c66
                  have c66b1 : (t344 != 0) = true := bne_iff_ne.mpr c66
                  have H' := Aside0.mk H
                  clear H
                  have p343 : 0 ≤ (x68_4 : Int) := of_decide_eq_true (by first | (with_reducible assumption) | assumption)
                  have q343 : x68_4 < (x66_4.length : Int) := of_decide_eq_true (by first | (with_reducible assumption) | assumption)
                  obtain ⟨ad343, e343, hx343_0⟩ := Kd.at_int (Kd.R_reads' HO_66.out).2.2 x68_4 p343 q343
                  cases e343
                  replace p343 := eq_true p343
                  replace q343 := eq_true q343
                  go_wp2_with (first | ((with_reducible refine gate_callee (f := 51) rfl ?_); refine goesL_ (some 73) rfl rfl Tryd.func51 (by kernel_rfl) rfl #[.int .i64 (rd x66_4 x68_4)] rfl (by (try simp only [List.map_toArray, List.map_cons, List.map_nil]); first | done | rfl | (simp only [List.length_drop, List.length_take]; rfl)) ?_; (with_reducible refine (impl_MarkClass.calls (rd x66_4 x68_4) t344 _ A36.out).mono ?_); rintro e w' ⟨rfl, ⟨nd, rfl⟩⟩; refine ⟨_, rfl, ?_⟩) | ((with_reducible refine gate_builtin (b := .append) (xs := #[.tmp 103, .tmp 105]) rfl ?_); at_builtin; refine Kd.R_append (Kd.int .i64) (w0 := w) w.heap.size rfl (.tmp 103) (.tmp 105) 58 2 (.int .i64 0) 8 rfl Tryd.underlying58 info2 rfl (by decide) (by omega) u10 x10_4 (rd x66_4 x68_4) [.int .i64 (rd x66_4 x68_4)] (fun k_ => some k_ ≠ (.slice (some ad343) x66_4.length co30 : Value).ownBlock) (fun _ => False) rfl rfl ?aP (fun _ hk => hk.elim) ?aF ?aO ?aB ?aS ?aL ?_; (case aP => exact rfl); (case aB => exact (by repeat (first | (with_reducible first | exact HB.out | apply below_alloc | apply pw_below_drewN | apply below_drew1) | exact HB.out))); (case aF => exact (fun k_ hk => Kd.fresh' (Kd.R_lt (by (with_reducible repeat (first | apply Kd.R_alloc | apply Kd.R_drewN | apply Kd.R_drew)); exact HO_66.out)) k_ hk)); (case aO => exact (by (with_reducible repeat (first | apply Kd.R_alloc | apply Kd.R_drewN | apply Kd.R_drew)); exact HO_10.out)); (case aS => exact (below_size (by repeat (first | (with_reducible first | exact HB.out | apply below_alloc | apply pw_below_drewN | apply below_drew1) | exact HB.out)))); (case aL => have := LMc65.out; omega); intro v355 w69 ho hb hg hat; rw [← Ny354.out] at ho; have n0_ := Aside0.mk (Kd.R_after (ok := (fun _ => True)) (by (with_reducible repeat (first | apply Kd.R_alloc | apply Kd.R_drewN | apply Kd.R_drew)); exact Kd.R_mono HO_66.out (fun _ hk => ⟨trivial, hk⟩)) hg hat); have n1_ := Aside0.mk (hb); have n2_ := Aside0.mk (ho); clear HO_66; clear HB; clear HO_10; have HO_66 := n0_; have HB := n1_; have HO356 := n2_; clear n0_ n1_ n2_; clear ho hb hg hat))
                  (try simp only [← hl66_4])
                  go_roundg k4
                  case measure => have := HK1.out; have := HK2.out; have := HJ28.out; have := HK4.out; omega
                  case rel => exact ⟨(y354), (x11_4), (t344), (x66_4), (wrap64 (x68_4 + 1)), (by first | rfl | (simp; done) | (simp [*]; done)), (by first | rfl | (simp; done) | (simp [*]; done)), (by first | rfl | (simp; done) | (simp [*]; done)), H', ⟨by have := HK1.out; have := HK2.out; have := HJ28.out; have := HK4.out; omega⟩, ⟨by (try simp only [hl66_4]); (with_reducible repeat (first | apply Kd.R_alloc | apply Kd.R_drewN | apply Kd.R_drew)); exact HO356.out⟩, ⟨by (try simp only [hl66_4]); (with_reducible repeat (first | apply Kd.R_alloc | apply Kd.R_drewN | apply Kd.R_drew)); exact Kd.R_mono HO_66.out (fun _ hk => hk.2)⟩, ⟨by repeat (first | (with_reducible first | exact HB.out | apply below_alloc | apply pw_below_drewN | apply below_drew1) | exact HB.out)⟩⟩
                ·rw [if_neg c65] at H
                 exact absurd H (by simp)
              ·rw [if_neg c35] at H
               exact absurd H (by simp)
             ·rw [if_neg c34] at H
              exact absurd H (by simp)
            ·rw [if_neg c33] at H
             have c33b0 : decide (x68_4 < (x5_2.length : Int)) = false := decide_eq_false c33
             simp only [hl66_4] at c33b0
             clear c33
             obtain rfl := Option.some.inj H
             go_wp2
             go_ret
             exact ⟨_, by first | rfl | (simp [errW_none, errW_some] <;> rfl) | (simp [*, errW_none, errW_some] <;> rfl), by (with_reducible repeat (first | apply Kd.R_alloc | apply Kd.R_drewN | apply Kd.R_drew)); exact Kd.R_mono HO_10.out (fun _ hk => trivial), by repeat (first | (with_reducible first | exact HB.out | apply below_alloc | apply pw_below_drewN | apply below_drew1) | exact HB.out)⟩

end Go.Proofs.YtnbedmihgnjdpaaDoor.PFnExactQuickCheck

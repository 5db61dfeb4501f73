-- Written by a program of this session (wip/tools/myprint.py) that runs the kit's print with hooks of its own. Lean checks it.
import Derived.Test.YtmlhnpggjkoinaaDoorPFnExactFewestWordsx0
import Derived.Test.YtmlhnpggjkoinaaDoorSlimMore
import Derived.Test.YtmlhnpggjkoinaaDoorPFnExactFewestWordsx5
namespace Go.Proofs.YtmlhnpggjkoinaaDoor.PFnExactFewestWords
open Go.RowKit Go.Proofs.YtmlhnpggjkoinaaDoorW.PrintWords Go.Proofs.YtmlhnpggjkoinaaDoorW.PrintLast Go.Proofs.YtmlhnpggjkoinaaDoorW.PrintMore
attribute [local go_sem] max2_int min2_int max_two min_two max_three min_three max_four min_four   -- for this text's walks alone
set_option linter.unusedVariables false
set_option linter.unusedSimpArgs false

/-! ### spec_l08Fewest: function 107 -/
mutual
def spec_l08Fewest.l0 : Nat → List ByteArray → ByteArray → Int → List Int → List Int → Int → List Int → List Int → Option (List Int)
  | 0, _, _, _, _, _, _, _, _ => none
  | k + 1, x0, x2, x7, x8, x9, x10, x196000, x196001 => if x10 ≥ 0 then (spec_l08Fewest.l1 k x0 x2 x7 x8 x9 x10 1 x196000 x196001) else (spec_l08Fewest.l2 k x7 x9 (([] : List Int)) 0)
def spec_l08Fewest.l1 : Nat → List ByteArray → ByteArray → Int → List Int → List Int → Int → Int → List Int → List Int → Option (List Int)
  | 0, _, _, _, _, _, _, _, _, _ => none
  | k + 1, x0, x2, x7, x8, x9, x10, x11, x196000, x196001 => if x11 ≤ 60 then (spec_l08Fewest.j2 k x0 x2 x7 x8 x9 x10 x11 (decide ((wrap64 (x10 + x11)) ≤ x7)) x196000 x196001) else (spec_l08Fewest.j2 k x0 x2 x7 x8 x9 x10 x11 false x196000 x196001)
def spec_l08Fewest.j2 : Nat → List ByteArray → ByteArray → Int → List Int → List Int → Int → Int → Bool → List Int → List Int → Option (List Int)
  | 0, _, _, _, _, _, _, _, _, _, _ => none
  | k + 1, x0, x2, x7, x8, x9, x10, x11, x38, x196000, x196001 => if x38 = true then (if 0 ≤ (wrap64 (x10 + x11)) then (if (wrap64 (x10 + x11)) < (x8.length : Int) then (if 0 ≤ x10 then (if x10 < (x196001.length : Int) then (if (wrap64 (x10 + x11)) < (x196001.length : Int) then (if 0 ≤ (rd x196001 x10) then (if (rd x196001 x10) ≤ (rd x196001 (wrap64 (x10 + x11))) then (if (rd x196001 (wrap64 (x10 + x11))) ≤ (x2.size : Int) then ((spec_l08Word.f k x0 (x2.extract ((rd x196001 x10) : Int).toNat ((rd x196001 (wrap64 (x10 + x11))) : Int).toNat)).bind fun t205 => (if t205 = true then (if x10 < (x9.length : Int) then (if (rd x9 x10) = 0 then (if x10 < (x8.length : Int) then (spec_l08Fewest.l1 k x0 x2 x7 (x8.set (x10 : Int).toNat (wrap64 ((rd x8 (wrap64 (x10 + x11))) + 2))) (x9.set (x10 : Int).toNat x11) x10 (wrap64 (x11 + 1)) x196000 x196001) else (none)) else (if x10 < (x8.length : Int) then (if (wrap64 ((rd x8 (wrap64 (x10 + x11))) + 2)) ≤ (rd x8 x10) then (spec_l08Fewest.l1 k x0 x2 x7 (x8.set (x10 : Int).toNat (wrap64 ((rd x8 (wrap64 (x10 + x11))) + 2))) (x9.set (x10 : Int).toNat x11) x10 (wrap64 (x11 + 1)) x196000 x196001) else (spec_l08Fewest.l1 k x0 x2 x7 x8 x9 x10 (wrap64 (x11 + 1)) x196000 x196001)) else (none))) else (none)) else (if x11 > 1 then (spec_l08Fewest.l1 k x0 x2 x7 x8 x9 x10 (wrap64 (x11 + 1)) x196000 x196001) else (if x10 < (x9.length : Int) then (if (rd x9 x10) = 0 then (if x10 < (x8.length : Int) then (spec_l08Fewest.l1 k x0 x2 x7 (x8.set (x10 : Int).toNat (wrap64 ((rd x8 (wrap64 (x10 + x11))) + 3))) (x9.set (x10 : Int).toNat x11) x10 (wrap64 (x11 + 1)) x196000 x196001) else (none)) else (if x10 < (x8.length : Int) then (if (wrap64 ((rd x8 (wrap64 (x10 + x11))) + 3)) ≤ (rd x8 x10) then (spec_l08Fewest.l1 k x0 x2 x7 (x8.set (x10 : Int).toNat (wrap64 ((rd x8 (wrap64 (x10 + x11))) + 3))) (x9.set (x10 : Int).toNat x11) x10 (wrap64 (x11 + 1)) x196000 x196001) else (spec_l08Fewest.l1 k x0 x2 x7 x8 x9 x10 (wrap64 (x11 + 1)) x196000 x196001)) else (none))) else (none))))) else (none)) else (none)) else (none)) else (none)) else (none)) else (none)) else (none)) else (none)) else (spec_l08Fewest.l0 k x0 x2 x7 x8 x9 (wrap64 (x10 - 1)) x196000 x196001)
def spec_l08Fewest.l2 : Nat → Int → List Int → List Int → Int → Option (List Int)
  | 0, _, _, _, _ => none
  | k + 1, x7, x9, x13, x14 => if x14 < x7 then (if 0 ≤ x14 then (if x14 < (x9.length : Int) then (if x13.length < 17592186044416 then (spec_l08Fewest.l2 k x7 x9 (x13 ++ [rd x9 x14]) (wrap64 (x14 + (rd x9 x14)))) else (none)) else (none)) else (none)) else (some x13)
end
def spec_l08Fewest.f (k : Nat) (l0 : List ByteArray) (l1_0 : List Int) (l1_1 : List Int) (a2 : ByteArray) : Option (List Int) := if 0 ≤ (wrap64 ((l1_0.length : Int) + 1)) then (if (wrap64 ((l1_0.length : Int) + 1) : Int).toNat ≤ 35184372088832 then (spec_l08Fewest.l0 k l0 a2 (l1_0.length : Int) (List.replicate (wrap64 ((l1_0.length : Int) + 1) : Int).toNat 0) (List.replicate (wrap64 ((l1_0.length : Int) + 1) : Int).toNat 0) (wrap64 ((l1_0.length : Int) - 1)) l1_0 l1_1) else (none)) else (none)
theorem spec_l08Fewest.mono_l : ∀ k, (∀ y0 y1 y2 y3 y4 y5 y6 y7, LeO (spec_l08Fewest.l0 k y0 y1 y2 y3 y4 y5 y6 y7) (spec_l08Fewest.l0 (k + 1) y0 y1 y2 y3 y4 y5 y6 y7)) ∧ (∀ y0 y1 y2 y3 y4 y5 y6 y7 y8, LeO (spec_l08Fewest.l1 k y0 y1 y2 y3 y4 y5 y6 y7 y8) (spec_l08Fewest.l1 (k + 1) y0 y1 y2 y3 y4 y5 y6 y7 y8)) ∧ (∀ y0 y1 y2 y3 y4 y5 y6 y7 y8 y9, LeO (spec_l08Fewest.j2 k y0 y1 y2 y3 y4 y5 y6 y7 y8 y9) (spec_l08Fewest.j2 (k + 1) y0 y1 y2 y3 y4 y5 y6 y7 y8 y9)) ∧ (∀ y0 y1 y2 y3, LeO (spec_l08Fewest.l2 k y0 y1 y2 y3) (spec_l08Fewest.l2 (k + 1) y0 y1 y2 y3))
  | 0 => ⟨fun _ _ _ _ _ _ _ _ r h => by simp [spec_l08Fewest.l0] at h, fun _ _ _ _ _ _ _ _ _ r h => by simp [spec_l08Fewest.l1] at h, fun _ _ _ _ _ _ _ _ _ _ r h => by simp [spec_l08Fewest.j2] at h, fun _ _ _ _ r h => by simp [spec_l08Fewest.l2] at h⟩
  | k + 1 => by
    obtain ⟨ih0, ih1, ih2, ih3⟩ := spec_l08Fewest.mono_l k
    refine ⟨?_, ?_, ?_, ?_⟩
    · intro y0 y1 y2 y3 y4 y5 y6 y7
      unfold spec_l08Fewest.l0
      repeat' first
      | (with_reducible exact ih0 _ _ _ _ _ _ _ _)
      | (with_reducible exact ih1 _ _ _ _ _ _ _ _ _)
      | (with_reducible exact ih2 _ _ _ _ _ _ _ _ _ _)
      | (with_reducible exact ih3 _ _ _ _)
      | (with_reducible exact spec_l08Word.mono _ _ _)
      | (with_reducible exact LeO.refl _)
      | (with_reducible exact LeO.none _)
      | (with_reducible refine LeO.ite ?_ ?_)
      | (with_reducible refine LeO.bind ?_ (fun _ => ?_))
      | exact ih0 _ _ _ _ _ _ _ _
      | exact ih1 _ _ _ _ _ _ _ _ _
      | exact ih2 _ _ _ _ _ _ _ _ _ _
      | exact ih3 _ _ _ _
      | exact spec_l08Word.mono _ _ _
      | exact LeO.none _
      | refine LeO.ite ?_ ?_
      | refine LeO.bind ?_ (fun _ => ?_)
    · intro y0 y1 y2 y3 y4 y5 y6 y7 y8
      unfold spec_l08Fewest.l1
      repeat' first
      | (with_reducible exact ih0 _ _ _ _ _ _ _ _)
      | (with_reducible exact ih1 _ _ _ _ _ _ _ _ _)
      | (with_reducible exact ih2 _ _ _ _ _ _ _ _ _ _)
      | (with_reducible exact ih3 _ _ _ _)
      | (with_reducible exact spec_l08Word.mono _ _ _)
      | (with_reducible exact LeO.refl _)
      | (with_reducible exact LeO.none _)
      | (with_reducible refine LeO.ite ?_ ?_)
      | (with_reducible refine LeO.bind ?_ (fun _ => ?_))
      | exact ih0 _ _ _ _ _ _ _ _
      | exact ih1 _ _ _ _ _ _ _ _ _
      | exact ih2 _ _ _ _ _ _ _ _ _ _
      | exact ih3 _ _ _ _
      | exact spec_l08Word.mono _ _ _
      | exact LeO.none _
      | refine LeO.ite ?_ ?_
      | refine LeO.bind ?_ (fun _ => ?_)
    · intro y0 y1 y2 y3 y4 y5 y6 y7 y8 y9
      unfold spec_l08Fewest.j2
      repeat' first
      | (with_reducible exact ih0 _ _ _ _ _ _ _ _)
      | (with_reducible exact ih1 _ _ _ _ _ _ _ _ _)
      | (with_reducible exact ih2 _ _ _ _ _ _ _ _ _ _)
      | (with_reducible exact ih3 _ _ _ _)
      | (with_reducible exact spec_l08Word.mono _ _ _)
      | (with_reducible exact LeO.refl _)
      | (with_reducible exact LeO.none _)
      | (with_reducible refine LeO.ite ?_ ?_)
      | (with_reducible refine LeO.bind ?_ (fun _ => ?_))
      | exact ih0 _ _ _ _ _ _ _ _
      | exact ih1 _ _ _ _ _ _ _ _ _
      | exact ih2 _ _ _ _ _ _ _ _ _ _
      | exact ih3 _ _ _ _
      | exact spec_l08Word.mono _ _ _
      | exact LeO.none _
      | refine LeO.ite ?_ ?_
      | refine LeO.bind ?_ (fun _ => ?_)
    · intro y0 y1 y2 y3
      unfold spec_l08Fewest.l2
      repeat' first
      | (with_reducible exact ih0 _ _ _ _ _ _ _ _)
      | (with_reducible exact ih1 _ _ _ _ _ _ _ _ _)
      | (with_reducible exact ih2 _ _ _ _ _ _ _ _ _ _)
      | (with_reducible exact ih3 _ _ _ _)
      | (with_reducible exact spec_l08Word.mono _ _ _)
      | (with_reducible exact LeO.refl _)
      | (with_reducible exact LeO.none _)
      | (with_reducible refine LeO.ite ?_ ?_)
      | (with_reducible refine LeO.bind ?_ (fun _ => ?_))
      | exact ih0 _ _ _ _ _ _ _ _
      | exact ih1 _ _ _ _ _ _ _ _ _
      | exact ih2 _ _ _ _ _ _ _ _ _ _
      | exact ih3 _ _ _ _
      | exact spec_l08Word.mono _ _ _
      | exact LeO.none _
      | refine LeO.ite ?_ ?_
      | refine LeO.bind ?_ (fun _ => ?_)
theorem spec_l08Fewest.mono : ∀ a0 a1 a2 a3 k, LeO (spec_l08Fewest.f k a0 a1 a2 a3) (spec_l08Fewest.f (k + 1) a0 a1 a2 a3) := by
  intro a0 a1 a2 a3 k
  obtain ⟨ih0, ih1, ih2, ih3⟩ := spec_l08Fewest.mono_l k
  unfold spec_l08Fewest.f
  repeat' first
      | (with_reducible exact ih0 _ _ _ _ _ _ _ _)
      | (with_reducible exact ih1 _ _ _ _ _ _ _ _ _)
      | (with_reducible exact ih2 _ _ _ _ _ _ _ _ _ _)
      | (with_reducible exact ih3 _ _ _ _)
      | (with_reducible exact spec_l08Word.mono _ _ _)
      | (with_reducible exact LeO.refl _)
      | (with_reducible exact LeO.none _)
      | (with_reducible refine LeO.ite ?_ ?_)
      | (with_reducible refine LeO.bind ?_ (fun _ => ?_))
      | exact ih0 _ _ _ _ _ _ _ _
      | exact ih1 _ _ _ _ _ _ _ _ _
      | exact ih2 _ _ _ _ _ _ _ _ _ _
      | exact ih3 _ _ _ _
      | exact spec_l08Word.mono _ _ _
      | exact LeO.none _
      | refine LeO.ite ?_ ?_
      | refine LeO.bind ?_ (fun _ => ?_)
set_option maxHeartbeats 8000000 in
set_option maxRecDepth 100000 in
theorem spec_l08Fewest.calls (k : Nat) (A0 : Option Addr) (c0 : Nat) (l0 : List ByteArray) (A1_0 : Option Addr) (c1_0 : Nat) (l1_0 : List Int) (A1_1 : Option Addr) (c1_1 : Nat) (l1_1 : List Int) (a2 : ByteArray) (r : List Int) (w : World) (hr0 : Kd.C Kd.string w A0 l0.length l0) (hc0 : l0.length ≤ c0) (hr1_0 : Kd.C (Kd.int .i64) w A1_0 l1_0.length l1_0) (hc1_0 : l1_0.length ≤ c1_0) (hr1_1 : Kd.C (Kd.int .i64) w A1_1 l1_1.length l1_1) (hc1_1 : l1_1.length ≤ c1_1) (h : spec_l08Fewest.f k l0 l1_0 l1_1 a2 = some r) :
    Calls Tryd.prog 107 #[.slice A0 l0.length c0, .agg #[.slice A1_0 l1_0.length c1_0, .slice A1_1 l1_1.length c1_1], .string a2] w fun e w' => ∃ v0_ : Value, e = .returned (v0_) ∧ Kd.R (Kd.int .i64) 3 w' w.heap.size (fun _ => True) v0_ r ∧ Below w.heap.size w w' := by
  have hu76 := Tryd.underlying76
  have HR0 := am hr0
  have HC0 := am hc0
  clear hr0 hc0
  have HR1_0 := am hr1_0
  have HC1_0 := am hc1_0
  clear hr1_0 hc1_0
  have HR1_1 := am hr1_1
  have HC1_1 := am hc1_1
  clear hr1_1 hc1_1
  have HB := am (Below.refl w.heap.size w)
  have H : (if 0 ≤ (wrap64 ((l1_0.length : Int) + 1)) then (if (wrap64 ((l1_0.length : Int) + 1) : Int).toNat ≤ 35184372088832 then (spec_l08Fewest.l0 k l0 a2 (l1_0.length : Int) (List.replicate (wrap64 ((l1_0.length : Int) + 1) : Int).toNat 0) (List.replicate (wrap64 ((l1_0.length : Int) + 1) : Int).toNat 0) (wrap64 ((l1_0.length : Int) - 1)) l1_0 l1_1) else (none)) else (none)) = some r := h
  clear h
  obtain ⟨ji4, hji4⟩ : ∃ j_ : Int, (wrap64 ((l1_0.length : Int) + 1)) = j_ := ⟨_, rfl⟩
  replace H : (if 0 ≤ (ji4) then (if (ji4 : Int).toNat ≤ 35184372088832 then (spec_l08Fewest.l0 k l0 a2 (l1_0.length : Int) (List.replicate (ji4 : Int).toNat 0) (List.replicate (ji4 : Int).toNat 0) (wrap64 ((l1_0.length : Int) - 1)) l1_0 l1_1) else (none)) else (none)) = some r := by first | (rw [hji4] at H; exact H) | (simp only [hji4] at H ⊢; exact H)
  have hji4w : (IntKind.i64.wrap ((l1_0.length : Int) + 1)) = ji4 := (i64_w _).trans hji4
  by_cases c5 : 0 ≤ (ji4)
  · rw [if_pos c5] at H
    have c5b0 := eq_true c5
    have c5b1 : decide (0 ≤ (ji4)) = true := decide_eq_true c5
    clear c5
    by_cases c6 : (ji4 : Int).toNat ≤ 35184372088832
    · rw [if_pos c6] at H
      have c6b0 := eq_true c6
      have c6b1 : decide ((ji4 : Int).toNat ≤ 35184372088832) = true := decide_eq_true c6
      clear c6
      obtain ⟨y196, hy196⟩ : ∃ y_ : List Int, y_ = (List.replicate (ji4 : Int).toNat 0) := ⟨_, rfl⟩
      replace H : (spec_l08Fewest.l0 k l0 a2 (l1_0.length : Int) y196 (List.replicate (ji4 : Int).toNat 0) (wrap64 ((l1_0.length : Int) - 1)) l1_0 l1_1) = some r := by first | (rw [hy196]; with_reducible exact H) | (have H2_ := (Option.bind_some _ _).symm.trans H; rw [hy196]; with_reducible exact H2_) | (have H2_ := (Option.bind_some _ _).symm.trans H; with_reducible exact H2_) | with_reducible exact H | (rw [hy196]; exact H) | exact H
      have Ny196 := am hy196
      clear hy196
      obtain ⟨y199, hy199⟩ : ∃ y_ : List Int, y_ = (List.replicate (ji4 : Int).toNat 0) := ⟨_, rfl⟩
      replace H : (spec_l08Fewest.l0 k l0 a2 (l1_0.length : Int) y196 y199 (wrap64 ((l1_0.length : Int) - 1)) l1_0 l1_1) = some r := by first | (rw [hy199]; with_reducible exact H) | (have H2_ := (Option.bind_some _ _).symm.trans H; rw [hy199]; with_reducible exact H2_) | (have H2_ := (Option.bind_some _ _).symm.trans H; with_reducible exact H2_) | with_reducible exact H | (rw [hy199]; exact H) | exact H
      have Ny199 := am hy199
      clear hy199
      have H' := am H
      clear H
      go_enter Tryd.func107, Tryd.ntmps107
      go_wp2_with (first | ((with_reducible refine gate_dst (N := 4) rfl ?_); refine bx 4 #[.slice A1_0 l1_0.length c1_0, .slice A1_1 l1_1.length c1_1] 76 ?_; intro gb195 hg w7 hbox hb; have BK195 := am (hbox); have GW195 := am ((by rw [hg]; exact (below_size bB) : w.heap.size ≤ gb195)); have GE195 := am ((by rw [hg]; exact (below_size bB) : w.heap.size ≤ gb195)); replace HB := am (below_step bB hb); clear hb hbox hg; have hcz8_0 := bc BK195.out 0 (.slice A1_0 l1_0.length c1_0); have hcz8_1 := bc BK195.out 1 (.slice A1_1 l1_1.length c1_1); have hfz8_0 := blk_frozen BK195.out 0; have hfz8_1 := blk_frozen BK195.out 1) | ((with_reducible refine gate_dst (N := 20) rfl ?_); refine Kd.R_make (Kd.int .i64) _ 3 rfl (N := 20) rfl 71 _ _ rfl ji4 rfl rfl Tryd.underlying71 (.int .i64 0) 8 info3 rfl (by decide) (by omega) 0 (ok := fun _ => True) (okp := fun _ => True) rfl (fun _ hk => hk) trivial (od) (Nat.le_trans (Nat.mul_le_mul_right _ (od : ji4.toNat ≤ 35184372088832)) (by omega)) (Below.refl _ _) (Nat.le_refl _) ?_; intro v197 w9 ho10 hb hg_ hnew_; clear hg_ hnew_; (first | rw [← Ny196.out] at ho10 | (simp only [Int.reduceToNat] at ho10; rw [← Ny196.out] at ho10)); have HO198 := am (Kd.R_lower ho10 (below_size bS)); replace BK195 := am (blk_below (g := gb195) (o := .cells #[.slice A1_0 l1_0.length c1_0, .slice A1_1 l1_1.length c1_1] 76 (0, 0)) (bk BK195.out) hb); replace HB := am (below_step bS hb); clear hb ho10) | ((with_reducible refine gate_dst (N := 23) rfl ?_); refine Kd.R_make (Kd.int .i64) _ 3 rfl (N := 23) rfl 71 _ _ rfl ji4 rfl rfl Tryd.underlying71 (.int .i64 0) 8 info3 rfl (by decide) (by omega) 0 (ok := fun _ => True) (okp := fun _ => True) rfl (fun _ hk => hk) trivial (od) (Nat.le_trans (Nat.mul_le_mul_right _ (od : ji4.toNat ≤ 35184372088832)) (by omega)) (Below.refl _ _) (Nat.le_refl _) ?_; intro v200 w11 ho12 hb hg_ hnew_; clear hg_ hnew_; (first | rw [← Ny199.out] at ho12 | (simp only [Int.reduceToNat] at ho12; rw [← Ny199.out] at ho12)); have HO201 := am (Kd.R_lower (Kd.R_new' ho12 (Kd.R_lt (kR HO198.out))) (below_size bS)); replace HO198 := am (Kd.R_elder' (kR HO198.out) (Kd.R_base ho12) hb); replace BK195 := am (blk_below (g := gb195) (o := .cells #[.slice A1_0 l1_0.length c1_0, .slice A1_1 l1_1.length c1_1] 76 (0, 0)) (bk BK195.out) hb); replace HB := am (below_step bS hb); clear hb ho12))
      repeat (go_quiet (first | ((with_reducible refine gate_dst (N := 4) rfl ?_); refine bx 4 #[.slice A1_0 l1_0.length c1_0, .slice A1_1 l1_1.length c1_1] 76 ?_; intro gb195 hg w7 hbox hb; have BK195 := am (hbox); have GW195 := am ((by rw [hg]; exact (below_size bB) : w.heap.size ≤ gb195)); have GE195 := am ((by rw [hg]; exact (below_size bB) : w.heap.size ≤ gb195)); replace HB := am (below_step bB hb); clear hb hbox hg; have hcz8_0 := bc BK195.out 0 (.slice A1_0 l1_0.length c1_0); have hcz8_1 := bc BK195.out 1 (.slice A1_1 l1_1.length c1_1); have hfz8_0 := blk_frozen BK195.out 0; have hfz8_1 := blk_frozen BK195.out 1) | ((with_reducible refine gate_dst (N := 20) rfl ?_); refine Kd.R_make (Kd.int .i64) _ 3 rfl (N := 20) rfl 71 _ _ rfl ji4 rfl rfl Tryd.underlying71 (.int .i64 0) 8 info3 rfl (by decide) (by omega) 0 (ok := fun _ => True) (okp := fun _ => True) rfl (fun _ hk => hk) trivial (od) (Nat.le_trans (Nat.mul_le_mul_right _ (od : ji4.toNat ≤ 35184372088832)) (by omega)) (Below.refl _ _) (Nat.le_refl _) ?_; intro v197 w9 ho10 hb hg_ hnew_; clear hg_ hnew_; (first | rw [← Ny196.out] at ho10 | (simp only [Int.reduceToNat] at ho10; rw [← Ny196.out] at ho10)); have HO198 := am (Kd.R_lower ho10 (below_size bS)); replace BK195 := am (blk_below (g := gb195) (o := .cells #[.slice A1_0 l1_0.length c1_0, .slice A1_1 l1_1.length c1_1] 76 (0, 0)) (bk BK195.out) hb); replace HB := am (below_step bS hb); clear hb ho10) | ((with_reducible refine gate_dst (N := 23) rfl ?_); refine Kd.R_make (Kd.int .i64) _ 3 rfl (N := 23) rfl 71 _ _ rfl ji4 rfl rfl Tryd.underlying71 (.int .i64 0) 8 info3 rfl (by decide) (by omega) 0 (ok := fun _ => True) (okp := fun _ => True) rfl (fun _ hk => hk) trivial (od) (Nat.le_trans (Nat.mul_le_mul_right _ (od : ji4.toNat ≤ 35184372088832)) (by omega)) (Below.refl _ _) (Nat.le_refl _) ?_; intro v200 w11 ho12 hb hg_ hnew_; clear hg_ hnew_; (first | rw [← Ny199.out] at ho12 | (simp only [Int.reduceToNat] at ho12; rw [← Ny199.out] at ho12)); have HO201 := am (Kd.R_lower (Kd.R_new' ho12 (Kd.R_lt (kR HO198.out))) (below_size bS)); replace HO198 := am (Kd.R_elder' (kR HO198.out) (Kd.R_base ho12) hb); replace BK195 := am (blk_below (g := gb195) (o := .cells #[.slice A1_0 l1_0.length c1_0, .slice A1_1 l1_1.length c1_1] 76 (0, 0)) (bk BK195.out) hb); replace HB := am (below_step bS hb); clear hb ho12)); try go_wp2_with (first | ((with_reducible refine gate_dst (N := 4) rfl ?_); refine bx 4 #[.slice A1_0 l1_0.length c1_0, .slice A1_1 l1_1.length c1_1] 76 ?_; intro gb195 hg w7 hbox hb; have BK195 := am (hbox); have GW195 := am ((by rw [hg]; exact (below_size bB) : w.heap.size ≤ gb195)); have GE195 := am ((by rw [hg]; exact (below_size bB) : w.heap.size ≤ gb195)); replace HB := am (below_step bB hb); clear hb hbox hg; have hcz8_0 := bc BK195.out 0 (.slice A1_0 l1_0.length c1_0); have hcz8_1 := bc BK195.out 1 (.slice A1_1 l1_1.length c1_1); have hfz8_0 := blk_frozen BK195.out 0; have hfz8_1 := blk_frozen BK195.out 1) | ((with_reducible refine gate_dst (N := 20) rfl ?_); refine Kd.R_make (Kd.int .i64) _ 3 rfl (N := 20) rfl 71 _ _ rfl ji4 rfl rfl Tryd.underlying71 (.int .i64 0) 8 info3 rfl (by decide) (by omega) 0 (ok := fun _ => True) (okp := fun _ => True) rfl (fun _ hk => hk) trivial (od) (Nat.le_trans (Nat.mul_le_mul_right _ (od : ji4.toNat ≤ 35184372088832)) (by omega)) (Below.refl _ _) (Nat.le_refl _) ?_; intro v197 w9 ho10 hb hg_ hnew_; clear hg_ hnew_; (first | rw [← Ny196.out] at ho10 | (simp only [Int.reduceToNat] at ho10; rw [← Ny196.out] at ho10)); have HO198 := am (Kd.R_lower ho10 (below_size bS)); replace BK195 := am (blk_below (g := gb195) (o := .cells #[.slice A1_0 l1_0.length c1_0, .slice A1_1 l1_1.length c1_1] 76 (0, 0)) (bk BK195.out) hb); replace HB := am (below_step bS hb); clear hb ho10) | ((with_reducible refine gate_dst (N := 23) rfl ?_); refine Kd.R_make (Kd.int .i64) _ 3 rfl (N := 23) rfl 71 _ _ rfl ji4 rfl rfl Tryd.underlying71 (.int .i64 0) 8 info3 rfl (by decide) (by omega) 0 (ok := fun _ => True) (okp := fun _ => True) rfl (fun _ hk => hk) trivial (od) (Nat.le_trans (Nat.mul_le_mul_right _ (od : ji4.toNat ≤ 35184372088832)) (by omega)) (Below.refl _ _) (Nat.le_refl _) ?_; intro v200 w11 ho12 hb hg_ hnew_; clear hg_ hnew_; (first | rw [← Ny199.out] at ho12 | (simp only [Int.reduceToNat] at ho12; rw [← Ny199.out] at ho12)); have HO201 := am (Kd.R_lower (Kd.R_new' ho12 (Kd.R_lt (kR HO198.out))) (below_size bS)); replace HO198 := am (Kd.R_elder' (kR HO198.out) (Kd.R_base ho12) hb); replace BK195 := am (blk_below (g := gb195) (o := .cells #[.slice A1_0 l1_0.length c1_0, .slice A1_1 l1_1.length c1_1] 76 (0, 0)) (bk BK195.out) hb); replace HB := am (below_step bS hb); clear hb ho12)))
      go_loopg [10] k (fun kq v10 w' => ∃ (x8_1 : List Int) (x9_1 : List Int) (x10_1 : Int), v10 = .int .i64 x10_1 ∧ Aside0 (spec_l08Fewest.l0 kq l0 a2 (l1_0.length : Int) x8_1 x9_1 x10_1 l1_0 l1_1 = some r) ∧ Aside0 (kq ≤ k) ∧ Aside0 (Kd.R (Kd.int .i64) 3 w' w.heap.size (fun k_ => some k_ ≠ (v200 : Value).ownBlock) v197 x8_1) ∧ Aside0 (Kd.R (Kd.int .i64) 3 w' w.heap.size (fun k_ => some k_ ≠ (v197 : Value).ownBlock) v200 x9_1) ∧ Aside0 (w'.heap[gb195]? = some (.cells #[(.slice A1_0 l1_0.length c1_0), (.slice A1_1 l1_1.length c1_1)] 76 (0, 0))) ∧ Aside0 (Below w.heap.size w w'))
      case atStart => exact ⟨(y196), (y199), (wrap64 ((l1_0.length : Int) - 1)), (by first | rfl | (simp; done) | (simp [*]; done)), H', ⟨Nat.le_refl _⟩, ⟨kR (Kd.R_mono HO198.out (fun _ hk => hk.2))⟩, ⟨kR (Kd.R_mono HO201.out (fun _ hk => hk.2))⟩, ⟨bk BK195.out⟩, ⟨bS⟩⟩
      case round =>
        clear H'
        try clear c1
        try clear p2
        try clear c5
        try clear c5b0
        try clear c5b1
        try clear c6
        try clear c6b0
        try clear c6b1
        try clear p6
        try clear c10
        try clear hcz8_0
        try clear hcz8_1
        try clear hfz8_0
        try clear hfz8_1
        obtain ⟨x8_1, x9_1, x10_1, rfl, HA, HK1, HO_8, HO_9, BK195, HB⟩ := hrel
        cases gk with
        | zero => exact absurd HA.out (by simp [spec_l08Fewest.l0])
        | succ k1 =>
          have H := HA.out
          clear HA
          simp only [spec_l08Fewest.l0] at H
          by_cases c13 : x10_1 ≥ 0
          · rw [if_pos c13] at H
            have c13b0 : decide (0 ≤ x10_1) = true := decide_eq_true c13
            clear c13
            have H' := am H
            clear H
            go_wp2
            repeat (go_quiet (fail); try go_wp2)
            go_loopg [11] k1 (fun kq v11 w' => ∃ (x8_2 : List Int) (x9_2 : List Int) (x11_2 : Int), v11 = .int .i64 x11_2 ∧ Aside0 (spec_l08Fewest.l1 kq l0 a2 (l1_0.length : Int) x8_2 x9_2 x10_1 x11_2 l1_0 l1_1 = some r) ∧ Aside0 (kq ≤ k1) ∧ Aside0 (Kd.R (Kd.int .i64) 3 w' w.heap.size (fun k_ => some k_ ≠ (v200 : Value).ownBlock) v197 x8_2) ∧ Aside0 (Kd.R (Kd.int .i64) 3 w' w.heap.size (fun k_ => some k_ ≠ (v197 : Value).ownBlock) v200 x9_2) ∧ Aside0 (w'.heap[gb195]? = some (.cells #[(.slice A1_0 l1_0.length c1_0), (.slice A1_1 l1_1.length c1_1)] 76 (0, 0))) ∧ Aside0 (Below w.heap.size w w'))
            case atStart => exact ⟨(x8_1), (x9_1), (1), (by first | rfl | (simp; done) | (simp [*]; done)), H', ⟨Nat.le_refl _⟩, ⟨kR HO_8.out⟩, ⟨kR HO_9.out⟩, ⟨bk BK195.out⟩, ⟨bS⟩⟩
            case round =>
              clear H'
              try clear c1
              try clear p2
              try clear c5
              try clear c5b0
              try clear c5b1
              try clear c6
              try clear c6b0
              try clear c6b1
              try clear p6
              try clear c10
              try clear c13
              try clear c13b0
              try clear hcz8_0
              try clear hcz8_1
              try clear hfz8_0
              try clear hfz8_1
              try clear p2
              try clear p6
              obtain ⟨x8_2, x9_2, x11_2, rfl, HA, HK2, HO_8, HO_9, BK195, HB⟩ := hrel
              cases gk with
              | zero => exact absurd HA.out (by simp [spec_l08Fewest.l1])
              | succ k2 =>
                have H := HA.out
                clear HA
                simp only [spec_l08Fewest.l1] at H
                have HC14 := am H
                clear H
                go_upto_region 8 with (fail)
                repeat (go_quiet (fail); go_upto_region 8 with (fail))
                go_cut [38] (fun v38 wc => ∃ (kq : Nat) (x38_13 : Bool), v38 = .bool x38_13 ∧ Aside0 (spec_l08Fewest.j2 kq l0 a2 (l1_0.length : Int) x8_2 x9_2 x10_1 x11_2 x38_13 l1_0 l1_1 = some r) ∧ Aside0 (kq ≤ k2) ∧ Aside0 (Kd.R (Kd.int .i64) 3 wc w.heap.size (fun k_ => some k_ ≠ (v200 : Value).ownBlock) v197 x8_2) ∧ Aside0 (Kd.R (Kd.int .i64) 3 wc w.heap.size (fun k_ => some k_ ≠ (v197 : Value).ownBlock) v200 x9_2) ∧ Aside0 (wc.heap[gb195]? = some (.cells #[(.slice A1_0 l1_0.length c1_0), (.slice A1_1 l1_1.length c1_1)] 76 (0, 0))) ∧ Aside0 (Below w.heap.size w wc))
                case first =>
                  have H := HC14.out
                  clear HC14
                  by_cases c15 : x11_2 ≤ 60
                  · rw [if_pos c15] at H
                    have c15b0 : decide (x11_2 ≤ 60) = true := decide_eq_true c15
                    clear c15
                    (first | rw [c15b0] | (simp only [i64_w, i32_w]; rw [c15b0]) | skip)
                    have H' := am H
                    clear H
                    go_wp2
                    repeat (go_quiet (fail); try go_wp2)
                    go_meet
                    case rel => exact ⟨_, (decide ((wrap64 (x10_1 + x11_2)) ≤ (l1_0.length : Int))), (by first | rfl | (simp; done) | (simp [*]; done)), H', ⟨by have := HK1.out; have := HK2.out; first | omega | exact Nat.le_refl _⟩, ⟨kR HO_8.out⟩, ⟨kR HO_9.out⟩, ⟨bk BK195.out⟩, ⟨bS⟩⟩
                  · rw [if_neg c15] at H
                    have c15b0 : decide (x11_2 ≤ 60) = false := decide_eq_false c15
                    clear c15
                    (first | rw [c15b0] | (simp only [i64_w, i32_w]; rw [c15b0]) | skip)
                    have H' := am H
                    clear H
                    go_wp2
                    repeat (go_quiet (fail); try go_wp2)
                    go_meet
                    case rel => exact ⟨_, (false), (by first | rfl | (simp; done) | (simp [*]; done)), H', ⟨by have := HK1.out; have := HK2.out; first | omega | exact Nat.le_refl _⟩, ⟨kR HO_8.out⟩, ⟨kR HO_9.out⟩, ⟨bk BK195.out⟩, ⟨bS⟩⟩
                case rest =>
                  clear HC14
                  try clear c1
                  try clear p2
                  try clear c5
                  try clear c5b0
                  try clear c5b1
                  try clear c6
                  try clear c6b0
                  try clear c6b1
                  try clear p6
                  try clear c10
                  try clear c13
                  try clear c13b0
                  try clear c15
                  try clear c15b0
                  try clear hcz8_0
                  try clear hcz8_1
                  try clear hfz8_0
                  try clear hfz8_1
                  try clear p2
                  try clear p6
                  obtain ⟨kq, x38_13, rfl, HA, HJ13, HO_8, HO_9, BK195, HB⟩ := hcut
                  cases kq with
                  | zero => exact absurd HA.out (by simp [spec_l08Fewest.j2])
                  | succ kj13 =>
                    have H := HA.out
                    clear HA
                    simp only [spec_l08Fewest.j2] at H
                    by_cases c16 : x38_13 = true
                    · subst c16
                      have H1 : (if 0 ≤ (wrap64 (x10_1 + x11_2)) then (if (wrap64 (x10_1 + x11_2)) < (x8_2.length : Int) then (if 0 ≤ x10_1 then (if x10_1 < (l1_1.length : Int) then (if (wrap64 (x10_1 + x11_2)) < (l1_1.length : Int) then (if 0 ≤ (rd l1_1 x10_1) then (if (rd l1_1 x10_1) ≤ (rd l1_1 (wrap64 (x10_1 + x11_2))) then (if (rd l1_1 (wrap64 (x10_1 + x11_2))) ≤ (a2.size : Int) then ((spec_l08Word.f kj13 l0 (a2.extract ((rd l1_1 x10_1) : Int).toNat ((rd l1_1 (wrap64 (x10_1 + x11_2))) : Int).toNat)).bind fun t205 => (if t205 = true then (if x10_1 < (x9_2.length : Int) then (if (rd x9_2 x10_1) = 0 then (if x10_1 < (x8_2.length : Int) then (spec_l08Fewest.l1 kj13 l0 a2 (l1_0.length : Int) (x8_2.set (x10_1 : Int).toNat (wrap64 ((rd x8_2 (wrap64 (x10_1 + x11_2))) + 2))) (x9_2.set (x10_1 : Int).toNat x11_2) x10_1 (wrap64 (x11_2 + 1)) l1_0 l1_1) else (none)) else (if x10_1 < (x8_2.length : Int) then (if (wrap64 ((rd x8_2 (wrap64 (x10_1 + x11_2))) + 2)) ≤ (rd x8_2 x10_1) then (spec_l08Fewest.l1 kj13 l0 a2 (l1_0.length : Int) (x8_2.set (x10_1 : Int).toNat (wrap64 ((rd x8_2 (wrap64 (x10_1 + x11_2))) + 2))) (x9_2.set (x10_1 : Int).toNat x11_2) x10_1 (wrap64 (x11_2 + 1)) l1_0 l1_1) else (spec_l08Fewest.l1 kj13 l0 a2 (l1_0.length : Int) x8_2 x9_2 x10_1 (wrap64 (x11_2 + 1)) l1_0 l1_1)) else (none))) else (none)) else (if x11_2 > 1 then (spec_l08Fewest.l1 kj13 l0 a2 (l1_0.length : Int) x8_2 x9_2 x10_1 (wrap64 (x11_2 + 1)) l1_0 l1_1) else (if x10_1 < (x9_2.length : Int) then (if (rd x9_2 x10_1) = 0 then (if x10_1 < (x8_2.length : Int) then (spec_l08Fewest.l1 kj13 l0 a2 (l1_0.length : Int) (x8_2.set (x10_1 : Int).toNat (wrap64 ((rd x8_2 (wrap64 (x10_1 + x11_2))) + 3))) (x9_2.set (x10_1 : Int).toNat x11_2) x10_1 (wrap64 (x11_2 + 1)) l1_0 l1_1) else (none)) else (if x10_1 < (x8_2.length : Int) then (if (wrap64 ((rd x8_2 (wrap64 (x10_1 + x11_2))) + 3)) ≤ (rd x8_2 x10_1) then (spec_l08Fewest.l1 kj13 l0 a2 (l1_0.length : Int) (x8_2.set (x10_1 : Int).toNat (wrap64 ((rd x8_2 (wrap64 (x10_1 + x11_2))) + 3))) (x9_2.set (x10_1 : Int).toNat x11_2) x10_1 (wrap64 (x11_2 + 1)) l1_0 l1_1) else (spec_l08Fewest.l1 kj13 l0 a2 (l1_0.length : Int) x8_2 x9_2 x10_1 (wrap64 (x11_2 + 1)) l1_0 l1_1)) else (none))) else (none))))) else (none)) else (none)) else (none)) else (none)) else (none)) else (none)) else (none)) else (none)) = some r := by rw [if_pos rfl] at H; exact H
                      clear H
                      have H := H1
                      clear H1
                      obtain ⟨ji17, hji17⟩ : ∃ j_ : Int, (wrap64 (x10_1 + x11_2)) = j_ := ⟨_, rfl⟩
                      replace H : (if 0 ≤ (ji17) then (if (ji17) < (x8_2.length : Int) then (if 0 ≤ x10_1 then (if x10_1 < (l1_1.length : Int) then (if (ji17) < (l1_1.length : Int) then (if 0 ≤ (rd l1_1 x10_1) then (if (rd l1_1 x10_1) ≤ (rd l1_1 (ji17)) then (if (rd l1_1 (ji17)) ≤ (a2.size : Int) then ((spec_l08Word.f kj13 l0 (a2.extract ((rd l1_1 x10_1) : Int).toNat ((rd l1_1 (ji17)) : Int).toNat)).bind fun t205 => (if t205 = true then (if x10_1 < (x9_2.length : Int) then (if (rd x9_2 x10_1) = 0 then (if x10_1 < (x8_2.length : Int) then (spec_l08Fewest.l1 kj13 l0 a2 (l1_0.length : Int) (x8_2.set (x10_1 : Int).toNat (wrap64 ((rd x8_2 (ji17)) + 2))) (x9_2.set (x10_1 : Int).toNat x11_2) x10_1 (wrap64 (x11_2 + 1)) l1_0 l1_1) else (none)) else (if x10_1 < (x8_2.length : Int) then (if (wrap64 ((rd x8_2 (ji17)) + 2)) ≤ (rd x8_2 x10_1) then (spec_l08Fewest.l1 kj13 l0 a2 (l1_0.length : Int) (x8_2.set (x10_1 : Int).toNat (wrap64 ((rd x8_2 (ji17)) + 2))) (x9_2.set (x10_1 : Int).toNat x11_2) x10_1 (wrap64 (x11_2 + 1)) l1_0 l1_1) else (spec_l08Fewest.l1 kj13 l0 a2 (l1_0.length : Int) x8_2 x9_2 x10_1 (wrap64 (x11_2 + 1)) l1_0 l1_1)) else (none))) else (none)) else (if x11_2 > 1 then (spec_l08Fewest.l1 kj13 l0 a2 (l1_0.length : Int) x8_2 x9_2 x10_1 (wrap64 (x11_2 + 1)) l1_0 l1_1) else (if x10_1 < (x9_2.length : Int) then (if (rd x9_2 x10_1) = 0 then (if x10_1 < (x8_2.length : Int) then (spec_l08Fewest.l1 kj13 l0 a2 (l1_0.length : Int) (x8_2.set (x10_1 : Int).toNat (wrap64 ((rd x8_2 (ji17)) + 3))) (x9_2.set (x10_1 : Int).toNat x11_2) x10_1 (wrap64 (x11_2 + 1)) l1_0 l1_1) else (none)) else (if x10_1 < (x8_2.length : Int) then (if (wrap64 ((rd x8_2 (ji17)) + 3)) ≤ (rd x8_2 x10_1) then (spec_l08Fewest.l1 kj13 l0 a2 (l1_0.length : Int) (x8_2.set (x10_1 : Int).toNat (wrap64 ((rd x8_2 (ji17)) + 3))) (x9_2.set (x10_1 : Int).toNat x11_2) x10_1 (wrap64 (x11_2 + 1)) l1_0 l1_1) else (spec_l08Fewest.l1 kj13 l0 a2 (l1_0.length : Int) x8_2 x9_2 x10_1 (wrap64 (x11_2 + 1)) l1_0 l1_1)) else (none))) else (none))))) else (none)) else (none)) else (none)) else (none)) else (none)) else (none)) else (none)) else (none)) = some r := by first | (rw [hji17] at H; exact H) | (simp only [hji17] at H ⊢; exact H)
                      have hji17w : (IntKind.i64.wrap (x10_1 + x11_2)) = ji17 := (i64_w _).trans hji17
                      by_cases c18 : 0 ≤ (ji17)
                      · rw [if_pos c18] at H
                        have c18b0 : decide (0 ≤ (ji17)) = true := decide_eq_true c18
                        clear c18
                        by_cases c19 : (ji17) < (x8_2.length : Int)
                        · rw [if_pos c19] at H
                          have c19b0 : decide ((ji17) < (x8_2.length : Int)) = true := decide_eq_true c19
                          clear c19
                          by_cases c20 : 0 ≤ x10_1
                          · rw [if_pos c20] at H
                            have c20b0 : decide (0 ≤ x10_1) = true := decide_eq_true c20
                            clear c20
                            by_cases c21 : x10_1 < (l1_1.length : Int)
                            · rw [if_pos c21] at H
                              have c21b0 : decide (x10_1 < (l1_1.length : Int)) = true := decide_eq_true c21
                              clear c21
                              by_cases c22 : (ji17) < (l1_1.length : Int)
                              · rw [if_pos c22] at H
                                have c22b0 : decide ((ji17) < (l1_1.length : Int)) = true := decide_eq_true c22
                                clear c22
                                by_cases c23 : 0 ≤ (rd l1_1 x10_1)
                                · rw [if_pos c23] at H
                                  have c23b0 := eq_true c23
                                  have c23b1 : decide (0 ≤ (rd l1_1 x10_1)) = true := decide_eq_true c23
                                  clear c23
                                  by_cases c24 : (rd l1_1 x10_1) ≤ (rd l1_1 (ji17))
                                  · rw [if_pos c24] at H
                                    have c24b0 := eq_true c24
                                    have c24b1 : decide ((rd l1_1 x10_1) ≤ (rd l1_1 (ji17))) = true := decide_eq_true c24
                                    clear c24
                                    by_cases c25 : (rd l1_1 (ji17)) ≤ (a2.size : Int)
                                    · rw [if_pos c25] at H
                                      have c25b0 := eq_true c25
                                      have c25b1 : decide ((rd l1_1 (ji17)) ≤ (a2.size : Int)) = true := decide_eq_true c25
                                      clear c25
                                      replace H := Option.bind_eq_some_iff.mp H
                                      obtain ⟨t205, A260, H⟩ := H
                                      replace H : (if t205 = true then (if x10_1 < (x9_2.length : Int) then (if (rd x9_2 x10_1) = 0 then (if x10_1 < (x8_2.length : Int) then (spec_l08Fewest.l1 kj13 l0 a2 (l1_0.length : Int) (x8_2.set (x10_1 : Int).toNat (wrap64 ((rd x8_2 (ji17)) + 2))) (x9_2.set (x10_1 : Int).toNat x11_2) x10_1 (wrap64 (x11_2 + 1)) l1_0 l1_1) else (none)) else (if x10_1 < (x8_2.length : Int) then (if (wrap64 ((rd x8_2 (ji17)) + 2)) ≤ (rd x8_2 x10_1) then (spec_l08Fewest.l1 kj13 l0 a2 (l1_0.length : Int) (x8_2.set (x10_1 : Int).toNat (wrap64 ((rd x8_2 (ji17)) + 2))) (x9_2.set (x10_1 : Int).toNat x11_2) x10_1 (wrap64 (x11_2 + 1)) l1_0 l1_1) else (spec_l08Fewest.l1 kj13 l0 a2 (l1_0.length : Int) x8_2 x9_2 x10_1 (wrap64 (x11_2 + 1)) l1_0 l1_1)) else (none))) else (none)) else (if x11_2 > 1 then (spec_l08Fewest.l1 kj13 l0 a2 (l1_0.length : Int) x8_2 x9_2 x10_1 (wrap64 (x11_2 + 1)) l1_0 l1_1) else (if x10_1 < (x9_2.length : Int) then (if (rd x9_2 x10_1) = 0 then (if x10_1 < (x8_2.length : Int) then (spec_l08Fewest.l1 kj13 l0 a2 (l1_0.length : Int) (x8_2.set (x10_1 : Int).toNat (wrap64 ((rd x8_2 (ji17)) + 3))) (x9_2.set (x10_1 : Int).toNat x11_2) x10_1 (wrap64 (x11_2 + 1)) l1_0 l1_1) else (none)) else (if x10_1 < (x8_2.length : Int) then (if (wrap64 ((rd x8_2 (ji17)) + 3)) ≤ (rd x8_2 x10_1) then (spec_l08Fewest.l1 kj13 l0 a2 (l1_0.length : Int) (x8_2.set (x10_1 : Int).toNat (wrap64 ((rd x8_2 (ji17)) + 3))) (x9_2.set (x10_1 : Int).toNat x11_2) x10_1 (wrap64 (x11_2 + 1)) l1_0 l1_1) else (spec_l08Fewest.l1 kj13 l0 a2 (l1_0.length : Int) x8_2 x9_2 x10_1 (wrap64 (x11_2 + 1)) l1_0 l1_1)) else (none))) else (none)))) = some r := H
                                      have A26 := am A260
                                      clear A260
                                      by_cases c27 : t205 = true
                                      · subst c27
                                        have H1 : (if x10_1 < (x9_2.length : Int) then (if (rd x9_2 x10_1) = 0 then (if x10_1 < (x8_2.length : Int) then (spec_l08Fewest.l1 kj13 l0 a2 (l1_0.length : Int) (x8_2.set (x10_1 : Int).toNat (wrap64 ((rd x8_2 (ji17)) + 2))) (x9_2.set (x10_1 : Int).toNat x11_2) x10_1 (wrap64 (x11_2 + 1)) l1_0 l1_1) else (none)) else (if x10_1 < (x8_2.length : Int) then (if (wrap64 ((rd x8_2 (ji17)) + 2)) ≤ (rd x8_2 x10_1) then (spec_l08Fewest.l1 kj13 l0 a2 (l1_0.length : Int) (x8_2.set (x10_1 : Int).toNat (wrap64 ((rd x8_2 (ji17)) + 2))) (x9_2.set (x10_1 : Int).toNat x11_2) x10_1 (wrap64 (x11_2 + 1)) l1_0 l1_1) else (spec_l08Fewest.l1 kj13 l0 a2 (l1_0.length : Int) x8_2 x9_2 x10_1 (wrap64 (x11_2 + 1)) l1_0 l1_1)) else (none))) else (none)) = some r := by rw [if_pos rfl] at H; exact H
                                        clear H
                                        have H := H1
                                        clear H1
                                        by_cases c28 : x10_1 < (x9_2.length : Int)
                                        · rw [if_pos c28] at H
                                          have c28b0 : decide (x10_1 < (x9_2.length : Int)) = true := decide_eq_true c28
                                          clear c28
                                          by_cases c29 : (rd x9_2 x10_1) = 0
                                          · rw [if_pos c29] at H
                                            have c29b0 : ((rd x9_2 x10_1) == 0) = true := beq_iff_eq.mpr c29
                                            have c29b1 : ((rd x9_2 x10_1) != 0) = false := bne_eq_false_iff_eq.mpr c29
                                            clear c29
                                            by_cases c30 : x10_1 < (x8_2.length : Int)
                                            · rw [if_pos c30] at H
                                              have c30b0 : decide (x10_1 < (x8_2.length : Int)) = true := decide_eq_true c30
                                              clear c30
                                              obtain ⟨y208, hy208⟩ : ∃ y_ : List Int, y_ = (x8_2.set (x10_1 : Int).toNat (wrap64 ((rd x8_2 (ji17)) + 2))) := ⟨_, rfl⟩
                                              replace H : (spec_l08Fewest.l1 kj13 l0 a2 (l1_0.length : Int) y208 (x9_2.set (x10_1 : Int).toNat x11_2) x10_1 (wrap64 (x11_2 + 1)) l1_0 l1_1) = some r := by first | (rw [hy208]; with_reducible exact H) | (have H2_ := (Option.bind_some _ _).symm.trans H; rw [hy208]; with_reducible exact H2_) | (have H2_ := (Option.bind_some _ _).symm.trans H; with_reducible exact H2_) | with_reducible exact H | (rw [hy208]; exact H) | exact H
                                              have Ny208 := am hy208
                                              clear hy208
                                              obtain ⟨y209, hy209⟩ : ∃ y_ : List Int, y_ = (x9_2.set (x10_1 : Int).toNat x11_2) := ⟨_, rfl⟩
                                              replace H : (spec_l08Fewest.l1 kj13 l0 a2 (l1_0.length : Int) y208 y209 x10_1 (wrap64 (x11_2 + 1)) l1_0 l1_1) = some r := by first | (rw [hy209]; with_reducible exact H) | (have H2_ := (Option.bind_some _ _).symm.trans H; rw [hy209]; with_reducible exact H2_) | (have H2_ := (Option.bind_some _ _).symm.trans H; with_reducible exact H2_) | with_reducible exact H | (rw [hy209]; exact H) | exact H
                                              have Ny209 := am hy209
                                              clear hy209
                                              have H' := am H
                                              clear H
                                              obtain ⟨Ao33, co33, eo33⟩ := Kd.R_slice HO_8.out
                                              subst eo33
                                              have p202 : 0 ≤ ((ji17) : Int) := od
                                              have q202 : (ji17) < (x8_2.length : Int) := od
                                              obtain ⟨ad202, e202, hx202_0⟩ := Kd.at_int (Kd.R_reads' HO_8.out).2.2 (ji17) p202 q202
                                              cases e202
                                              replace p202 := eq_true p202
                                              replace q202 := eq_true q202
                                              have hcz34_0 := bc BK195.out 0 (.slice A1_0 l1_0.length c1_0)
                                              have hcz34_1 := bc BK195.out 1 (.slice A1_1 l1_1.length c1_1)
                                              have hfz34_0 := blk_frozen BK195.out 0
                                              have hfz34_1 := blk_frozen BK195.out 1
                                              have p203 : 0 ≤ (x10_1 : Int) := od
                                              have q203 : x10_1 < (l1_1.length : Int) := od
                                              obtain ⟨ad203, e203, hx203_0⟩ := Kd.at_int HR1_1.out x10_1 p203 q203
                                              cases e203
                                              replace hx203_0 := (HB.out.cell (World.block_lt_of_cell? w _ hx203_0)).trans hx203_0
                                              replace p203 := eq_true p203
                                              replace q203 := eq_true q203
                                              have p204 : 0 ≤ ((ji17) : Int) := od
                                              have q204 : (ji17) < (l1_1.length : Int) := od
                                              obtain ⟨ad204, e204, hx204_0⟩ := Kd.at_int HR1_1.out (ji17) p204 q204
                                              obtain rfl : ad203 = ad204 := (by injection e204)
                                              replace hx204_0 := (HB.out.cell (World.block_lt_of_cell? w _ hx204_0)).trans hx204_0
                                              replace p204 := eq_true p204
                                              replace q204 := eq_true q204
                                              go_wp2_with (first | (go_at_call 127; (with_reducible refine (spec_l08Word.calls kj13 _ _ l0 (a2.extract ((rd l1_1 x10_1) : Int).toNat ((rd l1_1 (ji17)) : Int).toNat) true _ ?side1 ?side2 A26.out).mono ?_); (case side1 => exact cC (Kd.C_below HR0.out HB.out)); (case side2 => exact HC0.out); rintro e w' ⟨rfl, ⟨nd, rfl⟩⟩; (try first | exact ⟨rfl, _, World.drewN_drewN _ _ _⟩ | exact ⟨rfl, _, Eq.trans (World.drewN_drewN _ _ _) (congrArg (World.drewN _) (Nat.add_assoc _ _ _))⟩); have p206 : 0 ≤ ((ji17) : Int) := od; have q206 : (ji17) < (x8_2.length : Int) := od; obtain ⟨ad206, e206, hx206_0⟩ := Kd.at_int (Kd.R_reads' HO_8.out).2.2 (ji17) p206 q206; obtain rfl : ad202 = ad206 := (by injection e206); replace p206 := eq_true p206; replace q206 := eq_true q206; obtain ⟨Ao35, co35, eo35⟩ := Kd.R_slice HO_9.out; subst eo35; have p207 : 0 ≤ (x10_1 : Int) := od; have q207 : x10_1 < (x9_2.length : Int) := od; obtain ⟨ad207, e207, hx207_0⟩ := Kd.at_int (Kd.R_reads' HO_9.out).2.2 x10_1 p207 q207; cases e207; replace p207 := eq_true p207; replace q207 := eq_true q207; have p31 : 0 ≤ (x10_1 : Int) := od; have q31 : (x10_1 : Int) < ((x8_2.length : Int) : Int) := od; obtain ⟨go31, co31, eo31, gb31, gl31, cl31, HG31⟩ := Kd.R_form HO_8.out (by omega); (first | cases eo31 | (injection eo31 with ea_ en_ ec_; (first | subst ea_ | (injection ea_ with ea_; subst ea_)); subst ec_; clear en_)); have GB31 := am gb31; have GG31 := am HG31; clear gb31 gl31 HG31; (first | simp only [add_plain] at hx202_0 | skip); (first | simp only [add_plain] at hx206_0 | skip); obtain ⟨hx31_0, hf31_0⟩ := Kd.R_celln 0 HO_8.out (x10_1 : Int) p31 q31; replace p31 := eq_true p31; replace q31 := eq_true q31; obtain ⟨hy36_, hz36_⟩ := Kd.R_celln 0 HO_8.out (x10_1 : Int) (od) (od); have HP36 := Kd.R_putg HO_8.out (x10_1 : Int) (wrap64 ((rd x8_2 (ji17)) + 2))) | ((with_reducible refine gate_store (t := 3) (p := 89) rfl ?_); (try (rw [drewN_self wc]; generalize hq_ : World.drewN wc _ = wc; have n0_ := am (Kd.R_at hq_ HO_8.out); have n1_ := am (Kd.R_at hq_ HO_9.out); have n2_ := am (blk_at hq_ BK195.out); have n3_ := am (below_at hq_ HB.out); clear hq_ HO_8 HO_9 BK195 HB; have HO_8 := n0_; have HO_9 := n1_; have BK195 := n2_; have HB := n3_; clear n0_ n1_ n2_ n3_; (try (obtain ⟨hy36_, hz36_⟩ := Kd.R_celln 0 HO_8.out (x10_1 : Int) (od) (od))); (try (have HP36 := Kd.R_putg HO_8.out (x10_1 : Int) (wrap64 ((rd x8_2 (ji17)) + 2)))))); refine store_event (t := 3) (p := 89) (v := ?vo_w37) (w1 := (wc.setCell ⟨go31, (x10_1 : Int).toNat, none⟩ (.int .i64 (wrap64 ((rd x8_2 (ji17)) + 2))))) ?hg ?ho ?hn ?hr ?_; (case ho => rfl); (case hg => rfl); (case hn => rfl); (case hr => first | (go_simp; done) | (go_simp; rfl)); intro w37 hw; have hg : wc.grownBy w37 (some go31) := (by rw [hw]; exact HP36.2); have hp_ : Kd.R (Kd.int .i64) 3 w37 w.heap.size (fun k_ => some k_ ≠ (.slice (some ad207) x9_2.length co35 : Value).ownBlock) (.slice (some ⟨go31, 0, none⟩) x8_2.length co33) y208 := (by rw [hw, Ny208.out]; exact HP36.1); clear HP36; replace HO_9 := am (Kd.R_after (v := (.slice (some ⟨go31, 0, none⟩) x8_2.length co33)) (v1 := (.slice (some ⟨go31, 0, none⟩) x8_2.length co33)) (ok := (fun _ => True)) (kR (Kd.R_mono HO_9.out (fun _ hk => ⟨trivial, hk⟩))) hg (.inl rfl)); replace BK195 := am (blk_grown (g := gb195) (o := .cells #[.slice A1_0 l1_0.length c1_0, .slice (some ad203) l1_1.length c1_1] 76 (0, 0)) (bk BK195.out) hg (Kd.R_ne HO_8.out BK195.out (by decide))); replace HO_8 := am (hp_); replace HB := am ((by rw [hw]; exact below_set (HB.out) GB31.out : Below w.heap.size w w37)); clear hg hw hp_; have p32 : 0 ≤ (x10_1 : Int) := od; have q32 : (x10_1 : Int) < ((x9_2.length : Int) : Int) := od; obtain ⟨go32, co32, eo32, gb32, gl32, cl32, HG32⟩ := Kd.R_form HO_9.out (by omega); (first | cases eo32 | (injection eo32 with ea_ en_ ec_; (first | subst ea_ | (injection ea_ with ea_; subst ea_)); subst ec_; clear en_)); have GB32 := am gb32; have GG32 := am HG32; clear gb32 gl32 HG32; (first | simp only [add_plain] at hx207_0 | skip); obtain ⟨hx32_0, hf32_0⟩ := Kd.R_celln 0 HO_9.out (x10_1 : Int) p32 q32; replace p32 := eq_true p32; replace q32 := eq_true q32; have n_ := am (Kd.R_mono (ok' := (fun k_ => some k_ ≠ (.slice (some ⟨go31, 0, none⟩) x8_2.length co33 : Value).ownBlock)) HO_9.out (fun k_ hk => hk.2)); clear HO_9; have HO_9 := n_; clear n_; obtain ⟨hy38_, hz38_⟩ := Kd.R_celln 0 HO_9.out (x10_1 : Int) (od) (od); have HP38 := Kd.R_putg HO_9.out (x10_1 : Int) x11_2) | ((with_reducible refine gate_store (t := 3) (p := 93) rfl ?_); (try (rw [drewN_self w37]; generalize hq_ : World.drewN w37 _ = w37; have n0_ := am (Kd.R_at hq_ HO_8.out); have n1_ := am (Kd.R_at hq_ HO_9.out); have n2_ := am (blk_at hq_ BK195.out); have n3_ := am (below_at hq_ HB.out); clear hq_ HO_8 HO_9 BK195 HB; have HO_8 := n0_; have HO_9 := n1_; have BK195 := n2_; have HB := n3_; clear n0_ n1_ n2_ n3_; (try (have n_ := am (Kd.R_mono (ok' := (fun k_ => some k_ ≠ (.slice (some ⟨go31, 0, none⟩) x8_2.length co33 : Value).ownBlock)) HO_9.out (fun k_ hk => hk.2)); clear HO_9; have HO_9 := n_; clear n_)); (try (obtain ⟨hy38_, hz38_⟩ := Kd.R_celln 0 HO_9.out (x10_1 : Int) (od) (od))); (try (have HP38 := Kd.R_putg HO_9.out (x10_1 : Int) x11_2)))); refine store_event (t := 3) (p := 93) (v := ?vo_w39) (w1 := (w37.setCell ⟨go32, (x10_1 : Int).toNat, none⟩ (.int .i64 x11_2))) ?hg ?ho ?hn ?hr ?_; (case ho => rfl); (case hg => rfl); (case hn => rfl); (case hr => first | (go_simp; done) | (go_simp; rfl)); intro w39 hw; have hg : w37.grownBy w39 (some go32) := (by rw [hw]; exact HP38.2); have hp_ : Kd.R (Kd.int .i64) 3 w39 w.heap.size (fun k_ => some k_ ≠ (.slice (some ⟨go31, 0, none⟩) x8_2.length co33 : Value).ownBlock) (.slice (some ⟨go32, 0, none⟩) x9_2.length co35) y209 := (by rw [hw, Ny209.out]; exact HP38.1); clear HP38; replace HO_8 := am (Kd.R_after (v := (.slice (some ⟨go32, 0, none⟩) x9_2.length co35)) (v1 := (.slice (some ⟨go32, 0, none⟩) x9_2.length co35)) (ok := (fun _ => True)) (kR (Kd.R_mono HO_8.out (fun _ hk => ⟨trivial, hk⟩))) hg (.inl rfl)); replace BK195 := am (blk_grown (g := gb195) (o := .cells #[.slice A1_0 l1_0.length c1_0, .slice (some ad203) l1_1.length c1_1] 76 (0, 0)) (bk BK195.out) hg (Kd.R_ne HO_9.out BK195.out (by decide))); replace HO_9 := am (hp_); replace HB := am ((by rw [hw]; exact below_set (HB.out) GB32.out : Below w.heap.size w w39)); clear hg hw hp_))
                                              repeat (go_quiet (first | (go_at_call 127; (with_reducible refine (spec_l08Word.calls kj13 _ _ l0 (a2.extract ((rd l1_1 x10_1) : Int).toNat ((rd l1_1 (ji17)) : Int).toNat) true _ ?side1 ?side2 A26.out).mono ?_); (case side1 => exact cC (Kd.C_below HR0.out HB.out)); (case side2 => exact HC0.out); rintro e w' ⟨rfl, ⟨nd, rfl⟩⟩; (try first | exact ⟨rfl, _, World.drewN_drewN _ _ _⟩ | exact ⟨rfl, _, Eq.trans (World.drewN_drewN _ _ _) (congrArg (World.drewN _) (Nat.add_assoc _ _ _))⟩); have p206 : 0 ≤ ((ji17) : Int) := od; have q206 : (ji17) < (x8_2.length : Int) := od; obtain ⟨ad206, e206, hx206_0⟩ := Kd.at_int (Kd.R_reads' HO_8.out).2.2 (ji17) p206 q206; obtain rfl : ad202 = ad206 := (by injection e206); replace p206 := eq_true p206; replace q206 := eq_true q206; obtain ⟨Ao35, co35, eo35⟩ := Kd.R_slice HO_9.out; subst eo35; have p207 : 0 ≤ (x10_1 : Int) := od; have q207 : x10_1 < (x9_2.length : Int) := od; obtain ⟨ad207, e207, hx207_0⟩ := Kd.at_int (Kd.R_reads' HO_9.out).2.2 x10_1 p207 q207; cases e207; replace p207 := eq_true p207; replace q207 := eq_true q207; have p31 : 0 ≤ (x10_1 : Int) := od; have q31 : (x10_1 : Int) < ((x8_2.length : Int) : Int) := od; obtain ⟨go31, co31, eo31, gb31, gl31, cl31, HG31⟩ := Kd.R_form HO_8.out (by omega); (first | cases eo31 | (injection eo31 with ea_ en_ ec_; (first | subst ea_ | (injection ea_ with ea_; subst ea_)); subst ec_; clear en_)); have GB31 := am gb31; have GG31 := am HG31; clear gb31 gl31 HG31; (first | simp only [add_plain] at hx202_0 | skip); (first | simp only [add_plain] at hx206_0 | skip); obtain ⟨hx31_0, hf31_0⟩ := Kd.R_celln 0 HO_8.out (x10_1 : Int) p31 q31; replace p31 := eq_true p31; replace q31 := eq_true q31; obtain ⟨hy36_, hz36_⟩ := Kd.R_celln 0 HO_8.out (x10_1 : Int) (od) (od); have HP36 := Kd.R_putg HO_8.out (x10_1 : Int) (wrap64 ((rd x8_2 (ji17)) + 2))) | ((with_reducible refine gate_store (t := 3) (p := 89) rfl ?_); (try (rw [drewN_self wc]; generalize hq_ : World.drewN wc _ = wc; have n0_ := am (Kd.R_at hq_ HO_8.out); have n1_ := am (Kd.R_at hq_ HO_9.out); have n2_ := am (blk_at hq_ BK195.out); have n3_ := am (below_at hq_ HB.out); clear hq_ HO_8 HO_9 BK195 HB; have HO_8 := n0_; have HO_9 := n1_; have BK195 := n2_; have HB := n3_; clear n0_ n1_ n2_ n3_; (try (obtain ⟨hy36_, hz36_⟩ := Kd.R_celln 0 HO_8.out (x10_1 : Int) (od) (od))); (try (have HP36 := Kd.R_putg HO_8.out (x10_1 : Int) (wrap64 ((rd x8_2 (ji17)) + 2)))))); refine store_event (t := 3) (p := 89) (v := ?vo_w37) (w1 := (wc.setCell ⟨go31, (x10_1 : Int).toNat, none⟩ (.int .i64 (wrap64 ((rd x8_2 (ji17)) + 2))))) ?hg ?ho ?hn ?hr ?_; (case ho => rfl); (case hg => rfl); (case hn => rfl); (case hr => first | (go_simp; done) | (go_simp; rfl)); intro w37 hw; have hg : wc.grownBy w37 (some go31) := (by rw [hw]; exact HP36.2); have hp_ : Kd.R (Kd.int .i64) 3 w37 w.heap.size (fun k_ => some k_ ≠ (.slice (some ad207) x9_2.length co35 : Value).ownBlock) (.slice (some ⟨go31, 0, none⟩) x8_2.length co33) y208 := (by rw [hw, Ny208.out]; exact HP36.1); clear HP36; replace HO_9 := am (Kd.R_after (v := (.slice (some ⟨go31, 0, none⟩) x8_2.length co33)) (v1 := (.slice (some ⟨go31, 0, none⟩) x8_2.length co33)) (ok := (fun _ => True)) (kR (Kd.R_mono HO_9.out (fun _ hk => ⟨trivial, hk⟩))) hg (.inl rfl)); replace BK195 := am (blk_grown (g := gb195) (o := .cells #[.slice A1_0 l1_0.length c1_0, .slice (some ad203) l1_1.length c1_1] 76 (0, 0)) (bk BK195.out) hg (Kd.R_ne HO_8.out BK195.out (by decide))); replace HO_8 := am (hp_); replace HB := am ((by rw [hw]; exact below_set (HB.out) GB31.out : Below w.heap.size w w37)); clear hg hw hp_; have p32 : 0 ≤ (x10_1 : Int) := od; have q32 : (x10_1 : Int) < ((x9_2.length : Int) : Int) := od; obtain ⟨go32, co32, eo32, gb32, gl32, cl32, HG32⟩ := Kd.R_form HO_9.out (by omega); (first | cases eo32 | (injection eo32 with ea_ en_ ec_; (first | subst ea_ | (injection ea_ with ea_; subst ea_)); subst ec_; clear en_)); have GB32 := am gb32; have GG32 := am HG32; clear gb32 gl32 HG32; (first | simp only [add_plain] at hx207_0 | skip); obtain ⟨hx32_0, hf32_0⟩ := Kd.R_celln 0 HO_9.out (x10_1 : Int) p32 q32; replace p32 := eq_true p32; replace q32 := eq_true q32; have n_ := am (Kd.R_mono (ok' := (fun k_ => some k_ ≠ (.slice (some ⟨go31, 0, none⟩) x8_2.length co33 : Value).ownBlock)) HO_9.out (fun k_ hk => hk.2)); clear HO_9; have HO_9 := n_; clear n_; obtain ⟨hy38_, hz38_⟩ := Kd.R_celln 0 HO_9.out (x10_1 : Int) (od) (od); have HP38 := Kd.R_putg HO_9.out (x10_1 : Int) x11_2) | ((with_reducible refine gate_store (t := 3) (p := 93) rfl ?_); (try (rw [drewN_self w37]; generalize hq_ : World.drewN w37 _ = w37; have n0_ := am (Kd.R_at hq_ HO_8.out); have n1_ := am (Kd.R_at hq_ HO_9.out); have n2_ := am (blk_at hq_ BK195.out); have n3_ := am (below_at hq_ HB.out); clear hq_ HO_8 HO_9 BK195 HB; have HO_8 := n0_; have HO_9 := n1_; have BK195 := n2_; have HB := n3_; clear n0_ n1_ n2_ n3_; (try (have n_ := am (Kd.R_mono (ok' := (fun k_ => some k_ ≠ (.slice (some ⟨go31, 0, none⟩) x8_2.length co33 : Value).ownBlock)) HO_9.out (fun k_ hk => hk.2)); clear HO_9; have HO_9 := n_; clear n_)); (try (obtain ⟨hy38_, hz38_⟩ := Kd.R_celln 0 HO_9.out (x10_1 : Int) (od) (od))); (try (have HP38 := Kd.R_putg HO_9.out (x10_1 : Int) x11_2)))); refine store_event (t := 3) (p := 93) (v := ?vo_w39) (w1 := (w37.setCell ⟨go32, (x10_1 : Int).toNat, none⟩ (.int .i64 x11_2))) ?hg ?ho ?hn ?hr ?_; (case ho => rfl); (case hg => rfl); (case hn => rfl); (case hr => first | (go_simp; done) | (go_simp; rfl)); intro w39 hw; have hg : w37.grownBy w39 (some go32) := (by rw [hw]; exact HP38.2); have hp_ : Kd.R (Kd.int .i64) 3 w39 w.heap.size (fun k_ => some k_ ≠ (.slice (some ⟨go31, 0, none⟩) x8_2.length co33 : Value).ownBlock) (.slice (some ⟨go32, 0, none⟩) x9_2.length co35) y209 := (by rw [hw, Ny209.out]; exact HP38.1); clear HP38; replace HO_8 := am (Kd.R_after (v := (.slice (some ⟨go32, 0, none⟩) x9_2.length co35)) (v1 := (.slice (some ⟨go32, 0, none⟩) x9_2.length co35)) (ok := (fun _ => True)) (kR (Kd.R_mono HO_8.out (fun _ hk => ⟨trivial, hk⟩))) hg (.inl rfl)); replace BK195 := am (blk_grown (g := gb195) (o := .cells #[.slice A1_0 l1_0.length c1_0, .slice (some ad203) l1_1.length c1_1] 76 (0, 0)) (bk BK195.out) hg (Kd.R_ne HO_9.out BK195.out (by decide))); replace HO_9 := am (hp_); replace HB := am ((by rw [hw]; exact below_set (HB.out) GB32.out : Below w.heap.size w w39)); clear hg hw hp_)); try go_wp2_with (first | (go_at_call 127; (with_reducible refine (spec_l08Word.calls kj13 _ _ l0 (a2.extract ((rd l1_1 x10_1) : Int).toNat ((rd l1_1 (ji17)) : Int).toNat) true _ ?side1 ?side2 A26.out).mono ?_); (case side1 => exact cC (Kd.C_below HR0.out HB.out)); (case side2 => exact HC0.out); rintro e w' ⟨rfl, ⟨nd, rfl⟩⟩; (try first | exact ⟨rfl, _, World.drewN_drewN _ _ _⟩ | exact ⟨rfl, _, Eq.trans (World.drewN_drewN _ _ _) (congrArg (World.drewN _) (Nat.add_assoc _ _ _))⟩); have p206 : 0 ≤ ((ji17) : Int) := od; have q206 : (ji17) < (x8_2.length : Int) := od; obtain ⟨ad206, e206, hx206_0⟩ := Kd.at_int (Kd.R_reads' HO_8.out).2.2 (ji17) p206 q206; obtain rfl : ad202 = ad206 := (by injection e206); replace p206 := eq_true p206; replace q206 := eq_true q206; obtain ⟨Ao35, co35, eo35⟩ := Kd.R_slice HO_9.out; subst eo35; have p207 : 0 ≤ (x10_1 : Int) := od; have q207 : x10_1 < (x9_2.length : Int) := od; obtain ⟨ad207, e207, hx207_0⟩ := Kd.at_int (Kd.R_reads' HO_9.out).2.2 x10_1 p207 q207; cases e207; replace p207 := eq_true p207; replace q207 := eq_true q207; have p31 : 0 ≤ (x10_1 : Int) := od; have q31 : (x10_1 : Int) < ((x8_2.length : Int) : Int) := od; obtain ⟨go31, co31, eo31, gb31, gl31, cl31, HG31⟩ := Kd.R_form HO_8.out (by omega); (first | cases eo31 | (injection eo31 with ea_ en_ ec_; (first | subst ea_ | (injection ea_ with ea_; subst ea_)); subst ec_; clear en_)); have GB31 := am gb31; have GG31 := am HG31; clear gb31 gl31 HG31; (first | simp only [add_plain] at hx202_0 | skip); (first | simp only [add_plain] at hx206_0 | skip); obtain ⟨hx31_0, hf31_0⟩ := Kd.R_celln 0 HO_8.out (x10_1 : Int) p31 q31; replace p31 := eq_true p31; replace q31 := eq_true q31; obtain ⟨hy36_, hz36_⟩ := Kd.R_celln 0 HO_8.out (x10_1 : Int) (od) (od); have HP36 := Kd.R_putg HO_8.out (x10_1 : Int) (wrap64 ((rd x8_2 (ji17)) + 2))) | ((with_reducible refine gate_store (t := 3) (p := 89) rfl ?_); (try (rw [drewN_self wc]; generalize hq_ : World.drewN wc _ = wc; have n0_ := am (Kd.R_at hq_ HO_8.out); have n1_ := am (Kd.R_at hq_ HO_9.out); have n2_ := am (blk_at hq_ BK195.out); have n3_ := am (below_at hq_ HB.out); clear hq_ HO_8 HO_9 BK195 HB; have HO_8 := n0_; have HO_9 := n1_; have BK195 := n2_; have HB := n3_; clear n0_ n1_ n2_ n3_; (try (obtain ⟨hy36_, hz36_⟩ := Kd.R_celln 0 HO_8.out (x10_1 : Int) (od) (od))); (try (have HP36 := Kd.R_putg HO_8.out (x10_1 : Int) (wrap64 ((rd x8_2 (ji17)) + 2)))))); refine store_event (t := 3) (p := 89) (v := ?vo_w37) (w1 := (wc.setCell ⟨go31, (x10_1 : Int).toNat, none⟩ (.int .i64 (wrap64 ((rd x8_2 (ji17)) + 2))))) ?hg ?ho ?hn ?hr ?_; (case ho => rfl); (case hg => rfl); (case hn => rfl); (case hr => first | (go_simp; done) | (go_simp; rfl)); intro w37 hw; have hg : wc.grownBy w37 (some go31) := (by rw [hw]; exact HP36.2); have hp_ : Kd.R (Kd.int .i64) 3 w37 w.heap.size (fun k_ => some k_ ≠ (.slice (some ad207) x9_2.length co35 : Value).ownBlock) (.slice (some ⟨go31, 0, none⟩) x8_2.length co33) y208 := (by rw [hw, Ny208.out]; exact HP36.1); clear HP36; replace HO_9 := am (Kd.R_after (v := (.slice (some ⟨go31, 0, none⟩) x8_2.length co33)) (v1 := (.slice (some ⟨go31, 0, none⟩) x8_2.length co33)) (ok := (fun _ => True)) (kR (Kd.R_mono HO_9.out (fun _ hk => ⟨trivial, hk⟩))) hg (.inl rfl)); replace BK195 := am (blk_grown (g := gb195) (o := .cells #[.slice A1_0 l1_0.length c1_0, .slice (some ad203) l1_1.length c1_1] 76 (0, 0)) (bk BK195.out) hg (Kd.R_ne HO_8.out BK195.out (by decide))); replace HO_8 := am (hp_); replace HB := am ((by rw [hw]; exact below_set (HB.out) GB31.out : Below w.heap.size w w37)); clear hg hw hp_; have p32 : 0 ≤ (x10_1 : Int) := od; have q32 : (x10_1 : Int) < ((x9_2.length : Int) : Int) := od; obtain ⟨go32, co32, eo32, gb32, gl32, cl32, HG32⟩ := Kd.R_form HO_9.out (by omega); (first | cases eo32 | (injection eo32 with ea_ en_ ec_; (first | subst ea_ | (injection ea_ with ea_; subst ea_)); subst ec_; clear en_)); have GB32 := am gb32; have GG32 := am HG32; clear gb32 gl32 HG32; (first | simp only [add_plain] at hx207_0 | skip); obtain ⟨hx32_0, hf32_0⟩ := Kd.R_celln 0 HO_9.out (x10_1 : Int) p32 q32; replace p32 := eq_true p32; replace q32 := eq_true q32; have n_ := am (Kd.R_mono (ok' := (fun k_ => some k_ ≠ (.slice (some ⟨go31, 0, none⟩) x8_2.length co33 : Value).ownBlock)) HO_9.out (fun k_ hk => hk.2)); clear HO_9; have HO_9 := n_; clear n_; obtain ⟨hy38_, hz38_⟩ := Kd.R_celln 0 HO_9.out (x10_1 : Int) (od) (od); have HP38 := Kd.R_putg HO_9.out (x10_1 : Int) x11_2) | ((with_reducible refine gate_store (t := 3) (p := 93) rfl ?_); (try (rw [drewN_self w37]; generalize hq_ : World.drewN w37 _ = w37; have n0_ := am (Kd.R_at hq_ HO_8.out); have n1_ := am (Kd.R_at hq_ HO_9.out); have n2_ := am (blk_at hq_ BK195.out); have n3_ := am (below_at hq_ HB.out); clear hq_ HO_8 HO_9 BK195 HB; have HO_8 := n0_; have HO_9 := n1_; have BK195 := n2_; have HB := n3_; clear n0_ n1_ n2_ n3_; (try (have n_ := am (Kd.R_mono (ok' := (fun k_ => some k_ ≠ (.slice (some ⟨go31, 0, none⟩) x8_2.length co33 : Value).ownBlock)) HO_9.out (fun k_ hk => hk.2)); clear HO_9; have HO_9 := n_; clear n_)); (try (obtain ⟨hy38_, hz38_⟩ := Kd.R_celln 0 HO_9.out (x10_1 : Int) (od) (od))); (try (have HP38 := Kd.R_putg HO_9.out (x10_1 : Int) x11_2)))); refine store_event (t := 3) (p := 93) (v := ?vo_w39) (w1 := (w37.setCell ⟨go32, (x10_1 : Int).toNat, none⟩ (.int .i64 x11_2))) ?hg ?ho ?hn ?hr ?_; (case ho => rfl); (case hg => rfl); (case hn => rfl); (case hr => first | (go_simp; done) | (go_simp; rfl)); intro w39 hw; have hg : w37.grownBy w39 (some go32) := (by rw [hw]; exact HP38.2); have hp_ : Kd.R (Kd.int .i64) 3 w39 w.heap.size (fun k_ => some k_ ≠ (.slice (some ⟨go31, 0, none⟩) x8_2.length co33 : Value).ownBlock) (.slice (some ⟨go32, 0, none⟩) x9_2.length co35) y209 := (by rw [hw, Ny209.out]; exact HP38.1); clear HP38; replace HO_8 := am (Kd.R_after (v := (.slice (some ⟨go32, 0, none⟩) x9_2.length co35)) (v1 := (.slice (some ⟨go32, 0, none⟩) x9_2.length co35)) (ok := (fun _ => True)) (kR (Kd.R_mono HO_8.out (fun _ hk => ⟨trivial, hk⟩))) hg (.inl rfl)); replace BK195 := am (blk_grown (g := gb195) (o := .cells #[.slice A1_0 l1_0.length c1_0, .slice (some ad203) l1_1.length c1_1] 76 (0, 0)) (bk BK195.out) hg (Kd.R_ne HO_9.out BK195.out (by decide))); replace HO_9 := am (hp_); replace HB := am ((by rw [hw]; exact below_set (HB.out) GB32.out : Below w.heap.size w w39)); clear hg hw hp_)))
                                              go_roundg kj13
                                              case measure => have := HK1.out; have := HK2.out; have := HJ13.out; omega
                                              case rel => exact ⟨(y208), (y209), (wrap64 (x11_2 + 1)), (by first | rfl | (simp; done) | (simp [*]; done)), H', ⟨by have := HK1.out; have := HK2.out; have := HJ13.out; omega⟩, ⟨kR (Kd.R_mono HO_8.out (fun _ hk => hk.2))⟩, ⟨kR HO_9.out⟩, ⟨bk BK195.out⟩, ⟨bS⟩⟩
                                            · rw [if_neg c30] at H
                                              exact absurd H (by simp)
                                          · rw [if_neg c29] at H
                                            have c29b0 : ((rd x9_2 x10_1) == 0) = false := beq_eq_false_iff_ne.mpr c29
                                            have c29b1 : ((rd x9_2 x10_1) != 0) = true := bne_iff_ne.mpr c29
                                            by_cases c40 : x10_1 < (x8_2.length : Int)
                                            · rw [if_pos c40] at H
                                              have c40b0 : decide (x10_1 < (x8_2.length : Int)) = true := decide_eq_true c40
                                              clear c40
                                              by_cases c41 : (wrap64 ((rd x8_2 (ji17)) + 2)) ≤ (rd x8_2 x10_1)
                                              · rw [if_pos c41] at H
                                                have c41b0 : decide ((wrap64 ((rd x8_2 (ji17)) + 2)) ≤ (rd x8_2 x10_1)) = true := decide_eq_true c41
                                                clear c41
                                                obtain ⟨y211, hy211⟩ : ∃ y_ : List Int, y_ = (x8_2.set (x10_1 : Int).toNat (wrap64 ((rd x8_2 (ji17)) + 2))) := ⟨_, rfl⟩
                                                replace H : (spec_l08Fewest.l1 kj13 l0 a2 (l1_0.length : Int) y211 (x9_2.set (x10_1 : Int).toNat x11_2) x10_1 (wrap64 (x11_2 + 1)) l1_0 l1_1) = some r := by first | (rw [hy211]; with_reducible exact H) | (have H2_ := (Option.bind_some _ _).symm.trans H; rw [hy211]; with_reducible exact H2_) | (have H2_ := (Option.bind_some _ _).symm.trans H; with_reducible exact H2_) | with_reducible exact H | (rw [hy211]; exact H) | exact H
                                                have Ny211 := am hy211
                                                clear hy211
                                                obtain ⟨y212, hy212⟩ : ∃ y_ : List Int, y_ = (x9_2.set (x10_1 : Int).toNat x11_2) := ⟨_, rfl⟩
                                                replace H : (spec_l08Fewest.l1 kj13 l0 a2 (l1_0.length : Int) y211 y212 x10_1 (wrap64 (x11_2 + 1)) l1_0 l1_1) = some r := by first | (rw [hy212]; with_reducible exact H) | (have H2_ := (Option.bind_some _ _).symm.trans H; rw [hy212]; with_reducible exact H2_) | (have H2_ := (Option.bind_some _ _).symm.trans H; with_reducible exact H2_) | with_reducible exact H | (rw [hy212]; exact H) | exact H
                                                have Ny212 := am hy212
                                                clear hy212
                                                have H' := am H
                                                clear H
                                                obtain ⟨Ao44, co44, eo44⟩ := Kd.R_slice HO_8.out
                                                subst eo44
                                                have p202 : 0 ≤ ((ji17) : Int) := od
                                                have q202 : (ji17) < (x8_2.length : Int) := od
                                                obtain ⟨ad202, e202, hx202_0⟩ := Kd.at_int (Kd.R_reads' HO_8.out).2.2 (ji17) p202 q202
                                                cases e202
                                                replace p202 := eq_true p202
                                                replace q202 := eq_true q202
                                                have hcz45_0 := bc BK195.out 0 (.slice A1_0 l1_0.length c1_0)
                                                have hcz45_1 := bc BK195.out 1 (.slice A1_1 l1_1.length c1_1)
                                                have hfz45_0 := blk_frozen BK195.out 0
                                                have hfz45_1 := blk_frozen BK195.out 1
                                                have p203 : 0 ≤ (x10_1 : Int) := od
                                                have q203 : x10_1 < (l1_1.length : Int) := od
                                                obtain ⟨ad203, e203, hx203_0⟩ := Kd.at_int HR1_1.out x10_1 p203 q203
                                                cases e203
                                                replace hx203_0 := (HB.out.cell (World.block_lt_of_cell? w _ hx203_0)).trans hx203_0
                                                replace p203 := eq_true p203
                                                replace q203 := eq_true q203
                                                have p204 : 0 ≤ ((ji17) : Int) := od
                                                have q204 : (ji17) < (l1_1.length : Int) := od
                                                obtain ⟨ad204, e204, hx204_0⟩ := Kd.at_int HR1_1.out (ji17) p204 q204
                                                obtain rfl : ad203 = ad204 := (by injection e204)
                                                replace hx204_0 := (HB.out.cell (World.block_lt_of_cell? w _ hx204_0)).trans hx204_0
                                                replace p204 := eq_true p204
                                                replace q204 := eq_true q204
                                                go_wp2_with (first | (go_at_call 127; (with_reducible refine (spec_l08Word.calls kj13 _ _ l0 (a2.extract ((rd l1_1 x10_1) : Int).toNat ((rd l1_1 (ji17)) : Int).toNat) true _ ?side1 ?side2 A26.out).mono ?_); (case side1 => exact cC (Kd.C_below HR0.out HB.out)); (case side2 => exact HC0.out); rintro e w' ⟨rfl, ⟨nd, rfl⟩⟩; (try first | exact ⟨rfl, _, World.drewN_drewN _ _ _⟩ | exact ⟨rfl, _, Eq.trans (World.drewN_drewN _ _ _) (congrArg (World.drewN _) (Nat.add_assoc _ _ _))⟩); have p206 : 0 ≤ ((ji17) : Int) := od; have q206 : (ji17) < (x8_2.length : Int) := od; obtain ⟨ad206, e206, hx206_0⟩ := Kd.at_int (Kd.R_reads' HO_8.out).2.2 (ji17) p206 q206; obtain rfl : ad202 = ad206 := (by injection e206); replace p206 := eq_true p206; replace q206 := eq_true q206; obtain ⟨Ao46, co46, eo46⟩ := Kd.R_slice HO_9.out; subst eo46; have p207 : 0 ≤ (x10_1 : Int) := od; have q207 : x10_1 < (x9_2.length : Int) := od; obtain ⟨ad207, e207, hx207_0⟩ := Kd.at_int (Kd.R_reads' HO_9.out).2.2 x10_1 p207 q207; cases e207; replace p207 := eq_true p207; replace q207 := eq_true q207; have p210 : 0 ≤ (x10_1 : Int) := od; have q210 : x10_1 < (x8_2.length : Int) := od; obtain ⟨ad210, e210, hx210_0⟩ := Kd.at_int (Kd.R_reads' HO_8.out).2.2 x10_1 p210 q210; obtain rfl : ad202 = ad210 := (by injection e210); replace p210 := eq_true p210; replace q210 := eq_true q210; have p42 : 0 ≤ (x10_1 : Int) := od; have q42 : (x10_1 : Int) < ((x8_2.length : Int) : Int) := od; obtain ⟨go42, co42, eo42, gb42, gl42, cl42, HG42⟩ := Kd.R_form HO_8.out (by omega); (first | cases eo42 | (injection eo42 with ea_ en_ ec_; (first | subst ea_ | (injection ea_ with ea_; subst ea_)); subst ec_; clear en_)); have GB42 := am gb42; have GG42 := am HG42; clear gb42 gl42 HG42; (first | simp only [add_plain] at hx202_0 | skip); (first | simp only [add_plain] at hx206_0 | skip); (first | simp only [add_plain] at hx210_0 | skip); obtain ⟨hx42_0, hf42_0⟩ := Kd.R_celln 0 HO_8.out (x10_1 : Int) p42 q42; replace p42 := eq_true p42; replace q42 := eq_true q42; obtain ⟨hy47_, hz47_⟩ := Kd.R_celln 0 HO_8.out (x10_1 : Int) (od) (od); have HP47 := Kd.R_putg HO_8.out (x10_1 : Int) (wrap64 ((rd x8_2 (ji17)) + 2))) | ((with_reducible refine gate_store (t := 3) (p := 89) rfl ?_); (try (rw [drewN_self wc]; generalize hq_ : World.drewN wc _ = wc; have n0_ := am (Kd.R_at hq_ HO_8.out); have n1_ := am (Kd.R_at hq_ HO_9.out); have n2_ := am (blk_at hq_ BK195.out); have n3_ := am (below_at hq_ HB.out); clear hq_ HO_8 HO_9 BK195 HB; have HO_8 := n0_; have HO_9 := n1_; have BK195 := n2_; have HB := n3_; clear n0_ n1_ n2_ n3_; (try (obtain ⟨hy47_, hz47_⟩ := Kd.R_celln 0 HO_8.out (x10_1 : Int) (od) (od))); (try (have HP47 := Kd.R_putg HO_8.out (x10_1 : Int) (wrap64 ((rd x8_2 (ji17)) + 2)))))); refine store_event (t := 3) (p := 89) (v := ?vo_w48) (w1 := (wc.setCell ⟨go42, (x10_1 : Int).toNat, none⟩ (.int .i64 (wrap64 ((rd x8_2 (ji17)) + 2))))) ?hg ?ho ?hn ?hr ?_; (case ho => rfl); (case hg => rfl); (case hn => rfl); (case hr => first | (go_simp; done) | (go_simp; rfl)); intro w48 hw; have hg : wc.grownBy w48 (some go42) := (by rw [hw]; exact HP47.2); have hp_ : Kd.R (Kd.int .i64) 3 w48 w.heap.size (fun k_ => some k_ ≠ (.slice (some ad207) x9_2.length co46 : Value).ownBlock) (.slice (some ⟨go42, 0, none⟩) x8_2.length co44) y211 := (by rw [hw, Ny211.out]; exact HP47.1); clear HP47; replace HO_9 := am (Kd.R_after (v := (.slice (some ⟨go42, 0, none⟩) x8_2.length co44)) (v1 := (.slice (some ⟨go42, 0, none⟩) x8_2.length co44)) (ok := (fun _ => True)) (kR (Kd.R_mono HO_9.out (fun _ hk => ⟨trivial, hk⟩))) hg (.inl rfl)); replace BK195 := am (blk_grown (g := gb195) (o := .cells #[.slice A1_0 l1_0.length c1_0, .slice (some ad203) l1_1.length c1_1] 76 (0, 0)) (bk BK195.out) hg (Kd.R_ne HO_8.out BK195.out (by decide))); replace HO_8 := am (hp_); replace HB := am ((by rw [hw]; exact below_set (HB.out) GB42.out : Below w.heap.size w w48)); clear hg hw hp_; have p43 : 0 ≤ (x10_1 : Int) := od; have q43 : (x10_1 : Int) < ((x9_2.length : Int) : Int) := od; obtain ⟨go43, co43, eo43, gb43, gl43, cl43, HG43⟩ := Kd.R_form HO_9.out (by omega); (first | cases eo43 | (injection eo43 with ea_ en_ ec_; (first | subst ea_ | (injection ea_ with ea_; subst ea_)); subst ec_; clear en_)); have GB43 := am gb43; have GG43 := am HG43; clear gb43 gl43 HG43; (first | simp only [add_plain] at hx207_0 | skip); obtain ⟨hx43_0, hf43_0⟩ := Kd.R_celln 0 HO_9.out (x10_1 : Int) p43 q43; replace p43 := eq_true p43; replace q43 := eq_true q43; have n_ := am (Kd.R_mono (ok' := (fun k_ => some k_ ≠ (.slice (some ⟨go42, 0, none⟩) x8_2.length co44 : Value).ownBlock)) HO_9.out (fun k_ hk => hk.2)); clear HO_9; have HO_9 := n_; clear n_; obtain ⟨hy49_, hz49_⟩ := Kd.R_celln 0 HO_9.out (x10_1 : Int) (od) (od); have HP49 := Kd.R_putg HO_9.out (x10_1 : Int) x11_2) | ((with_reducible refine gate_store (t := 3) (p := 93) rfl ?_); (try (rw [drewN_self w48]; generalize hq_ : World.drewN w48 _ = w48; have n0_ := am (Kd.R_at hq_ HO_8.out); have n1_ := am (Kd.R_at hq_ HO_9.out); have n2_ := am (blk_at hq_ BK195.out); have n3_ := am (below_at hq_ HB.out); clear hq_ HO_8 HO_9 BK195 HB; have HO_8 := n0_; have HO_9 := n1_; have BK195 := n2_; have HB := n3_; clear n0_ n1_ n2_ n3_; (try (have n_ := am (Kd.R_mono (ok' := (fun k_ => some k_ ≠ (.slice (some ⟨go42, 0, none⟩) x8_2.length co44 : Value).ownBlock)) HO_9.out (fun k_ hk => hk.2)); clear HO_9; have HO_9 := n_; clear n_)); (try (obtain ⟨hy49_, hz49_⟩ := Kd.R_celln 0 HO_9.out (x10_1 : Int) (od) (od))); (try (have HP49 := Kd.R_putg HO_9.out (x10_1 : Int) x11_2)))); refine store_event (t := 3) (p := 93) (v := ?vo_w50) (w1 := (w48.setCell ⟨go43, (x10_1 : Int).toNat, none⟩ (.int .i64 x11_2))) ?hg ?ho ?hn ?hr ?_; (case ho => rfl); (case hg => rfl); (case hn => rfl); (case hr => first | (go_simp; done) | (go_simp; rfl)); intro w50 hw; have hg : w48.grownBy w50 (some go43) := (by rw [hw]; exact HP49.2); have hp_ : Kd.R (Kd.int .i64) 3 w50 w.heap.size (fun k_ => some k_ ≠ (.slice (some ⟨go42, 0, none⟩) x8_2.length co44 : Value).ownBlock) (.slice (some ⟨go43, 0, none⟩) x9_2.length co46) y212 := (by rw [hw, Ny212.out]; exact HP49.1); clear HP49; replace HO_8 := am (Kd.R_after (v := (.slice (some ⟨go43, 0, none⟩) x9_2.length co46)) (v1 := (.slice (some ⟨go43, 0, none⟩) x9_2.length co46)) (ok := (fun _ => True)) (kR (Kd.R_mono HO_8.out (fun _ hk => ⟨trivial, hk⟩))) hg (.inl rfl)); replace BK195 := am (blk_grown (g := gb195) (o := .cells #[.slice A1_0 l1_0.length c1_0, .slice (some ad203) l1_1.length c1_1] 76 (0, 0)) (bk BK195.out) hg (Kd.R_ne HO_9.out BK195.out (by decide))); replace HO_9 := am (hp_); replace HB := am ((by rw [hw]; exact below_set (HB.out) GB43.out : Below w.heap.size w w50)); clear hg hw hp_))
                                                repeat (go_quiet (first | (go_at_call 127; (with_reducible refine (spec_l08Word.calls kj13 _ _ l0 (a2.extract ((rd l1_1 x10_1) : Int).toNat ((rd l1_1 (ji17)) : Int).toNat) true _ ?side1 ?side2 A26.out).mono ?_); (case side1 => exact cC (Kd.C_below HR0.out HB.out)); (case side2 => exact HC0.out); rintro e w' ⟨rfl, ⟨nd, rfl⟩⟩; (try first | exact ⟨rfl, _, World.drewN_drewN _ _ _⟩ | exact ⟨rfl, _, Eq.trans (World.drewN_drewN _ _ _) (congrArg (World.drewN _) (Nat.add_assoc _ _ _))⟩); have p206 : 0 ≤ ((ji17) : Int) := od; have q206 : (ji17) < (x8_2.length : Int) := od; obtain ⟨ad206, e206, hx206_0⟩ := Kd.at_int (Kd.R_reads' HO_8.out).2.2 (ji17) p206 q206; obtain rfl : ad202 = ad206 := (by injection e206); replace p206 := eq_true p206; replace q206 := eq_true q206; obtain ⟨Ao46, co46, eo46⟩ := Kd.R_slice HO_9.out; subst eo46; have p207 : 0 ≤ (x10_1 : Int) := od; have q207 : x10_1 < (x9_2.length : Int) := od; obtain ⟨ad207, e207, hx207_0⟩ := Kd.at_int (Kd.R_reads' HO_9.out).2.2 x10_1 p207 q207; cases e207; replace p207 := eq_true p207; replace q207 := eq_true q207; have p210 : 0 ≤ (x10_1 : Int) := od; have q210 : x10_1 < (x8_2.length : Int) := od; obtain ⟨ad210, e210, hx210_0⟩ := Kd.at_int (Kd.R_reads' HO_8.out).2.2 x10_1 p210 q210; obtain rfl : ad202 = ad210 := (by injection e210); replace p210 := eq_true p210; replace q210 := eq_true q210; have p42 : 0 ≤ (x10_1 : Int) := od; have q42 : (x10_1 : Int) < ((x8_2.length : Int) : Int) := od; obtain ⟨go42, co42, eo42, gb42, gl42, cl42, HG42⟩ := Kd.R_form HO_8.out (by omega); (first | cases eo42 | (injection eo42 with ea_ en_ ec_; (first | subst ea_ | (injection ea_ with ea_; subst ea_)); subst ec_; clear en_)); have GB42 := am gb42; have GG42 := am HG42; clear gb42 gl42 HG42; (first | simp only [add_plain] at hx202_0 | skip); (first | simp only [add_plain] at hx206_0 | skip); (first | simp only [add_plain] at hx210_0 | skip); obtain ⟨hx42_0, hf42_0⟩ := Kd.R_celln 0 HO_8.out (x10_1 : Int) p42 q42; replace p42 := eq_true p42; replace q42 := eq_true q42; obtain ⟨hy47_, hz47_⟩ := Kd.R_celln 0 HO_8.out (x10_1 : Int) (od) (od); have HP47 := Kd.R_putg HO_8.out (x10_1 : Int) (wrap64 ((rd x8_2 (ji17)) + 2))) | ((with_reducible refine gate_store (t := 3) (p := 89) rfl ?_); (try (rw [drewN_self wc]; generalize hq_ : World.drewN wc _ = wc; have n0_ := am (Kd.R_at hq_ HO_8.out); have n1_ := am (Kd.R_at hq_ HO_9.out); have n2_ := am (blk_at hq_ BK195.out); have n3_ := am (below_at hq_ HB.out); clear hq_ HO_8 HO_9 BK195 HB; have HO_8 := n0_; have HO_9 := n1_; have BK195 := n2_; have HB := n3_; clear n0_ n1_ n2_ n3_; (try (obtain ⟨hy47_, hz47_⟩ := Kd.R_celln 0 HO_8.out (x10_1 : Int) (od) (od))); (try (have HP47 := Kd.R_putg HO_8.out (x10_1 : Int) (wrap64 ((rd x8_2 (ji17)) + 2)))))); refine store_event (t := 3) (p := 89) (v := ?vo_w48) (w1 := (wc.setCell ⟨go42, (x10_1 : Int).toNat, none⟩ (.int .i64 (wrap64 ((rd x8_2 (ji17)) + 2))))) ?hg ?ho ?hn ?hr ?_; (case ho => rfl); (case hg => rfl); (case hn => rfl); (case hr => first | (go_simp; done) | (go_simp; rfl)); intro w48 hw; have hg : wc.grownBy w48 (some go42) := (by rw [hw]; exact HP47.2); have hp_ : Kd.R (Kd.int .i64) 3 w48 w.heap.size (fun k_ => some k_ ≠ (.slice (some ad207) x9_2.length co46 : Value).ownBlock) (.slice (some ⟨go42, 0, none⟩) x8_2.length co44) y211 := (by rw [hw, Ny211.out]; exact HP47.1); clear HP47; replace HO_9 := am (Kd.R_after (v := (.slice (some ⟨go42, 0, none⟩) x8_2.length co44)) (v1 := (.slice (some ⟨go42, 0, none⟩) x8_2.length co44)) (ok := (fun _ => True)) (kR (Kd.R_mono HO_9.out (fun _ hk => ⟨trivial, hk⟩))) hg (.inl rfl)); replace BK195 := am (blk_grown (g := gb195) (o := .cells #[.slice A1_0 l1_0.length c1_0, .slice (some ad203) l1_1.length c1_1] 76 (0, 0)) (bk BK195.out) hg (Kd.R_ne HO_8.out BK195.out (by decide))); replace HO_8 := am (hp_); replace HB := am ((by rw [hw]; exact below_set (HB.out) GB42.out : Below w.heap.size w w48)); clear hg hw hp_; have p43 : 0 ≤ (x10_1 : Int) := od; have q43 : (x10_1 : Int) < ((x9_2.length : Int) : Int) := od; obtain ⟨go43, co43, eo43, gb43, gl43, cl43, HG43⟩ := Kd.R_form HO_9.out (by omega); (first | cases eo43 | (injection eo43 with ea_ en_ ec_; (first | subst ea_ | (injection ea_ with ea_; subst ea_)); subst ec_; clear en_)); have GB43 := am gb43; have GG43 := am HG43; clear gb43 gl43 HG43; (first | simp only [add_plain] at hx207_0 | skip); obtain ⟨hx43_0, hf43_0⟩ := Kd.R_celln 0 HO_9.out (x10_1 : Int) p43 q43; replace p43 := eq_true p43; replace q43 := eq_true q43; have n_ := am (Kd.R_mono (ok' := (fun k_ => some k_ ≠ (.slice (some ⟨go42, 0, none⟩) x8_2.length co44 : Value).ownBlock)) HO_9.out (fun k_ hk => hk.2)); clear HO_9; have HO_9 := n_; clear n_; obtain ⟨hy49_, hz49_⟩ := Kd.R_celln 0 HO_9.out (x10_1 : Int) (od) (od); have HP49 := Kd.R_putg HO_9.out (x10_1 : Int) x11_2) | ((with_reducible refine gate_store (t := 3) (p := 93) rfl ?_); (try (rw [drewN_self w48]; generalize hq_ : World.drewN w48 _ = w48; have n0_ := am (Kd.R_at hq_ HO_8.out); have n1_ := am (Kd.R_at hq_ HO_9.out); have n2_ := am (blk_at hq_ BK195.out); have n3_ := am (below_at hq_ HB.out); clear hq_ HO_8 HO_9 BK195 HB; have HO_8 := n0_; have HO_9 := n1_; have BK195 := n2_; have HB := n3_; clear n0_ n1_ n2_ n3_; (try (have n_ := am (Kd.R_mono (ok' := (fun k_ => some k_ ≠ (.slice (some ⟨go42, 0, none⟩) x8_2.length co44 : Value).ownBlock)) HO_9.out (fun k_ hk => hk.2)); clear HO_9; have HO_9 := n_; clear n_)); (try (obtain ⟨hy49_, hz49_⟩ := Kd.R_celln 0 HO_9.out (x10_1 : Int) (od) (od))); (try (have HP49 := Kd.R_putg HO_9.out (x10_1 : Int) x11_2)))); refine store_event (t := 3) (p := 93) (v := ?vo_w50) (w1 := (w48.setCell ⟨go43, (x10_1 : Int).toNat, none⟩ (.int .i64 x11_2))) ?hg ?ho ?hn ?hr ?_; (case ho => rfl); (case hg => rfl); (case hn => rfl); (case hr => first | (go_simp; done) | (go_simp; rfl)); intro w50 hw; have hg : w48.grownBy w50 (some go43) := (by rw [hw]; exact HP49.2); have hp_ : Kd.R (Kd.int .i64) 3 w50 w.heap.size (fun k_ => some k_ ≠ (.slice (some ⟨go42, 0, none⟩) x8_2.length co44 : Value).ownBlock) (.slice (some ⟨go43, 0, none⟩) x9_2.length co46) y212 := (by rw [hw, Ny212.out]; exact HP49.1); clear HP49; replace HO_8 := am (Kd.R_after (v := (.slice (some ⟨go43, 0, none⟩) x9_2.length co46)) (v1 := (.slice (some ⟨go43, 0, none⟩) x9_2.length co46)) (ok := (fun _ => True)) (kR (Kd.R_mono HO_8.out (fun _ hk => ⟨trivial, hk⟩))) hg (.inl rfl)); replace BK195 := am (blk_grown (g := gb195) (o := .cells #[.slice A1_0 l1_0.length c1_0, .slice (some ad203) l1_1.length c1_1] 76 (0, 0)) (bk BK195.out) hg (Kd.R_ne HO_9.out BK195.out (by decide))); replace HO_9 := am (hp_); replace HB := am ((by rw [hw]; exact below_set (HB.out) GB43.out : Below w.heap.size w w50)); clear hg hw hp_)); try go_wp2_with (first | (go_at_call 127; (with_reducible refine (spec_l08Word.calls kj13 _ _ l0 (a2.extract ((rd l1_1 x10_1) : Int).toNat ((rd l1_1 (ji17)) : Int).toNat) true _ ?side1 ?side2 A26.out).mono ?_); (case side1 => exact cC (Kd.C_below HR0.out HB.out)); (case side2 => exact HC0.out); rintro e w' ⟨rfl, ⟨nd, rfl⟩⟩; (try first | exact ⟨rfl, _, World.drewN_drewN _ _ _⟩ | exact ⟨rfl, _, Eq.trans (World.drewN_drewN _ _ _) (congrArg (World.drewN _) (Nat.add_assoc _ _ _))⟩); have p206 : 0 ≤ ((ji17) : Int) := od; have q206 : (ji17) < (x8_2.length : Int) := od; obtain ⟨ad206, e206, hx206_0⟩ := Kd.at_int (Kd.R_reads' HO_8.out).2.2 (ji17) p206 q206; obtain rfl : ad202 = ad206 := (by injection e206); replace p206 := eq_true p206; replace q206 := eq_true q206; obtain ⟨Ao46, co46, eo46⟩ := Kd.R_slice HO_9.out; subst eo46; have p207 : 0 ≤ (x10_1 : Int) := od; have q207 : x10_1 < (x9_2.length : Int) := od; obtain ⟨ad207, e207, hx207_0⟩ := Kd.at_int (Kd.R_reads' HO_9.out).2.2 x10_1 p207 q207; cases e207; replace p207 := eq_true p207; replace q207 := eq_true q207; have p210 : 0 ≤ (x10_1 : Int) := od; have q210 : x10_1 < (x8_2.length : Int) := od; obtain ⟨ad210, e210, hx210_0⟩ := Kd.at_int (Kd.R_reads' HO_8.out).2.2 x10_1 p210 q210; obtain rfl : ad202 = ad210 := (by injection e210); replace p210 := eq_true p210; replace q210 := eq_true q210; have p42 : 0 ≤ (x10_1 : Int) := od; have q42 : (x10_1 : Int) < ((x8_2.length : Int) : Int) := od; obtain ⟨go42, co42, eo42, gb42, gl42, cl42, HG42⟩ := Kd.R_form HO_8.out (by omega); (first | cases eo42 | (injection eo42 with ea_ en_ ec_; (first | subst ea_ | (injection ea_ with ea_; subst ea_)); subst ec_; clear en_)); have GB42 := am gb42; have GG42 := am HG42; clear gb42 gl42 HG42; (first | simp only [add_plain] at hx202_0 | skip); (first | simp only [add_plain] at hx206_0 | skip); (first | simp only [add_plain] at hx210_0 | skip); obtain ⟨hx42_0, hf42_0⟩ := Kd.R_celln 0 HO_8.out (x10_1 : Int) p42 q42; replace p42 := eq_true p42; replace q42 := eq_true q42; obtain ⟨hy47_, hz47_⟩ := Kd.R_celln 0 HO_8.out (x10_1 : Int) (od) (od); have HP47 := Kd.R_putg HO_8.out (x10_1 : Int) (wrap64 ((rd x8_2 (ji17)) + 2))) | ((with_reducible refine gate_store (t := 3) (p := 89) rfl ?_); (try (rw [drewN_self wc]; generalize hq_ : World.drewN wc _ = wc; have n0_ := am (Kd.R_at hq_ HO_8.out); have n1_ := am (Kd.R_at hq_ HO_9.out); have n2_ := am (blk_at hq_ BK195.out); have n3_ := am (below_at hq_ HB.out); clear hq_ HO_8 HO_9 BK195 HB; have HO_8 := n0_; have HO_9 := n1_; have BK195 := n2_; have HB := n3_; clear n0_ n1_ n2_ n3_; (try (obtain ⟨hy47_, hz47_⟩ := Kd.R_celln 0 HO_8.out (x10_1 : Int) (od) (od))); (try (have HP47 := Kd.R_putg HO_8.out (x10_1 : Int) (wrap64 ((rd x8_2 (ji17)) + 2)))))); refine store_event (t := 3) (p := 89) (v := ?vo_w48) (w1 := (wc.setCell ⟨go42, (x10_1 : Int).toNat, none⟩ (.int .i64 (wrap64 ((rd x8_2 (ji17)) + 2))))) ?hg ?ho ?hn ?hr ?_; (case ho => rfl); (case hg => rfl); (case hn => rfl); (case hr => first | (go_simp; done) | (go_simp; rfl)); intro w48 hw; have hg : wc.grownBy w48 (some go42) := (by rw [hw]; exact HP47.2); have hp_ : Kd.R (Kd.int .i64) 3 w48 w.heap.size (fun k_ => some k_ ≠ (.slice (some ad207) x9_2.length co46 : Value).ownBlock) (.slice (some ⟨go42, 0, none⟩) x8_2.length co44) y211 := (by rw [hw, Ny211.out]; exact HP47.1); clear HP47; replace HO_9 := am (Kd.R_after (v := (.slice (some ⟨go42, 0, none⟩) x8_2.length co44)) (v1 := (.slice (some ⟨go42, 0, none⟩) x8_2.length co44)) (ok := (fun _ => True)) (kR (Kd.R_mono HO_9.out (fun _ hk => ⟨trivial, hk⟩))) hg (.inl rfl)); replace BK195 := am (blk_grown (g := gb195) (o := .cells #[.slice A1_0 l1_0.length c1_0, .slice (some ad203) l1_1.length c1_1] 76 (0, 0)) (bk BK195.out) hg (Kd.R_ne HO_8.out BK195.out (by decide))); replace HO_8 := am (hp_); replace HB := am ((by rw [hw]; exact below_set (HB.out) GB42.out : Below w.heap.size w w48)); clear hg hw hp_; have p43 : 0 ≤ (x10_1 : Int) := od; have q43 : (x10_1 : Int) < ((x9_2.length : Int) : Int) := od; obtain ⟨go43, co43, eo43, gb43, gl43, cl43, HG43⟩ := Kd.R_form HO_9.out (by omega); (first | cases eo43 | (injection eo43 with ea_ en_ ec_; (first | subst ea_ | (injection ea_ with ea_; subst ea_)); subst ec_; clear en_)); have GB43 := am gb43; have GG43 := am HG43; clear gb43 gl43 HG43; (first | simp only [add_plain] at hx207_0 | skip); obtain ⟨hx43_0, hf43_0⟩ := Kd.R_celln 0 HO_9.out (x10_1 : Int) p43 q43; replace p43 := eq_true p43; replace q43 := eq_true q43; have n_ := am (Kd.R_mono (ok' := (fun k_ => some k_ ≠ (.slice (some ⟨go42, 0, none⟩) x8_2.length co44 : Value).ownBlock)) HO_9.out (fun k_ hk => hk.2)); clear HO_9; have HO_9 := n_; clear n_; obtain ⟨hy49_, hz49_⟩ := Kd.R_celln 0 HO_9.out (x10_1 : Int) (od) (od); have HP49 := Kd.R_putg HO_9.out (x10_1 : Int) x11_2) | ((with_reducible refine gate_store (t := 3) (p := 93) rfl ?_); (try (rw [drewN_self w48]; generalize hq_ : World.drewN w48 _ = w48; have n0_ := am (Kd.R_at hq_ HO_8.out); have n1_ := am (Kd.R_at hq_ HO_9.out); have n2_ := am (blk_at hq_ BK195.out); have n3_ := am (below_at hq_ HB.out); clear hq_ HO_8 HO_9 BK195 HB; have HO_8 := n0_; have HO_9 := n1_; have BK195 := n2_; have HB := n3_; clear n0_ n1_ n2_ n3_; (try (have n_ := am (Kd.R_mono (ok' := (fun k_ => some k_ ≠ (.slice (some ⟨go42, 0, none⟩) x8_2.length co44 : Value).ownBlock)) HO_9.out (fun k_ hk => hk.2)); clear HO_9; have HO_9 := n_; clear n_)); (try (obtain ⟨hy49_, hz49_⟩ := Kd.R_celln 0 HO_9.out (x10_1 : Int) (od) (od))); (try (have HP49 := Kd.R_putg HO_9.out (x10_1 : Int) x11_2)))); refine store_event (t := 3) (p := 93) (v := ?vo_w50) (w1 := (w48.setCell ⟨go43, (x10_1 : Int).toNat, none⟩ (.int .i64 x11_2))) ?hg ?ho ?hn ?hr ?_; (case ho => rfl); (case hg => rfl); (case hn => rfl); (case hr => first | (go_simp; done) | (go_simp; rfl)); intro w50 hw; have hg : w48.grownBy w50 (some go43) := (by rw [hw]; exact HP49.2); have hp_ : Kd.R (Kd.int .i64) 3 w50 w.heap.size (fun k_ => some k_ ≠ (.slice (some ⟨go42, 0, none⟩) x8_2.length co44 : Value).ownBlock) (.slice (some ⟨go43, 0, none⟩) x9_2.length co46) y212 := (by rw [hw, Ny212.out]; exact HP49.1); clear HP49; replace HO_8 := am (Kd.R_after (v := (.slice (some ⟨go43, 0, none⟩) x9_2.length co46)) (v1 := (.slice (some ⟨go43, 0, none⟩) x9_2.length co46)) (ok := (fun _ => True)) (kR (Kd.R_mono HO_8.out (fun _ hk => ⟨trivial, hk⟩))) hg (.inl rfl)); replace BK195 := am (blk_grown (g := gb195) (o := .cells #[.slice A1_0 l1_0.length c1_0, .slice (some ad203) l1_1.length c1_1] 76 (0, 0)) (bk BK195.out) hg (Kd.R_ne HO_9.out BK195.out (by decide))); replace HO_9 := am (hp_); replace HB := am ((by rw [hw]; exact below_set (HB.out) GB43.out : Below w.heap.size w w50)); clear hg hw hp_)))
                                                go_roundg kj13
                                                case measure => have := HK1.out; have := HK2.out; have := HJ13.out; omega
                                                case rel => exact ⟨(y211), (y212), (wrap64 (x11_2 + 1)), (by first | rfl | (simp; done) | (simp [*]; done)), H', ⟨by have := HK1.out; have := HK2.out; have := HJ13.out; omega⟩, ⟨kR (Kd.R_mono HO_8.out (fun _ hk => hk.2))⟩, ⟨kR HO_9.out⟩, ⟨bk BK195.out⟩, ⟨bS⟩⟩
                                              · rw [if_neg c41] at H
                                                have c41b0 : decide ((wrap64 ((rd x8_2 (ji17)) + 2)) ≤ (rd x8_2 x10_1)) = false := decide_eq_false c41
                                                clear c41
                                                have H' := am H
                                                clear H
                                                obtain ⟨Ao51, co51, eo51⟩ := Kd.R_slice HO_8.out
                                                subst eo51
                                                have p202 : 0 ≤ ((ji17) : Int) := od
                                                have q202 : (ji17) < (x8_2.length : Int) := od
                                                obtain ⟨ad202, e202, hx202_0⟩ := Kd.at_int (Kd.R_reads' HO_8.out).2.2 (ji17) p202 q202
                                                cases e202
                                                replace p202 := eq_true p202
                                                replace q202 := eq_true q202
                                                have hcz52_0 := bc BK195.out 0 (.slice A1_0 l1_0.length c1_0)
                                                have hcz52_1 := bc BK195.out 1 (.slice A1_1 l1_1.length c1_1)
                                                have hfz52_0 := blk_frozen BK195.out 0
                                                have hfz52_1 := blk_frozen BK195.out 1
                                                have p203 : 0 ≤ (x10_1 : Int) := od
                                                have q203 : x10_1 < (l1_1.length : Int) := od
                                                obtain ⟨ad203, e203, hx203_0⟩ := Kd.at_int HR1_1.out x10_1 p203 q203
                                                cases e203
                                                replace hx203_0 := (HB.out.cell (World.block_lt_of_cell? w _ hx203_0)).trans hx203_0
                                                replace p203 := eq_true p203
                                                replace q203 := eq_true q203
                                                have p204 : 0 ≤ ((ji17) : Int) := od
                                                have q204 : (ji17) < (l1_1.length : Int) := od
                                                obtain ⟨ad204, e204, hx204_0⟩ := Kd.at_int HR1_1.out (ji17) p204 q204
                                                obtain rfl : ad203 = ad204 := (by injection e204)
                                                replace hx204_0 := (HB.out.cell (World.block_lt_of_cell? w _ hx204_0)).trans hx204_0
                                                replace p204 := eq_true p204
                                                replace q204 := eq_true q204
                                                go_wp2_with (first | (go_at_call 127; (with_reducible refine (spec_l08Word.calls kj13 _ _ l0 (a2.extract ((rd l1_1 x10_1) : Int).toNat ((rd l1_1 (ji17)) : Int).toNat) true _ ?side1 ?side2 A26.out).mono ?_); (case side1 => exact cC (Kd.C_below HR0.out HB.out)); (case side2 => exact HC0.out); rintro e w' ⟨rfl, ⟨nd, rfl⟩⟩; (try first | exact ⟨rfl, _, World.drewN_drewN _ _ _⟩ | exact ⟨rfl, _, Eq.trans (World.drewN_drewN _ _ _) (congrArg (World.drewN _) (Nat.add_assoc _ _ _))⟩); have p206 : 0 ≤ ((ji17) : Int) := od; have q206 : (ji17) < (x8_2.length : Int) := od; obtain ⟨ad206, e206, hx206_0⟩ := Kd.at_int (Kd.R_reads' HO_8.out).2.2 (ji17) p206 q206; obtain rfl : ad202 = ad206 := (by injection e206); replace p206 := eq_true p206; replace q206 := eq_true q206; obtain ⟨Ao53, co53, eo53⟩ := Kd.R_slice HO_9.out; subst eo53; have p207 : 0 ≤ (x10_1 : Int) := od; have q207 : x10_1 < (x9_2.length : Int) := od; obtain ⟨ad207, e207, hx207_0⟩ := Kd.at_int (Kd.R_reads' HO_9.out).2.2 x10_1 p207 q207; cases e207; replace p207 := eq_true p207; replace q207 := eq_true q207; have p210 : 0 ≤ (x10_1 : Int) := od; have q210 : x10_1 < (x8_2.length : Int) := od; obtain ⟨ad210, e210, hx210_0⟩ := Kd.at_int (Kd.R_reads' HO_8.out).2.2 x10_1 p210 q210; obtain rfl : ad202 = ad210 := (by injection e210); replace p210 := eq_true p210; replace q210 := eq_true q210))
                                                repeat (go_quiet (first | (go_at_call 127; (with_reducible refine (spec_l08Word.calls kj13 _ _ l0 (a2.extract ((rd l1_1 x10_1) : Int).toNat ((rd l1_1 (ji17)) : Int).toNat) true _ ?side1 ?side2 A26.out).mono ?_); (case side1 => exact cC (Kd.C_below HR0.out HB.out)); (case side2 => exact HC0.out); rintro e w' ⟨rfl, ⟨nd, rfl⟩⟩; (try first | exact ⟨rfl, _, World.drewN_drewN _ _ _⟩ | exact ⟨rfl, _, Eq.trans (World.drewN_drewN _ _ _) (congrArg (World.drewN _) (Nat.add_assoc _ _ _))⟩); have p206 : 0 ≤ ((ji17) : Int) := od; have q206 : (ji17) < (x8_2.length : Int) := od; obtain ⟨ad206, e206, hx206_0⟩ := Kd.at_int (Kd.R_reads' HO_8.out).2.2 (ji17) p206 q206; obtain rfl : ad202 = ad206 := (by injection e206); replace p206 := eq_true p206; replace q206 := eq_true q206; obtain ⟨Ao53, co53, eo53⟩ := Kd.R_slice HO_9.out; subst eo53; have p207 : 0 ≤ (x10_1 : Int) := od; have q207 : x10_1 < (x9_2.length : Int) := od; obtain ⟨ad207, e207, hx207_0⟩ := Kd.at_int (Kd.R_reads' HO_9.out).2.2 x10_1 p207 q207; cases e207; replace p207 := eq_true p207; replace q207 := eq_true q207; have p210 : 0 ≤ (x10_1 : Int) := od; have q210 : x10_1 < (x8_2.length : Int) := od; obtain ⟨ad210, e210, hx210_0⟩ := Kd.at_int (Kd.R_reads' HO_8.out).2.2 x10_1 p210 q210; obtain rfl : ad202 = ad210 := (by injection e210); replace p210 := eq_true p210; replace q210 := eq_true q210)); try go_wp2_with (first | (go_at_call 127; (with_reducible refine (spec_l08Word.calls kj13 _ _ l0 (a2.extract ((rd l1_1 x10_1) : Int).toNat ((rd l1_1 (ji17)) : Int).toNat) true _ ?side1 ?side2 A26.out).mono ?_); (case side1 => exact cC (Kd.C_below HR0.out HB.out)); (case side2 => exact HC0.out); rintro e w' ⟨rfl, ⟨nd, rfl⟩⟩; (try first | exact ⟨rfl, _, World.drewN_drewN _ _ _⟩ | exact ⟨rfl, _, Eq.trans (World.drewN_drewN _ _ _) (congrArg (World.drewN _) (Nat.add_assoc _ _ _))⟩); have p206 : 0 ≤ ((ji17) : Int) := od; have q206 : (ji17) < (x8_2.length : Int) := od; obtain ⟨ad206, e206, hx206_0⟩ := Kd.at_int (Kd.R_reads' HO_8.out).2.2 (ji17) p206 q206; obtain rfl : ad202 = ad206 := (by injection e206); replace p206 := eq_true p206; replace q206 := eq_true q206; obtain ⟨Ao53, co53, eo53⟩ := Kd.R_slice HO_9.out; subst eo53; have p207 : 0 ≤ (x10_1 : Int) := od; have q207 : x10_1 < (x9_2.length : Int) := od; obtain ⟨ad207, e207, hx207_0⟩ := Kd.at_int (Kd.R_reads' HO_9.out).2.2 x10_1 p207 q207; cases e207; replace p207 := eq_true p207; replace q207 := eq_true q207; have p210 : 0 ≤ (x10_1 : Int) := od; have q210 : x10_1 < (x8_2.length : Int) := od; obtain ⟨ad210, e210, hx210_0⟩ := Kd.at_int (Kd.R_reads' HO_8.out).2.2 x10_1 p210 q210; obtain rfl : ad202 = ad210 := (by injection e210); replace p210 := eq_true p210; replace q210 := eq_true q210)))
                                                go_roundg kj13
                                                case measure => have := HK1.out; have := HK2.out; have := HJ13.out; omega
                                                case rel => exact ⟨(x8_2), (x9_2), (wrap64 (x11_2 + 1)), (by first | rfl | (simp; done) | (simp [*]; done)), H', ⟨by have := HK1.out; have := HK2.out; have := HJ13.out; omega⟩, ⟨kR HO_8.out⟩, ⟨kR HO_9.out⟩, ⟨bk BK195.out⟩, ⟨bS⟩⟩
                                            · rw [if_neg c40] at H
                                              exact absurd H (by simp)
                                        · rw [if_neg c28] at H
                                          exact absurd H (by simp)
                                      · replace c27 := Bool.eq_false_iff.mpr c27
                                        subst c27
                                        have H1 : (if x11_2 > 1 then (spec_l08Fewest.l1 kj13 l0 a2 (l1_0.length : Int) x8_2 x9_2 x10_1 (wrap64 (x11_2 + 1)) l1_0 l1_1) else (if x10_1 < (x9_2.length : Int) then (if (rd x9_2 x10_1) = 0 then (if x10_1 < (x8_2.length : Int) then (spec_l08Fewest.l1 kj13 l0 a2 (l1_0.length : Int) (x8_2.set (x10_1 : Int).toNat (wrap64 ((rd x8_2 (ji17)) + 3))) (x9_2.set (x10_1 : Int).toNat x11_2) x10_1 (wrap64 (x11_2 + 1)) l1_0 l1_1) else (none)) else (if x10_1 < (x8_2.length : Int) then (if (wrap64 ((rd x8_2 (ji17)) + 3)) ≤ (rd x8_2 x10_1) then (spec_l08Fewest.l1 kj13 l0 a2 (l1_0.length : Int) (x8_2.set (x10_1 : Int).toNat (wrap64 ((rd x8_2 (ji17)) + 3))) (x9_2.set (x10_1 : Int).toNat x11_2) x10_1 (wrap64 (x11_2 + 1)) l1_0 l1_1) else (spec_l08Fewest.l1 kj13 l0 a2 (l1_0.length : Int) x8_2 x9_2 x10_1 (wrap64 (x11_2 + 1)) l1_0 l1_1)) else (none))) else (none))) = some r := by rw [if_neg (show ¬ (false = true) by decide)] at H; exact H
                                        clear H
                                        have H := H1
                                        clear H1
                                        by_cases c54 : x11_2 > 1
                                        · rw [if_pos c54] at H
                                          have c54b0 : decide (1 < x11_2) = true := decide_eq_true c54
                                          clear c54
                                          have H' := am H
                                          clear H
                                          obtain ⟨Ao55, co55, eo55⟩ := Kd.R_slice HO_8.out
                                          subst eo55
                                          have p202 : 0 ≤ ((ji17) : Int) := od
                                          have q202 : (ji17) < (x8_2.length : Int) := od
                                          obtain ⟨ad202, e202, hx202_0⟩ := Kd.at_int (Kd.R_reads' HO_8.out).2.2 (ji17) p202 q202
                                          cases e202
                                          replace p202 := eq_true p202
                                          replace q202 := eq_true q202
                                          have hcz56_0 := bc BK195.out 0 (.slice A1_0 l1_0.length c1_0)
                                          have hcz56_1 := bc BK195.out 1 (.slice A1_1 l1_1.length c1_1)
                                          have hfz56_0 := blk_frozen BK195.out 0
                                          have hfz56_1 := blk_frozen BK195.out 1
                                          have p203 : 0 ≤ (x10_1 : Int) := od
                                          have q203 : x10_1 < (l1_1.length : Int) := od
                                          obtain ⟨ad203, e203, hx203_0⟩ := Kd.at_int HR1_1.out x10_1 p203 q203
                                          cases e203
                                          replace hx203_0 := (HB.out.cell (World.block_lt_of_cell? w _ hx203_0)).trans hx203_0
                                          replace p203 := eq_true p203
                                          replace q203 := eq_true q203
                                          have p204 : 0 ≤ ((ji17) : Int) := od
                                          have q204 : (ji17) < (l1_1.length : Int) := od
                                          obtain ⟨ad204, e204, hx204_0⟩ := Kd.at_int HR1_1.out (ji17) p204 q204
                                          obtain rfl : ad203 = ad204 := (by injection e204)
                                          replace hx204_0 := (HB.out.cell (World.block_lt_of_cell? w _ hx204_0)).trans hx204_0
                                          replace p204 := eq_true p204
                                          replace q204 := eq_true q204
                                          go_wp2_with (first | (go_at_call 127; (with_reducible refine (spec_l08Word.calls kj13 _ _ l0 (a2.extract ((rd l1_1 x10_1) : Int).toNat ((rd l1_1 (ji17)) : Int).toNat) false _ ?side1 ?side2 A26.out).mono ?_); (case side1 => exact cC (Kd.C_below HR0.out HB.out)); (case side2 => exact HC0.out); rintro e w' ⟨rfl, ⟨nd, rfl⟩⟩; (try first | exact ⟨rfl, _, World.drewN_drewN _ _ _⟩ | exact ⟨rfl, _, Eq.trans (World.drewN_drewN _ _ _) (congrArg (World.drewN _) (Nat.add_assoc _ _ _))⟩)))
                                          repeat (go_quiet (first | (go_at_call 127; (with_reducible refine (spec_l08Word.calls kj13 _ _ l0 (a2.extract ((rd l1_1 x10_1) : Int).toNat ((rd l1_1 (ji17)) : Int).toNat) false _ ?side1 ?side2 A26.out).mono ?_); (case side1 => exact cC (Kd.C_below HR0.out HB.out)); (case side2 => exact HC0.out); rintro e w' ⟨rfl, ⟨nd, rfl⟩⟩; (try first | exact ⟨rfl, _, World.drewN_drewN _ _ _⟩ | exact ⟨rfl, _, Eq.trans (World.drewN_drewN _ _ _) (congrArg (World.drewN _) (Nat.add_assoc _ _ _))⟩))); try go_wp2_with (first | (go_at_call 127; (with_reducible refine (spec_l08Word.calls kj13 _ _ l0 (a2.extract ((rd l1_1 x10_1) : Int).toNat ((rd l1_1 (ji17)) : Int).toNat) false _ ?side1 ?side2 A26.out).mono ?_); (case side1 => exact cC (Kd.C_below HR0.out HB.out)); (case side2 => exact HC0.out); rintro e w' ⟨rfl, ⟨nd, rfl⟩⟩; (try first | exact ⟨rfl, _, World.drewN_drewN _ _ _⟩ | exact ⟨rfl, _, Eq.trans (World.drewN_drewN _ _ _) (congrArg (World.drewN _) (Nat.add_assoc _ _ _))⟩))))
                                          go_roundg kj13
                                          case measure => have := HK1.out; have := HK2.out; have := HJ13.out; omega
                                          case rel => exact ⟨(x8_2), (x9_2), (wrap64 (x11_2 + 1)), (by first | rfl | (simp; done) | (simp [*]; done)), H', ⟨by have := HK1.out; have := HK2.out; have := HJ13.out; omega⟩, ⟨kR HO_8.out⟩, ⟨kR HO_9.out⟩, ⟨bk BK195.out⟩, ⟨bS⟩⟩
                                        · rw [if_neg c54] at H
                                          have c54b0 : decide (1 < x11_2) = false := decide_eq_false c54
                                          clear c54
                                          by_cases c57 : x10_1 < (x9_2.length : Int)
                                          · rw [if_pos c57] at H
                                            have c57b0 : decide (x10_1 < (x9_2.length : Int)) = true := decide_eq_true c57
                                            clear c57
                                            by_cases c58 : (rd x9_2 x10_1) = 0
                                            · rw [if_pos c58] at H
                                              have c58b0 : ((rd x9_2 x10_1) == 0) = true := beq_iff_eq.mpr c58
                                              have c58b1 : ((rd x9_2 x10_1) != 0) = false := bne_eq_false_iff_eq.mpr c58
                                              clear c58
                                              by_cases c59 : x10_1 < (x8_2.length : Int)
                                              · rw [if_pos c59] at H
                                                have c59b0 : decide (x10_1 < (x8_2.length : Int)) = true := decide_eq_true c59
                                                clear c59
                                                obtain ⟨y214, hy214⟩ : ∃ y_ : List Int, y_ = (x8_2.set (x10_1 : Int).toNat (wrap64 ((rd x8_2 (ji17)) + 3))) := ⟨_, rfl⟩
                                                replace H : (spec_l08Fewest.l1 kj13 l0 a2 (l1_0.length : Int) y214 (x9_2.set (x10_1 : Int).toNat x11_2) x10_1 (wrap64 (x11_2 + 1)) l1_0 l1_1) = some r := by first | (rw [hy214]; with_reducible exact H) | (have H2_ := (Option.bind_some _ _).symm.trans H; rw [hy214]; with_reducible exact H2_) | (have H2_ := (Option.bind_some _ _).symm.trans H; with_reducible exact H2_) | with_reducible exact H | (rw [hy214]; exact H) | exact H
                                                have Ny214 := am hy214
                                                clear hy214
                                                obtain ⟨y215, hy215⟩ : ∃ y_ : List Int, y_ = (x9_2.set (x10_1 : Int).toNat x11_2) := ⟨_, rfl⟩
                                                replace H : (spec_l08Fewest.l1 kj13 l0 a2 (l1_0.length : Int) y214 y215 x10_1 (wrap64 (x11_2 + 1)) l1_0 l1_1) = some r := by first | (rw [hy215]; with_reducible exact H) | (have H2_ := (Option.bind_some _ _).symm.trans H; rw [hy215]; with_reducible exact H2_) | (have H2_ := (Option.bind_some _ _).symm.trans H; with_reducible exact H2_) | with_reducible exact H | (rw [hy215]; exact H) | exact H
                                                have Ny215 := am hy215
                                                clear hy215
                                                have H' := am H
                                                clear H
                                                obtain ⟨Ao62, co62, eo62⟩ := Kd.R_slice HO_8.out
                                                subst eo62
                                                have p202 : 0 ≤ ((ji17) : Int) := od
                                                have q202 : (ji17) < (x8_2.length : Int) := od
                                                obtain ⟨ad202, e202, hx202_0⟩ := Kd.at_int (Kd.R_reads' HO_8.out).2.2 (ji17) p202 q202
                                                cases e202
                                                replace p202 := eq_true p202
                                                replace q202 := eq_true q202
                                                have hcz63_0 := bc BK195.out 0 (.slice A1_0 l1_0.length c1_0)
                                                have hcz63_1 := bc BK195.out 1 (.slice A1_1 l1_1.length c1_1)
                                                have hfz63_0 := blk_frozen BK195.out 0
                                                have hfz63_1 := blk_frozen BK195.out 1
                                                have p203 : 0 ≤ (x10_1 : Int) := od
                                                have q203 : x10_1 < (l1_1.length : Int) := od
                                                obtain ⟨ad203, e203, hx203_0⟩ := Kd.at_int HR1_1.out x10_1 p203 q203
                                                cases e203
                                                replace hx203_0 := (HB.out.cell (World.block_lt_of_cell? w _ hx203_0)).trans hx203_0
                                                replace p203 := eq_true p203
                                                replace q203 := eq_true q203
                                                have p204 : 0 ≤ ((ji17) : Int) := od
                                                have q204 : (ji17) < (l1_1.length : Int) := od
                                                obtain ⟨ad204, e204, hx204_0⟩ := Kd.at_int HR1_1.out (ji17) p204 q204
                                                obtain rfl : ad203 = ad204 := (by injection e204)
                                                replace hx204_0 := (HB.out.cell (World.block_lt_of_cell? w _ hx204_0)).trans hx204_0
                                                replace p204 := eq_true p204
                                                replace q204 := eq_true q204
                                                go_wp2_with (first | (go_at_call 127; (with_reducible refine (spec_l08Word.calls kj13 _ _ l0 (a2.extract ((rd l1_1 x10_1) : Int).toNat ((rd l1_1 (ji17)) : Int).toNat) false _ ?side1 ?side2 A26.out).mono ?_); (case side1 => exact cC (Kd.C_below HR0.out HB.out)); (case side2 => exact HC0.out); rintro e w' ⟨rfl, ⟨nd, rfl⟩⟩; (try first | exact ⟨rfl, _, World.drewN_drewN _ _ _⟩ | exact ⟨rfl, _, Eq.trans (World.drewN_drewN _ _ _) (congrArg (World.drewN _) (Nat.add_assoc _ _ _))⟩); obtain ⟨Ao64, co64, eo64⟩ := Kd.R_slice HO_9.out; subst eo64; have p213 : 0 ≤ (x10_1 : Int) := od; have q213 : x10_1 < (x9_2.length : Int) := od; obtain ⟨ad213, e213, hx213_0⟩ := Kd.at_int (Kd.R_reads' HO_9.out).2.2 x10_1 p213 q213; cases e213; replace p213 := eq_true p213; replace q213 := eq_true q213; have p60 : 0 ≤ (x10_1 : Int) := od; have q60 : (x10_1 : Int) < ((x8_2.length : Int) : Int) := od; obtain ⟨go60, co60, eo60, gb60, gl60, cl60, HG60⟩ := Kd.R_form HO_8.out (by omega); (first | cases eo60 | (injection eo60 with ea_ en_ ec_; (first | subst ea_ | (injection ea_ with ea_; subst ea_)); subst ec_; clear en_)); have GB60 := am gb60; have GG60 := am HG60; clear gb60 gl60 HG60; (first | simp only [add_plain] at hx202_0 | skip); (first | simp only [add_plain] at hx206_0 | skip); (first | simp only [add_plain] at hx210_0 | skip); obtain ⟨hx60_0, hf60_0⟩ := Kd.R_celln 0 HO_8.out (x10_1 : Int) p60 q60; replace p60 := eq_true p60; replace q60 := eq_true q60; obtain ⟨hy65_, hz65_⟩ := Kd.R_celln 0 HO_8.out (x10_1 : Int) (od) (od); have HP65 := Kd.R_putg HO_8.out (x10_1 : Int) (wrap64 ((rd x8_2 (ji17)) + 3))) | ((with_reducible refine gate_store (t := 3) (p := 89) rfl ?_); (try (rw [drewN_self wc]; generalize hq_ : World.drewN wc _ = wc; have n0_ := am (Kd.R_at hq_ HO_8.out); have n1_ := am (Kd.R_at hq_ HO_9.out); have n2_ := am (blk_at hq_ BK195.out); have n3_ := am (below_at hq_ HB.out); clear hq_ HO_8 HO_9 BK195 HB; have HO_8 := n0_; have HO_9 := n1_; have BK195 := n2_; have HB := n3_; clear n0_ n1_ n2_ n3_; (try (obtain ⟨hy65_, hz65_⟩ := Kd.R_celln 0 HO_8.out (x10_1 : Int) (od) (od))); (try (have HP65 := Kd.R_putg HO_8.out (x10_1 : Int) (wrap64 ((rd x8_2 (ji17)) + 3)))))); refine store_event (t := 3) (p := 89) (v := ?vo_w66) (w1 := (wc.setCell ⟨go60, (x10_1 : Int).toNat, none⟩ (.int .i64 (wrap64 ((rd x8_2 (ji17)) + 3))))) ?hg ?ho ?hn ?hr ?_; (case ho => rfl); (case hg => rfl); (case hn => rfl); (case hr => first | (go_simp; done) | (go_simp; rfl)); intro w66 hw; have hg : wc.grownBy w66 (some go60) := (by rw [hw]; exact HP65.2); have hp_ : Kd.R (Kd.int .i64) 3 w66 w.heap.size (fun k_ => some k_ ≠ (.slice (some ad213) x9_2.length co64 : Value).ownBlock) (.slice (some ⟨go60, 0, none⟩) x8_2.length co62) y214 := (by rw [hw, Ny214.out]; exact HP65.1); clear HP65; replace HO_9 := am (Kd.R_after (v := (.slice (some ⟨go60, 0, none⟩) x8_2.length co62)) (v1 := (.slice (some ⟨go60, 0, none⟩) x8_2.length co62)) (ok := (fun _ => True)) (kR (Kd.R_mono HO_9.out (fun _ hk => ⟨trivial, hk⟩))) hg (.inl rfl)); replace BK195 := am (blk_grown (g := gb195) (o := .cells #[.slice A1_0 l1_0.length c1_0, .slice (some ad203) l1_1.length c1_1] 76 (0, 0)) (bk BK195.out) hg (Kd.R_ne HO_8.out BK195.out (by decide))); replace HO_8 := am (hp_); replace HB := am ((by rw [hw]; exact below_set (HB.out) GB60.out : Below w.heap.size w w66)); clear hg hw hp_; have p61 : 0 ≤ (x10_1 : Int) := od; have q61 : (x10_1 : Int) < ((x9_2.length : Int) : Int) := od; obtain ⟨go61, co61, eo61, gb61, gl61, cl61, HG61⟩ := Kd.R_form HO_9.out (by omega); (first | cases eo61 | (injection eo61 with ea_ en_ ec_; (first | subst ea_ | (injection ea_ with ea_; subst ea_)); subst ec_; clear en_)); have GB61 := am gb61; have GG61 := am HG61; clear gb61 gl61 HG61; (first | simp only [add_plain] at hx213_0 | skip); obtain ⟨hx61_0, hf61_0⟩ := Kd.R_celln 0 HO_9.out (x10_1 : Int) p61 q61; replace p61 := eq_true p61; replace q61 := eq_true q61; have n_ := am (Kd.R_mono (ok' := (fun k_ => some k_ ≠ (.slice (some ⟨go60, 0, none⟩) x8_2.length co62 : Value).ownBlock)) HO_9.out (fun k_ hk => hk.2)); clear HO_9; have HO_9 := n_; clear n_; obtain ⟨hy67_, hz67_⟩ := Kd.R_celln 0 HO_9.out (x10_1 : Int) (od) (od); have HP67 := Kd.R_putg HO_9.out (x10_1 : Int) x11_2) | ((with_reducible refine gate_store (t := 3) (p := 93) rfl ?_); (try (rw [drewN_self w66]; generalize hq_ : World.drewN w66 _ = w66; have n0_ := am (Kd.R_at hq_ HO_8.out); have n1_ := am (Kd.R_at hq_ HO_9.out); have n2_ := am (blk_at hq_ BK195.out); have n3_ := am (below_at hq_ HB.out); clear hq_ HO_8 HO_9 BK195 HB; have HO_8 := n0_; have HO_9 := n1_; have BK195 := n2_; have HB := n3_; clear n0_ n1_ n2_ n3_; (try (have n_ := am (Kd.R_mono (ok' := (fun k_ => some k_ ≠ (.slice (some ⟨go60, 0, none⟩) x8_2.length co62 : Value).ownBlock)) HO_9.out (fun k_ hk => hk.2)); clear HO_9; have HO_9 := n_; clear n_)); (try (obtain ⟨hy67_, hz67_⟩ := Kd.R_celln 0 HO_9.out (x10_1 : Int) (od) (od))); (try (have HP67 := Kd.R_putg HO_9.out (x10_1 : Int) x11_2)))); refine store_event (t := 3) (p := 93) (v := ?vo_w68) (w1 := (w66.setCell ⟨go61, (x10_1 : Int).toNat, none⟩ (.int .i64 x11_2))) ?hg ?ho ?hn ?hr ?_; (case ho => rfl); (case hg => rfl); (case hn => rfl); (case hr => first | (go_simp; done) | (go_simp; rfl)); intro w68 hw; have hg : w66.grownBy w68 (some go61) := (by rw [hw]; exact HP67.2); have hp_ : Kd.R (Kd.int .i64) 3 w68 w.heap.size (fun k_ => some k_ ≠ (.slice (some ⟨go60, 0, none⟩) x8_2.length co62 : Value).ownBlock) (.slice (some ⟨go61, 0, none⟩) x9_2.length co64) y215 := (by rw [hw, Ny215.out]; exact HP67.1); clear HP67; replace HO_8 := am (Kd.R_after (v := (.slice (some ⟨go61, 0, none⟩) x9_2.length co64)) (v1 := (.slice (some ⟨go61, 0, none⟩) x9_2.length co64)) (ok := (fun _ => True)) (kR (Kd.R_mono HO_8.out (fun _ hk => ⟨trivial, hk⟩))) hg (.inl rfl)); replace BK195 := am (blk_grown (g := gb195) (o := .cells #[.slice A1_0 l1_0.length c1_0, .slice (some ad203) l1_1.length c1_1] 76 (0, 0)) (bk BK195.out) hg (Kd.R_ne HO_9.out BK195.out (by decide))); replace HO_9 := am (hp_); replace HB := am ((by rw [hw]; exact below_set (HB.out) GB61.out : Below w.heap.size w w68)); clear hg hw hp_))
                                                repeat (go_quiet (first | (go_at_call 127; (with_reducible refine (spec_l08Word.calls kj13 _ _ l0 (a2.extract ((rd l1_1 x10_1) : Int).toNat ((rd l1_1 (ji17)) : Int).toNat) false _ ?side1 ?side2 A26.out).mono ?_); (case side1 => exact cC (Kd.C_below HR0.out HB.out)); (case side2 => exact HC0.out); rintro e w' ⟨rfl, ⟨nd, rfl⟩⟩; (try first | exact ⟨rfl, _, World.drewN_drewN _ _ _⟩ | exact ⟨rfl, _, Eq.trans (World.drewN_drewN _ _ _) (congrArg (World.drewN _) (Nat.add_assoc _ _ _))⟩); obtain ⟨Ao64, co64, eo64⟩ := Kd.R_slice HO_9.out; subst eo64; have p213 : 0 ≤ (x10_1 : Int) := od; have q213 : x10_1 < (x9_2.length : Int) := od; obtain ⟨ad213, e213, hx213_0⟩ := Kd.at_int (Kd.R_reads' HO_9.out).2.2 x10_1 p213 q213; cases e213; replace p213 := eq_true p213; replace q213 := eq_true q213; have p60 : 0 ≤ (x10_1 : Int) := od; have q60 : (x10_1 : Int) < ((x8_2.length : Int) : Int) := od; obtain ⟨go60, co60, eo60, gb60, gl60, cl60, HG60⟩ := Kd.R_form HO_8.out (by omega); (first | cases eo60 | (injection eo60 with ea_ en_ ec_; (first | subst ea_ | (injection ea_ with ea_; subst ea_)); subst ec_; clear en_)); have GB60 := am gb60; have GG60 := am HG60; clear gb60 gl60 HG60; (first | simp only [add_plain] at hx202_0 | skip); (first | simp only [add_plain] at hx206_0 | skip); (first | simp only [add_plain] at hx210_0 | skip); obtain ⟨hx60_0, hf60_0⟩ := Kd.R_celln 0 HO_8.out (x10_1 : Int) p60 q60; replace p60 := eq_true p60; replace q60 := eq_true q60; obtain ⟨hy65_, hz65_⟩ := Kd.R_celln 0 HO_8.out (x10_1 : Int) (od) (od); have HP65 := Kd.R_putg HO_8.out (x10_1 : Int) (wrap64 ((rd x8_2 (ji17)) + 3))) | ((with_reducible refine gate_store (t := 3) (p := 89) rfl ?_); (try (rw [drewN_self wc]; generalize hq_ : World.drewN wc _ = wc; have n0_ := am (Kd.R_at hq_ HO_8.out); have n1_ := am (Kd.R_at hq_ HO_9.out); have n2_ := am (blk_at hq_ BK195.out); have n3_ := am (below_at hq_ HB.out); clear hq_ HO_8 HO_9 BK195 HB; have HO_8 := n0_; have HO_9 := n1_; have BK195 := n2_; have HB := n3_; clear n0_ n1_ n2_ n3_; (try (obtain ⟨hy65_, hz65_⟩ := Kd.R_celln 0 HO_8.out (x10_1 : Int) (od) (od))); (try (have HP65 := Kd.R_putg HO_8.out (x10_1 : Int) (wrap64 ((rd x8_2 (ji17)) + 3)))))); refine store_event (t := 3) (p := 89) (v := ?vo_w66) (w1 := (wc.setCell ⟨go60, (x10_1 : Int).toNat, none⟩ (.int .i64 (wrap64 ((rd x8_2 (ji17)) + 3))))) ?hg ?ho ?hn ?hr ?_; (case ho => rfl); (case hg => rfl); (case hn => rfl); (case hr => first | (go_simp; done) | (go_simp; rfl)); intro w66 hw; have hg : wc.grownBy w66 (some go60) := (by rw [hw]; exact HP65.2); have hp_ : Kd.R (Kd.int .i64) 3 w66 w.heap.size (fun k_ => some k_ ≠ (.slice (some ad213) x9_2.length co64 : Value).ownBlock) (.slice (some ⟨go60, 0, none⟩) x8_2.length co62) y214 := (by rw [hw, Ny214.out]; exact HP65.1); clear HP65; replace HO_9 := am (Kd.R_after (v := (.slice (some ⟨go60, 0, none⟩) x8_2.length co62)) (v1 := (.slice (some ⟨go60, 0, none⟩) x8_2.length co62)) (ok := (fun _ => True)) (kR (Kd.R_mono HO_9.out (fun _ hk => ⟨trivial, hk⟩))) hg (.inl rfl)); replace BK195 := am (blk_grown (g := gb195) (o := .cells #[.slice A1_0 l1_0.length c1_0, .slice (some ad203) l1_1.length c1_1] 76 (0, 0)) (bk BK195.out) hg (Kd.R_ne HO_8.out BK195.out (by decide))); replace HO_8 := am (hp_); replace HB := am ((by rw [hw]; exact below_set (HB.out) GB60.out : Below w.heap.size w w66)); clear hg hw hp_; have p61 : 0 ≤ (x10_1 : Int) := od; have q61 : (x10_1 : Int) < ((x9_2.length : Int) : Int) := od; obtain ⟨go61, co61, eo61, gb61, gl61, cl61, HG61⟩ := Kd.R_form HO_9.out (by omega); (first | cases eo61 | (injection eo61 with ea_ en_ ec_; (first | subst ea_ | (injection ea_ with ea_; subst ea_)); subst ec_; clear en_)); have GB61 := am gb61; have GG61 := am HG61; clear gb61 gl61 HG61; (first | simp only [add_plain] at hx213_0 | skip); obtain ⟨hx61_0, hf61_0⟩ := Kd.R_celln 0 HO_9.out (x10_1 : Int) p61 q61; replace p61 := eq_true p61; replace q61 := eq_true q61; have n_ := am (Kd.R_mono (ok' := (fun k_ => some k_ ≠ (.slice (some ⟨go60, 0, none⟩) x8_2.length co62 : Value).ownBlock)) HO_9.out (fun k_ hk => hk.2)); clear HO_9; have HO_9 := n_; clear n_; obtain ⟨hy67_, hz67_⟩ := Kd.R_celln 0 HO_9.out (x10_1 : Int) (od) (od); have HP67 := Kd.R_putg HO_9.out (x10_1 : Int) x11_2) | ((with_reducible refine gate_store (t := 3) (p := 93) rfl ?_); (try (rw [drewN_self w66]; generalize hq_ : World.drewN w66 _ = w66; have n0_ := am (Kd.R_at hq_ HO_8.out); have n1_ := am (Kd.R_at hq_ HO_9.out); have n2_ := am (blk_at hq_ BK195.out); have n3_ := am (below_at hq_ HB.out); clear hq_ HO_8 HO_9 BK195 HB; have HO_8 := n0_; have HO_9 := n1_; have BK195 := n2_; have HB := n3_; clear n0_ n1_ n2_ n3_; (try (have n_ := am (Kd.R_mono (ok' := (fun k_ => some k_ ≠ (.slice (some ⟨go60, 0, none⟩) x8_2.length co62 : Value).ownBlock)) HO_9.out (fun k_ hk => hk.2)); clear HO_9; have HO_9 := n_; clear n_)); (try (obtain ⟨hy67_, hz67_⟩ := Kd.R_celln 0 HO_9.out (x10_1 : Int) (od) (od))); (try (have HP67 := Kd.R_putg HO_9.out (x10_1 : Int) x11_2)))); refine store_event (t := 3) (p := 93) (v := ?vo_w68) (w1 := (w66.setCell ⟨go61, (x10_1 : Int).toNat, none⟩ (.int .i64 x11_2))) ?hg ?ho ?hn ?hr ?_; (case ho => rfl); (case hg => rfl); (case hn => rfl); (case hr => first | (go_simp; done) | (go_simp; rfl)); intro w68 hw; have hg : w66.grownBy w68 (some go61) := (by rw [hw]; exact HP67.2); have hp_ : Kd.R (Kd.int .i64) 3 w68 w.heap.size (fun k_ => some k_ ≠ (.slice (some ⟨go60, 0, none⟩) x8_2.length co62 : Value).ownBlock) (.slice (some ⟨go61, 0, none⟩) x9_2.length co64) y215 := (by rw [hw, Ny215.out]; exact HP67.1); clear HP67; replace HO_8 := am (Kd.R_after (v := (.slice (some ⟨go61, 0, none⟩) x9_2.length co64)) (v1 := (.slice (some ⟨go61, 0, none⟩) x9_2.length co64)) (ok := (fun _ => True)) (kR (Kd.R_mono HO_8.out (fun _ hk => ⟨trivial, hk⟩))) hg (.inl rfl)); replace BK195 := am (blk_grown (g := gb195) (o := .cells #[.slice A1_0 l1_0.length c1_0, .slice (some ad203) l1_1.length c1_1] 76 (0, 0)) (bk BK195.out) hg (Kd.R_ne HO_9.out BK195.out (by decide))); replace HO_9 := am (hp_); replace HB := am ((by rw [hw]; exact below_set (HB.out) GB61.out : Below w.heap.size w w68)); clear hg hw hp_)); try go_wp2_with (first | (go_at_call 127; (with_reducible refine (spec_l08Word.calls kj13 _ _ l0 (a2.extract ((rd l1_1 x10_1) : Int).toNat ((rd l1_1 (ji17)) : Int).toNat) false _ ?side1 ?side2 A26.out).mono ?_); (case side1 => exact cC (Kd.C_below HR0.out HB.out)); (case side2 => exact HC0.out); rintro e w' ⟨rfl, ⟨nd, rfl⟩⟩; (try first | exact ⟨rfl, _, World.drewN_drewN _ _ _⟩ | exact ⟨rfl, _, Eq.trans (World.drewN_drewN _ _ _) (congrArg (World.drewN _) (Nat.add_assoc _ _ _))⟩); obtain ⟨Ao64, co64, eo64⟩ := Kd.R_slice HO_9.out; subst eo64; have p213 : 0 ≤ (x10_1 : Int) := od; have q213 : x10_1 < (x9_2.length : Int) := od; obtain ⟨ad213, e213, hx213_0⟩ := Kd.at_int (Kd.R_reads' HO_9.out).2.2 x10_1 p213 q213; cases e213; replace p213 := eq_true p213; replace q213 := eq_true q213; have p60 : 0 ≤ (x10_1 : Int) := od; have q60 : (x10_1 : Int) < ((x8_2.length : Int) : Int) := od; obtain ⟨go60, co60, eo60, gb60, gl60, cl60, HG60⟩ := Kd.R_form HO_8.out (by omega); (first | cases eo60 | (injection eo60 with ea_ en_ ec_; (first | subst ea_ | (injection ea_ with ea_; subst ea_)); subst ec_; clear en_)); have GB60 := am gb60; have GG60 := am HG60; clear gb60 gl60 HG60; (first | simp only [add_plain] at hx202_0 | skip); (first | simp only [add_plain] at hx206_0 | skip); (first | simp only [add_plain] at hx210_0 | skip); obtain ⟨hx60_0, hf60_0⟩ := Kd.R_celln 0 HO_8.out (x10_1 : Int) p60 q60; replace p60 := eq_true p60; replace q60 := eq_true q60; obtain ⟨hy65_, hz65_⟩ := Kd.R_celln 0 HO_8.out (x10_1 : Int) (od) (od); have HP65 := Kd.R_putg HO_8.out (x10_1 : Int) (wrap64 ((rd x8_2 (ji17)) + 3))) | ((with_reducible refine gate_store (t := 3) (p := 89) rfl ?_); (try (rw [drewN_self wc]; generalize hq_ : World.drewN wc _ = wc; have n0_ := am (Kd.R_at hq_ HO_8.out); have n1_ := am (Kd.R_at hq_ HO_9.out); have n2_ := am (blk_at hq_ BK195.out); have n3_ := am (below_at hq_ HB.out); clear hq_ HO_8 HO_9 BK195 HB; have HO_8 := n0_; have HO_9 := n1_; have BK195 := n2_; have HB := n3_; clear n0_ n1_ n2_ n3_; (try (obtain ⟨hy65_, hz65_⟩ := Kd.R_celln 0 HO_8.out (x10_1 : Int) (od) (od))); (try (have HP65 := Kd.R_putg HO_8.out (x10_1 : Int) (wrap64 ((rd x8_2 (ji17)) + 3)))))); refine store_event (t := 3) (p := 89) (v := ?vo_w66) (w1 := (wc.setCell ⟨go60, (x10_1 : Int).toNat, none⟩ (.int .i64 (wrap64 ((rd x8_2 (ji17)) + 3))))) ?hg ?ho ?hn ?hr ?_; (case ho => rfl); (case hg => rfl); (case hn => rfl); (case hr => first | (go_simp; done) | (go_simp; rfl)); intro w66 hw; have hg : wc.grownBy w66 (some go60) := (by rw [hw]; exact HP65.2); have hp_ : Kd.R (Kd.int .i64) 3 w66 w.heap.size (fun k_ => some k_ ≠ (.slice (some ad213) x9_2.length co64 : Value).ownBlock) (.slice (some ⟨go60, 0, none⟩) x8_2.length co62) y214 := (by rw [hw, Ny214.out]; exact HP65.1); clear HP65; replace HO_9 := am (Kd.R_after (v := (.slice (some ⟨go60, 0, none⟩) x8_2.length co62)) (v1 := (.slice (some ⟨go60, 0, none⟩) x8_2.length co62)) (ok := (fun _ => True)) (kR (Kd.R_mono HO_9.out (fun _ hk => ⟨trivial, hk⟩))) hg (.inl rfl)); replace BK195 := am (blk_grown (g := gb195) (o := .cells #[.slice A1_0 l1_0.length c1_0, .slice (some ad203) l1_1.length c1_1] 76 (0, 0)) (bk BK195.out) hg (Kd.R_ne HO_8.out BK195.out (by decide))); replace HO_8 := am (hp_); replace HB := am ((by rw [hw]; exact below_set (HB.out) GB60.out : Below w.heap.size w w66)); clear hg hw hp_; have p61 : 0 ≤ (x10_1 : Int) := od; have q61 : (x10_1 : Int) < ((x9_2.length : Int) : Int) := od; obtain ⟨go61, co61, eo61, gb61, gl61, cl61, HG61⟩ := Kd.R_form HO_9.out (by omega); (first | cases eo61 | (injection eo61 with ea_ en_ ec_; (first | subst ea_ | (injection ea_ with ea_; subst ea_)); subst ec_; clear en_)); have GB61 := am gb61; have GG61 := am HG61; clear gb61 gl61 HG61; (first | simp only [add_plain] at hx213_0 | skip); obtain ⟨hx61_0, hf61_0⟩ := Kd.R_celln 0 HO_9.out (x10_1 : Int) p61 q61; replace p61 := eq_true p61; replace q61 := eq_true q61; have n_ := am (Kd.R_mono (ok' := (fun k_ => some k_ ≠ (.slice (some ⟨go60, 0, none⟩) x8_2.length co62 : Value).ownBlock)) HO_9.out (fun k_ hk => hk.2)); clear HO_9; have HO_9 := n_; clear n_; obtain ⟨hy67_, hz67_⟩ := Kd.R_celln 0 HO_9.out (x10_1 : Int) (od) (od); have HP67 := Kd.R_putg HO_9.out (x10_1 : Int) x11_2) | ((with_reducible refine gate_store (t := 3) (p := 93) rfl ?_); (try (rw [drewN_self w66]; generalize hq_ : World.drewN w66 _ = w66; have n0_ := am (Kd.R_at hq_ HO_8.out); have n1_ := am (Kd.R_at hq_ HO_9.out); have n2_ := am (blk_at hq_ BK195.out); have n3_ := am (below_at hq_ HB.out); clear hq_ HO_8 HO_9 BK195 HB; have HO_8 := n0_; have HO_9 := n1_; have BK195 := n2_; have HB := n3_; clear n0_ n1_ n2_ n3_; (try (have n_ := am (Kd.R_mono (ok' := (fun k_ => some k_ ≠ (.slice (some ⟨go60, 0, none⟩) x8_2.length co62 : Value).ownBlock)) HO_9.out (fun k_ hk => hk.2)); clear HO_9; have HO_9 := n_; clear n_)); (try (obtain ⟨hy67_, hz67_⟩ := Kd.R_celln 0 HO_9.out (x10_1 : Int) (od) (od))); (try (have HP67 := Kd.R_putg HO_9.out (x10_1 : Int) x11_2)))); refine store_event (t := 3) (p := 93) (v := ?vo_w68) (w1 := (w66.setCell ⟨go61, (x10_1 : Int).toNat, none⟩ (.int .i64 x11_2))) ?hg ?ho ?hn ?hr ?_; (case ho => rfl); (case hg => rfl); (case hn => rfl); (case hr => first | (go_simp; done) | (go_simp; rfl)); intro w68 hw; have hg : w66.grownBy w68 (some go61) := (by rw [hw]; exact HP67.2); have hp_ : Kd.R (Kd.int .i64) 3 w68 w.heap.size (fun k_ => some k_ ≠ (.slice (some ⟨go60, 0, none⟩) x8_2.length co62 : Value).ownBlock) (.slice (some ⟨go61, 0, none⟩) x9_2.length co64) y215 := (by rw [hw, Ny215.out]; exact HP67.1); clear HP67; replace HO_8 := am (Kd.R_after (v := (.slice (some ⟨go61, 0, none⟩) x9_2.length co64)) (v1 := (.slice (some ⟨go61, 0, none⟩) x9_2.length co64)) (ok := (fun _ => True)) (kR (Kd.R_mono HO_8.out (fun _ hk => ⟨trivial, hk⟩))) hg (.inl rfl)); replace BK195 := am (blk_grown (g := gb195) (o := .cells #[.slice A1_0 l1_0.length c1_0, .slice (some ad203) l1_1.length c1_1] 76 (0, 0)) (bk BK195.out) hg (Kd.R_ne HO_9.out BK195.out (by decide))); replace HO_9 := am (hp_); replace HB := am ((by rw [hw]; exact below_set (HB.out) GB61.out : Below w.heap.size w w68)); clear hg hw hp_)))
                                                go_roundg kj13
                                                case measure => have := HK1.out; have := HK2.out; have := HJ13.out; omega
                                                case rel => exact ⟨(y214), (y215), (wrap64 (x11_2 + 1)), (by first | rfl | (simp; done) | (simp [*]; done)), H', ⟨by have := HK1.out; have := HK2.out; have := HJ13.out; omega⟩, ⟨kR (Kd.R_mono HO_8.out (fun _ hk => hk.2))⟩, ⟨kR HO_9.out⟩, ⟨bk BK195.out⟩, ⟨bS⟩⟩
                                              · rw [if_neg c59] at H
                                                exact absurd H (by simp)
                                            · rw [if_neg c58] at H
                                              have c58b0 : ((rd x9_2 x10_1) == 0) = false := beq_eq_false_iff_ne.mpr c58
                                              have c58b1 : ((rd x9_2 x10_1) != 0) = true := bne_iff_ne.mpr c58
                                              by_cases c69 : x10_1 < (x8_2.length : Int)
                                              · rw [if_pos c69] at H
                                                have c69b0 : decide (x10_1 < (x8_2.length : Int)) = true := decide_eq_true c69
                                                clear c69
                                                by_cases c70 : (wrap64 ((rd x8_2 (ji17)) + 3)) ≤ (rd x8_2 x10_1)
                                                · rw [if_pos c70] at H
                                                  have c70b0 : decide ((wrap64 ((rd x8_2 (ji17)) + 3)) ≤ (rd x8_2 x10_1)) = true := decide_eq_true c70
                                                  clear c70
                                                  obtain ⟨y217, hy217⟩ : ∃ y_ : List Int, y_ = (x8_2.set (x10_1 : Int).toNat (wrap64 ((rd x8_2 (ji17)) + 3))) := ⟨_, rfl⟩
                                                  replace H : (spec_l08Fewest.l1 kj13 l0 a2 (l1_0.length : Int) y217 (x9_2.set (x10_1 : Int).toNat x11_2) x10_1 (wrap64 (x11_2 + 1)) l1_0 l1_1) = some r := by first | (rw [hy217]; with_reducible exact H) | (have H2_ := (Option.bind_some _ _).symm.trans H; rw [hy217]; with_reducible exact H2_) | (have H2_ := (Option.bind_some _ _).symm.trans H; with_reducible exact H2_) | with_reducible exact H | (rw [hy217]; exact H) | exact H
                                                  have Ny217 := am hy217
                                                  clear hy217
                                                  obtain ⟨y218, hy218⟩ : ∃ y_ : List Int, y_ = (x9_2.set (x10_1 : Int).toNat x11_2) := ⟨_, rfl⟩
                                                  replace H : (spec_l08Fewest.l1 kj13 l0 a2 (l1_0.length : Int) y217 y218 x10_1 (wrap64 (x11_2 + 1)) l1_0 l1_1) = some r := by first | (rw [hy218]; with_reducible exact H) | (have H2_ := (Option.bind_some _ _).symm.trans H; rw [hy218]; with_reducible exact H2_) | (have H2_ := (Option.bind_some _ _).symm.trans H; with_reducible exact H2_) | with_reducible exact H | (rw [hy218]; exact H) | exact H
                                                  have Ny218 := am hy218
                                                  clear hy218
                                                  have H' := am H
                                                  clear H
                                                  obtain ⟨Ao73, co73, eo73⟩ := Kd.R_slice HO_8.out
                                                  subst eo73
                                                  have p202 : 0 ≤ ((ji17) : Int) := od
                                                  have q202 : (ji17) < (x8_2.length : Int) := od
                                                  obtain ⟨ad202, e202, hx202_0⟩ := Kd.at_int (Kd.R_reads' HO_8.out).2.2 (ji17) p202 q202
                                                  cases e202
                                                  replace p202 := eq_true p202
                                                  replace q202 := eq_true q202
                                                  have hcz74_0 := bc BK195.out 0 (.slice A1_0 l1_0.length c1_0)
                                                  have hcz74_1 := bc BK195.out 1 (.slice A1_1 l1_1.length c1_1)
                                                  have hfz74_0 := blk_frozen BK195.out 0
                                                  have hfz74_1 := blk_frozen BK195.out 1
                                                  have p203 : 0 ≤ (x10_1 : Int) := od
                                                  have q203 : x10_1 < (l1_1.length : Int) := od
                                                  obtain ⟨ad203, e203, hx203_0⟩ := Kd.at_int HR1_1.out x10_1 p203 q203
                                                  cases e203
                                                  replace hx203_0 := (HB.out.cell (World.block_lt_of_cell? w _ hx203_0)).trans hx203_0
                                                  replace p203 := eq_true p203
                                                  replace q203 := eq_true q203
                                                  have p204 : 0 ≤ ((ji17) : Int) := od
                                                  have q204 : (ji17) < (l1_1.length : Int) := od
                                                  obtain ⟨ad204, e204, hx204_0⟩ := Kd.at_int HR1_1.out (ji17) p204 q204
                                                  obtain rfl : ad203 = ad204 := (by injection e204)
                                                  replace hx204_0 := (HB.out.cell (World.block_lt_of_cell? w _ hx204_0)).trans hx204_0
                                                  replace p204 := eq_true p204
                                                  replace q204 := eq_true q204
                                                  go_wp2_with (first | (go_at_call 127; (with_reducible refine (spec_l08Word.calls kj13 _ _ l0 (a2.extract ((rd l1_1 x10_1) : Int).toNat ((rd l1_1 (ji17)) : Int).toNat) false _ ?side1 ?side2 A26.out).mono ?_); (case side1 => exact cC (Kd.C_below HR0.out HB.out)); (case side2 => exact HC0.out); rintro e w' ⟨rfl, ⟨nd, rfl⟩⟩; (try first | exact ⟨rfl, _, World.drewN_drewN _ _ _⟩ | exact ⟨rfl, _, Eq.trans (World.drewN_drewN _ _ _) (congrArg (World.drewN _) (Nat.add_assoc _ _ _))⟩); obtain ⟨Ao75, co75, eo75⟩ := Kd.R_slice HO_9.out; subst eo75; have p213 : 0 ≤ (x10_1 : Int) := od; have q213 : x10_1 < (x9_2.length : Int) := od; obtain ⟨ad213, e213, hx213_0⟩ := Kd.at_int (Kd.R_reads' HO_9.out).2.2 x10_1 p213 q213; cases e213; replace p213 := eq_true p213; replace q213 := eq_true q213; have p216 : 0 ≤ (x10_1 : Int) := od; have q216 : x10_1 < (x8_2.length : Int) := od; obtain ⟨ad216, e216, hx216_0⟩ := Kd.at_int (Kd.R_reads' HO_8.out).2.2 x10_1 p216 q216; obtain rfl : ad202 = ad216 := (by injection e216); replace p216 := eq_true p216; replace q216 := eq_true q216; have p71 : 0 ≤ (x10_1 : Int) := od; have q71 : (x10_1 : Int) < ((x8_2.length : Int) : Int) := od; obtain ⟨go71, co71, eo71, gb71, gl71, cl71, HG71⟩ := Kd.R_form HO_8.out (by omega); (first | cases eo71 | (injection eo71 with ea_ en_ ec_; (first | subst ea_ | (injection ea_ with ea_; subst ea_)); subst ec_; clear en_)); have GB71 := am gb71; have GG71 := am HG71; clear gb71 gl71 HG71; (first | simp only [add_plain] at hx202_0 | skip); (first | simp only [add_plain] at hx216_0 | skip); obtain ⟨hx71_0, hf71_0⟩ := Kd.R_celln 0 HO_8.out (x10_1 : Int) p71 q71; replace p71 := eq_true p71; replace q71 := eq_true q71; obtain ⟨hy76_, hz76_⟩ := Kd.R_celln 0 HO_8.out (x10_1 : Int) (od) (od); have HP76 := Kd.R_putg HO_8.out (x10_1 : Int) (wrap64 ((rd x8_2 (ji17)) + 3))) | ((with_reducible refine gate_store (t := 3) (p := 89) rfl ?_); (try (rw [drewN_self wc]; generalize hq_ : World.drewN wc _ = wc; have n0_ := am (Kd.R_at hq_ HO_8.out); have n1_ := am (Kd.R_at hq_ HO_9.out); have n2_ := am (blk_at hq_ BK195.out); have n3_ := am (below_at hq_ HB.out); clear hq_ HO_8 HO_9 BK195 HB; have HO_8 := n0_; have HO_9 := n1_; have BK195 := n2_; have HB := n3_; clear n0_ n1_ n2_ n3_; (try (obtain ⟨hy76_, hz76_⟩ := Kd.R_celln 0 HO_8.out (x10_1 : Int) (od) (od))); (try (have HP76 := Kd.R_putg HO_8.out (x10_1 : Int) (wrap64 ((rd x8_2 (ji17)) + 3)))))); refine store_event (t := 3) (p := 89) (v := ?vo_w77) (w1 := (wc.setCell ⟨go71, (x10_1 : Int).toNat, none⟩ (.int .i64 (wrap64 ((rd x8_2 (ji17)) + 3))))) ?hg ?ho ?hn ?hr ?_; (case ho => rfl); (case hg => rfl); (case hn => rfl); (case hr => first | (go_simp; done) | (go_simp; rfl)); intro w77 hw; have hg : wc.grownBy w77 (some go71) := (by rw [hw]; exact HP76.2); have hp_ : Kd.R (Kd.int .i64) 3 w77 w.heap.size (fun k_ => some k_ ≠ (.slice (some ad213) x9_2.length co75 : Value).ownBlock) (.slice (some ⟨go71, 0, none⟩) x8_2.length co73) y217 := (by rw [hw, Ny217.out]; exact HP76.1); clear HP76; replace HO_9 := am (Kd.R_after (v := (.slice (some ⟨go71, 0, none⟩) x8_2.length co73)) (v1 := (.slice (some ⟨go71, 0, none⟩) x8_2.length co73)) (ok := (fun _ => True)) (kR (Kd.R_mono HO_9.out (fun _ hk => ⟨trivial, hk⟩))) hg (.inl rfl)); replace BK195 := am (blk_grown (g := gb195) (o := .cells #[.slice A1_0 l1_0.length c1_0, .slice (some ad203) l1_1.length c1_1] 76 (0, 0)) (bk BK195.out) hg (Kd.R_ne HO_8.out BK195.out (by decide))); replace HO_8 := am (hp_); replace HB := am ((by rw [hw]; exact below_set (HB.out) GB71.out : Below w.heap.size w w77)); clear hg hw hp_; have p72 : 0 ≤ (x10_1 : Int) := od; have q72 : (x10_1 : Int) < ((x9_2.length : Int) : Int) := od; obtain ⟨go72, co72, eo72, gb72, gl72, cl72, HG72⟩ := Kd.R_form HO_9.out (by omega); (first | cases eo72 | (injection eo72 with ea_ en_ ec_; (first | subst ea_ | (injection ea_ with ea_; subst ea_)); subst ec_; clear en_)); have GB72 := am gb72; have GG72 := am HG72; clear gb72 gl72 HG72; (first | simp only [add_plain] at hx213_0 | skip); obtain ⟨hx72_0, hf72_0⟩ := Kd.R_celln 0 HO_9.out (x10_1 : Int) p72 q72; replace p72 := eq_true p72; replace q72 := eq_true q72; have n_ := am (Kd.R_mono (ok' := (fun k_ => some k_ ≠ (.slice (some ⟨go71, 0, none⟩) x8_2.length co73 : Value).ownBlock)) HO_9.out (fun k_ hk => hk.2)); clear HO_9; have HO_9 := n_; clear n_; obtain ⟨hy78_, hz78_⟩ := Kd.R_celln 0 HO_9.out (x10_1 : Int) (od) (od); have HP78 := Kd.R_putg HO_9.out (x10_1 : Int) x11_2) | ((with_reducible refine gate_store (t := 3) (p := 93) rfl ?_); (try (rw [drewN_self w77]; generalize hq_ : World.drewN w77 _ = w77; have n0_ := am (Kd.R_at hq_ HO_8.out); have n1_ := am (Kd.R_at hq_ HO_9.out); have n2_ := am (blk_at hq_ BK195.out); have n3_ := am (below_at hq_ HB.out); clear hq_ HO_8 HO_9 BK195 HB; have HO_8 := n0_; have HO_9 := n1_; have BK195 := n2_; have HB := n3_; clear n0_ n1_ n2_ n3_; (try (have n_ := am (Kd.R_mono (ok' := (fun k_ => some k_ ≠ (.slice (some ⟨go71, 0, none⟩) x8_2.length co73 : Value).ownBlock)) HO_9.out (fun k_ hk => hk.2)); clear HO_9; have HO_9 := n_; clear n_)); (try (obtain ⟨hy78_, hz78_⟩ := Kd.R_celln 0 HO_9.out (x10_1 : Int) (od) (od))); (try (have HP78 := Kd.R_putg HO_9.out (x10_1 : Int) x11_2)))); refine store_event (t := 3) (p := 93) (v := ?vo_w79) (w1 := (w77.setCell ⟨go72, (x10_1 : Int).toNat, none⟩ (.int .i64 x11_2))) ?hg ?ho ?hn ?hr ?_; (case ho => rfl); (case hg => rfl); (case hn => rfl); (case hr => first | (go_simp; done) | (go_simp; rfl)); intro w79 hw; have hg : w77.grownBy w79 (some go72) := (by rw [hw]; exact HP78.2); have hp_ : Kd.R (Kd.int .i64) 3 w79 w.heap.size (fun k_ => some k_ ≠ (.slice (some ⟨go71, 0, none⟩) x8_2.length co73 : Value).ownBlock) (.slice (some ⟨go72, 0, none⟩) x9_2.length co75) y218 := (by rw [hw, Ny218.out]; exact HP78.1); clear HP78; replace HO_8 := am (Kd.R_after (v := (.slice (some ⟨go72, 0, none⟩) x9_2.length co75)) (v1 := (.slice (some ⟨go72, 0, none⟩) x9_2.length co75)) (ok := (fun _ => True)) (kR (Kd.R_mono HO_8.out (fun _ hk => ⟨trivial, hk⟩))) hg (.inl rfl)); replace BK195 := am (blk_grown (g := gb195) (o := .cells #[.slice A1_0 l1_0.length c1_0, .slice (some ad203) l1_1.length c1_1] 76 (0, 0)) (bk BK195.out) hg (Kd.R_ne HO_9.out BK195.out (by decide))); replace HO_9 := am (hp_); replace HB := am ((by rw [hw]; exact below_set (HB.out) GB72.out : Below w.heap.size w w79)); clear hg hw hp_))
                                                  repeat (go_quiet (first | (go_at_call 127; (with_reducible refine (spec_l08Word.calls kj13 _ _ l0 (a2.extract ((rd l1_1 x10_1) : Int).toNat ((rd l1_1 (ji17)) : Int).toNat) false _ ?side1 ?side2 A26.out).mono ?_); (case side1 => exact cC (Kd.C_below HR0.out HB.out)); (case side2 => exact HC0.out); rintro e w' ⟨rfl, ⟨nd, rfl⟩⟩; (try first | exact ⟨rfl, _, World.drewN_drewN _ _ _⟩ | exact ⟨rfl, _, Eq.trans (World.drewN_drewN _ _ _) (congrArg (World.drewN _) (Nat.add_assoc _ _ _))⟩); obtain ⟨Ao75, co75, eo75⟩ := Kd.R_slice HO_9.out; subst eo75; have p213 : 0 ≤ (x10_1 : Int) := od; have q213 : x10_1 < (x9_2.length : Int) := od; obtain ⟨ad213, e213, hx213_0⟩ := Kd.at_int (Kd.R_reads' HO_9.out).2.2 x10_1 p213 q213; cases e213; replace p213 := eq_true p213; replace q213 := eq_true q213; have p216 : 0 ≤ (x10_1 : Int) := od; have q216 : x10_1 < (x8_2.length : Int) := od; obtain ⟨ad216, e216, hx216_0⟩ := Kd.at_int (Kd.R_reads' HO_8.out).2.2 x10_1 p216 q216; obtain rfl : ad202 = ad216 := (by injection e216); replace p216 := eq_true p216; replace q216 := eq_true q216; have p71 : 0 ≤ (x10_1 : Int) := od; have q71 : (x10_1 : Int) < ((x8_2.length : Int) : Int) := od; obtain ⟨go71, co71, eo71, gb71, gl71, cl71, HG71⟩ := Kd.R_form HO_8.out (by omega); (first | cases eo71 | (injection eo71 with ea_ en_ ec_; (first | subst ea_ | (injection ea_ with ea_; subst ea_)); subst ec_; clear en_)); have GB71 := am gb71; have GG71 := am HG71; clear gb71 gl71 HG71; (first | simp only [add_plain] at hx202_0 | skip); (first | simp only [add_plain] at hx216_0 | skip); obtain ⟨hx71_0, hf71_0⟩ := Kd.R_celln 0 HO_8.out (x10_1 : Int) p71 q71; replace p71 := eq_true p71; replace q71 := eq_true q71; obtain ⟨hy76_, hz76_⟩ := Kd.R_celln 0 HO_8.out (x10_1 : Int) (od) (od); have HP76 := Kd.R_putg HO_8.out (x10_1 : Int) (wrap64 ((rd x8_2 (ji17)) + 3))) | ((with_reducible refine gate_store (t := 3) (p := 89) rfl ?_); (try (rw [drewN_self wc]; generalize hq_ : World.drewN wc _ = wc; have n0_ := am (Kd.R_at hq_ HO_8.out); have n1_ := am (Kd.R_at hq_ HO_9.out); have n2_ := am (blk_at hq_ BK195.out); have n3_ := am (below_at hq_ HB.out); clear hq_ HO_8 HO_9 BK195 HB; have HO_8 := n0_; have HO_9 := n1_; have BK195 := n2_; have HB := n3_; clear n0_ n1_ n2_ n3_; (try (obtain ⟨hy76_, hz76_⟩ := Kd.R_celln 0 HO_8.out (x10_1 : Int) (od) (od))); (try (have HP76 := Kd.R_putg HO_8.out (x10_1 : Int) (wrap64 ((rd x8_2 (ji17)) + 3)))))); refine store_event (t := 3) (p := 89) (v := ?vo_w77) (w1 := (wc.setCell ⟨go71, (x10_1 : Int).toNat, none⟩ (.int .i64 (wrap64 ((rd x8_2 (ji17)) + 3))))) ?hg ?ho ?hn ?hr ?_; (case ho => rfl); (case hg => rfl); (case hn => rfl); (case hr => first | (go_simp; done) | (go_simp; rfl)); intro w77 hw; have hg : wc.grownBy w77 (some go71) := (by rw [hw]; exact HP76.2); have hp_ : Kd.R (Kd.int .i64) 3 w77 w.heap.size (fun k_ => some k_ ≠ (.slice (some ad213) x9_2.length co75 : Value).ownBlock) (.slice (some ⟨go71, 0, none⟩) x8_2.length co73) y217 := (by rw [hw, Ny217.out]; exact HP76.1); clear HP76; replace HO_9 := am (Kd.R_after (v := (.slice (some ⟨go71, 0, none⟩) x8_2.length co73)) (v1 := (.slice (some ⟨go71, 0, none⟩) x8_2.length co73)) (ok := (fun _ => True)) (kR (Kd.R_mono HO_9.out (fun _ hk => ⟨trivial, hk⟩))) hg (.inl rfl)); replace BK195 := am (blk_grown (g := gb195) (o := .cells #[.slice A1_0 l1_0.length c1_0, .slice (some ad203) l1_1.length c1_1] 76 (0, 0)) (bk BK195.out) hg (Kd.R_ne HO_8.out BK195.out (by decide))); replace HO_8 := am (hp_); replace HB := am ((by rw [hw]; exact below_set (HB.out) GB71.out : Below w.heap.size w w77)); clear hg hw hp_; have p72 : 0 ≤ (x10_1 : Int) := od; have q72 : (x10_1 : Int) < ((x9_2.length : Int) : Int) := od; obtain ⟨go72, co72, eo72, gb72, gl72, cl72, HG72⟩ := Kd.R_form HO_9.out (by omega); (first | cases eo72 | (injection eo72 with ea_ en_ ec_; (first | subst ea_ | (injection ea_ with ea_; subst ea_)); subst ec_; clear en_)); have GB72 := am gb72; have GG72 := am HG72; clear gb72 gl72 HG72; (first | simp only [add_plain] at hx213_0 | skip); obtain ⟨hx72_0, hf72_0⟩ := Kd.R_celln 0 HO_9.out (x10_1 : Int) p72 q72; replace p72 := eq_true p72; replace q72 := eq_true q72; have n_ := am (Kd.R_mono (ok' := (fun k_ => some k_ ≠ (.slice (some ⟨go71, 0, none⟩) x8_2.length co73 : Value).ownBlock)) HO_9.out (fun k_ hk => hk.2)); clear HO_9; have HO_9 := n_; clear n_; obtain ⟨hy78_, hz78_⟩ := Kd.R_celln 0 HO_9.out (x10_1 : Int) (od) (od); have HP78 := Kd.R_putg HO_9.out (x10_1 : Int) x11_2) | ((with_reducible refine gate_store (t := 3) (p := 93) rfl ?_); (try (rw [drewN_self w77]; generalize hq_ : World.drewN w77 _ = w77; have n0_ := am (Kd.R_at hq_ HO_8.out); have n1_ := am (Kd.R_at hq_ HO_9.out); have n2_ := am (blk_at hq_ BK195.out); have n3_ := am (below_at hq_ HB.out); clear hq_ HO_8 HO_9 BK195 HB; have HO_8 := n0_; have HO_9 := n1_; have BK195 := n2_; have HB := n3_; clear n0_ n1_ n2_ n3_; (try (have n_ := am (Kd.R_mono (ok' := (fun k_ => some k_ ≠ (.slice (some ⟨go71, 0, none⟩) x8_2.length co73 : Value).ownBlock)) HO_9.out (fun k_ hk => hk.2)); clear HO_9; have HO_9 := n_; clear n_)); (try (obtain ⟨hy78_, hz78_⟩ := Kd.R_celln 0 HO_9.out (x10_1 : Int) (od) (od))); (try (have HP78 := Kd.R_putg HO_9.out (x10_1 : Int) x11_2)))); refine store_event (t := 3) (p := 93) (v := ?vo_w79) (w1 := (w77.setCell ⟨go72, (x10_1 : Int).toNat, none⟩ (.int .i64 x11_2))) ?hg ?ho ?hn ?hr ?_; (case ho => rfl); (case hg => rfl); (case hn => rfl); (case hr => first | (go_simp; done) | (go_simp; rfl)); intro w79 hw; have hg : w77.grownBy w79 (some go72) := (by rw [hw]; exact HP78.2); have hp_ : Kd.R (Kd.int .i64) 3 w79 w.heap.size (fun k_ => some k_ ≠ (.slice (some ⟨go71, 0, none⟩) x8_2.length co73 : Value).ownBlock) (.slice (some ⟨go72, 0, none⟩) x9_2.length co75) y218 := (by rw [hw, Ny218.out]; exact HP78.1); clear HP78; replace HO_8 := am (Kd.R_after (v := (.slice (some ⟨go72, 0, none⟩) x9_2.length co75)) (v1 := (.slice (some ⟨go72, 0, none⟩) x9_2.length co75)) (ok := (fun _ => True)) (kR (Kd.R_mono HO_8.out (fun _ hk => ⟨trivial, hk⟩))) hg (.inl rfl)); replace BK195 := am (blk_grown (g := gb195) (o := .cells #[.slice A1_0 l1_0.length c1_0, .slice (some ad203) l1_1.length c1_1] 76 (0, 0)) (bk BK195.out) hg (Kd.R_ne HO_9.out BK195.out (by decide))); replace HO_9 := am (hp_); replace HB := am ((by rw [hw]; exact below_set (HB.out) GB72.out : Below w.heap.size w w79)); clear hg hw hp_)); try go_wp2_with (first | (go_at_call 127; (with_reducible refine (spec_l08Word.calls kj13 _ _ l0 (a2.extract ((rd l1_1 x10_1) : Int).toNat ((rd l1_1 (ji17)) : Int).toNat) false _ ?side1 ?side2 A26.out).mono ?_); (case side1 => exact cC (Kd.C_below HR0.out HB.out)); (case side2 => exact HC0.out); rintro e w' ⟨rfl, ⟨nd, rfl⟩⟩; (try first | exact ⟨rfl, _, World.drewN_drewN _ _ _⟩ | exact ⟨rfl, _, Eq.trans (World.drewN_drewN _ _ _) (congrArg (World.drewN _) (Nat.add_assoc _ _ _))⟩); obtain ⟨Ao75, co75, eo75⟩ := Kd.R_slice HO_9.out; subst eo75; have p213 : 0 ≤ (x10_1 : Int) := od; have q213 : x10_1 < (x9_2.length : Int) := od; obtain ⟨ad213, e213, hx213_0⟩ := Kd.at_int (Kd.R_reads' HO_9.out).2.2 x10_1 p213 q213; cases e213; replace p213 := eq_true p213; replace q213 := eq_true q213; have p216 : 0 ≤ (x10_1 : Int) := od; have q216 : x10_1 < (x8_2.length : Int) := od; obtain ⟨ad216, e216, hx216_0⟩ := Kd.at_int (Kd.R_reads' HO_8.out).2.2 x10_1 p216 q216; obtain rfl : ad202 = ad216 := (by injection e216); replace p216 := eq_true p216; replace q216 := eq_true q216; have p71 : 0 ≤ (x10_1 : Int) := od; have q71 : (x10_1 : Int) < ((x8_2.length : Int) : Int) := od; obtain ⟨go71, co71, eo71, gb71, gl71, cl71, HG71⟩ := Kd.R_form HO_8.out (by omega); (first | cases eo71 | (injection eo71 with ea_ en_ ec_; (first | subst ea_ | (injection ea_ with ea_; subst ea_)); subst ec_; clear en_)); have GB71 := am gb71; have GG71 := am HG71; clear gb71 gl71 HG71; (first | simp only [add_plain] at hx202_0 | skip); (first | simp only [add_plain] at hx216_0 | skip); obtain ⟨hx71_0, hf71_0⟩ := Kd.R_celln 0 HO_8.out (x10_1 : Int) p71 q71; replace p71 := eq_true p71; replace q71 := eq_true q71; obtain ⟨hy76_, hz76_⟩ := Kd.R_celln 0 HO_8.out (x10_1 : Int) (od) (od); have HP76 := Kd.R_putg HO_8.out (x10_1 : Int) (wrap64 ((rd x8_2 (ji17)) + 3))) | ((with_reducible refine gate_store (t := 3) (p := 89) rfl ?_); (try (rw [drewN_self wc]; generalize hq_ : World.drewN wc _ = wc; have n0_ := am (Kd.R_at hq_ HO_8.out); have n1_ := am (Kd.R_at hq_ HO_9.out); have n2_ := am (blk_at hq_ BK195.out); have n3_ := am (below_at hq_ HB.out); clear hq_ HO_8 HO_9 BK195 HB; have HO_8 := n0_; have HO_9 := n1_; have BK195 := n2_; have HB := n3_; clear n0_ n1_ n2_ n3_; (try (obtain ⟨hy76_, hz76_⟩ := Kd.R_celln 0 HO_8.out (x10_1 : Int) (od) (od))); (try (have HP76 := Kd.R_putg HO_8.out (x10_1 : Int) (wrap64 ((rd x8_2 (ji17)) + 3)))))); refine store_event (t := 3) (p := 89) (v := ?vo_w77) (w1 := (wc.setCell ⟨go71, (x10_1 : Int).toNat, none⟩ (.int .i64 (wrap64 ((rd x8_2 (ji17)) + 3))))) ?hg ?ho ?hn ?hr ?_; (case ho => rfl); (case hg => rfl); (case hn => rfl); (case hr => first | (go_simp; done) | (go_simp; rfl)); intro w77 hw; have hg : wc.grownBy w77 (some go71) := (by rw [hw]; exact HP76.2); have hp_ : Kd.R (Kd.int .i64) 3 w77 w.heap.size (fun k_ => some k_ ≠ (.slice (some ad213) x9_2.length co75 : Value).ownBlock) (.slice (some ⟨go71, 0, none⟩) x8_2.length co73) y217 := (by rw [hw, Ny217.out]; exact HP76.1); clear HP76; replace HO_9 := am (Kd.R_after (v := (.slice (some ⟨go71, 0, none⟩) x8_2.length co73)) (v1 := (.slice (some ⟨go71, 0, none⟩) x8_2.length co73)) (ok := (fun _ => True)) (kR (Kd.R_mono HO_9.out (fun _ hk => ⟨trivial, hk⟩))) hg (.inl rfl)); replace BK195 := am (blk_grown (g := gb195) (o := .cells #[.slice A1_0 l1_0.length c1_0, .slice (some ad203) l1_1.length c1_1] 76 (0, 0)) (bk BK195.out) hg (Kd.R_ne HO_8.out BK195.out (by decide))); replace HO_8 := am (hp_); replace HB := am ((by rw [hw]; exact below_set (HB.out) GB71.out : Below w.heap.size w w77)); clear hg hw hp_; have p72 : 0 ≤ (x10_1 : Int) := od; have q72 : (x10_1 : Int) < ((x9_2.length : Int) : Int) := od; obtain ⟨go72, co72, eo72, gb72, gl72, cl72, HG72⟩ := Kd.R_form HO_9.out (by omega); (first | cases eo72 | (injection eo72 with ea_ en_ ec_; (first | subst ea_ | (injection ea_ with ea_; subst ea_)); subst ec_; clear en_)); have GB72 := am gb72; have GG72 := am HG72; clear gb72 gl72 HG72; (first | simp only [add_plain] at hx213_0 | skip); obtain ⟨hx72_0, hf72_0⟩ := Kd.R_celln 0 HO_9.out (x10_1 : Int) p72 q72; replace p72 := eq_true p72; replace q72 := eq_true q72; have n_ := am (Kd.R_mono (ok' := (fun k_ => some k_ ≠ (.slice (some ⟨go71, 0, none⟩) x8_2.length co73 : Value).ownBlock)) HO_9.out (fun k_ hk => hk.2)); clear HO_9; have HO_9 := n_; clear n_; obtain ⟨hy78_, hz78_⟩ := Kd.R_celln 0 HO_9.out (x10_1 : Int) (od) (od); have HP78 := Kd.R_putg HO_9.out (x10_1 : Int) x11_2) | ((with_reducible refine gate_store (t := 3) (p := 93) rfl ?_); (try (rw [drewN_self w77]; generalize hq_ : World.drewN w77 _ = w77; have n0_ := am (Kd.R_at hq_ HO_8.out); have n1_ := am (Kd.R_at hq_ HO_9.out); have n2_ := am (blk_at hq_ BK195.out); have n3_ := am (below_at hq_ HB.out); clear hq_ HO_8 HO_9 BK195 HB; have HO_8 := n0_; have HO_9 := n1_; have BK195 := n2_; have HB := n3_; clear n0_ n1_ n2_ n3_; (try (have n_ := am (Kd.R_mono (ok' := (fun k_ => some k_ ≠ (.slice (some ⟨go71, 0, none⟩) x8_2.length co73 : Value).ownBlock)) HO_9.out (fun k_ hk => hk.2)); clear HO_9; have HO_9 := n_; clear n_)); (try (obtain ⟨hy78_, hz78_⟩ := Kd.R_celln 0 HO_9.out (x10_1 : Int) (od) (od))); (try (have HP78 := Kd.R_putg HO_9.out (x10_1 : Int) x11_2)))); refine store_event (t := 3) (p := 93) (v := ?vo_w79) (w1 := (w77.setCell ⟨go72, (x10_1 : Int).toNat, none⟩ (.int .i64 x11_2))) ?hg ?ho ?hn ?hr ?_; (case ho => rfl); (case hg => rfl); (case hn => rfl); (case hr => first | (go_simp; done) | (go_simp; rfl)); intro w79 hw; have hg : w77.grownBy w79 (some go72) := (by rw [hw]; exact HP78.2); have hp_ : Kd.R (Kd.int .i64) 3 w79 w.heap.size (fun k_ => some k_ ≠ (.slice (some ⟨go71, 0, none⟩) x8_2.length co73 : Value).ownBlock) (.slice (some ⟨go72, 0, none⟩) x9_2.length co75) y218 := (by rw [hw, Ny218.out]; exact HP78.1); clear HP78; replace HO_8 := am (Kd.R_after (v := (.slice (some ⟨go72, 0, none⟩) x9_2.length co75)) (v1 := (.slice (some ⟨go72, 0, none⟩) x9_2.length co75)) (ok := (fun _ => True)) (kR (Kd.R_mono HO_8.out (fun _ hk => ⟨trivial, hk⟩))) hg (.inl rfl)); replace BK195 := am (blk_grown (g := gb195) (o := .cells #[.slice A1_0 l1_0.length c1_0, .slice (some ad203) l1_1.length c1_1] 76 (0, 0)) (bk BK195.out) hg (Kd.R_ne HO_9.out BK195.out (by decide))); replace HO_9 := am (hp_); replace HB := am ((by rw [hw]; exact below_set (HB.out) GB72.out : Below w.heap.size w w79)); clear hg hw hp_)))
                                                  go_roundg kj13
                                                  case measure => have := HK1.out; have := HK2.out; have := HJ13.out; omega
                                                  case rel => exact ⟨(y217), (y218), (wrap64 (x11_2 + 1)), (by first | rfl | (simp; done) | (simp [*]; done)), H', ⟨by have := HK1.out; have := HK2.out; have := HJ13.out; omega⟩, ⟨kR (Kd.R_mono HO_8.out (fun _ hk => hk.2))⟩, ⟨kR HO_9.out⟩, ⟨bk BK195.out⟩, ⟨bS⟩⟩
                                                · rw [if_neg c70] at H
                                                  have c70b0 : decide ((wrap64 ((rd x8_2 (ji17)) + 3)) ≤ (rd x8_2 x10_1)) = false := decide_eq_false c70
                                                  clear c70
                                                  have H' := am H
                                                  clear H
                                                  obtain ⟨Ao80, co80, eo80⟩ := Kd.R_slice HO_8.out
                                                  subst eo80
                                                  have p202 : 0 ≤ ((ji17) : Int) := od
                                                  have q202 : (ji17) < (x8_2.length : Int) := od
                                                  obtain ⟨ad202, e202, hx202_0⟩ := Kd.at_int (Kd.R_reads' HO_8.out).2.2 (ji17) p202 q202
                                                  cases e202
                                                  replace p202 := eq_true p202
                                                  replace q202 := eq_true q202
                                                  have hcz81_0 := bc BK195.out 0 (.slice A1_0 l1_0.length c1_0)
                                                  have hcz81_1 := bc BK195.out 1 (.slice A1_1 l1_1.length c1_1)
                                                  have hfz81_0 := blk_frozen BK195.out 0
                                                  have hfz81_1 := blk_frozen BK195.out 1
                                                  have p203 : 0 ≤ (x10_1 : Int) := od
                                                  have q203 : x10_1 < (l1_1.length : Int) := od
                                                  obtain ⟨ad203, e203, hx203_0⟩ := Kd.at_int HR1_1.out x10_1 p203 q203
                                                  cases e203
                                                  replace hx203_0 := (HB.out.cell (World.block_lt_of_cell? w _ hx203_0)).trans hx203_0
                                                  replace p203 := eq_true p203
                                                  replace q203 := eq_true q203
                                                  have p204 : 0 ≤ ((ji17) : Int) := od
                                                  have q204 : (ji17) < (l1_1.length : Int) := od
                                                  obtain ⟨ad204, e204, hx204_0⟩ := Kd.at_int HR1_1.out (ji17) p204 q204
                                                  obtain rfl : ad203 = ad204 := (by injection e204)
                                                  replace hx204_0 := (HB.out.cell (World.block_lt_of_cell? w _ hx204_0)).trans hx204_0
                                                  replace p204 := eq_true p204
                                                  replace q204 := eq_true q204
                                                  go_wp2_with (first | (go_at_call 127; (with_reducible refine (spec_l08Word.calls kj13 _ _ l0 (a2.extract ((rd l1_1 x10_1) : Int).toNat ((rd l1_1 (ji17)) : Int).toNat) false _ ?side1 ?side2 A26.out).mono ?_); (case side1 => exact cC (Kd.C_below HR0.out HB.out)); (case side2 => exact HC0.out); rintro e w' ⟨rfl, ⟨nd, rfl⟩⟩; (try first | exact ⟨rfl, _, World.drewN_drewN _ _ _⟩ | exact ⟨rfl, _, Eq.trans (World.drewN_drewN _ _ _) (congrArg (World.drewN _) (Nat.add_assoc _ _ _))⟩); obtain ⟨Ao82, co82, eo82⟩ := Kd.R_slice HO_9.out; subst eo82; have p213 : 0 ≤ (x10_1 : Int) := od; have q213 : x10_1 < (x9_2.length : Int) := od; obtain ⟨ad213, e213, hx213_0⟩ := Kd.at_int (Kd.R_reads' HO_9.out).2.2 x10_1 p213 q213; cases e213; replace p213 := eq_true p213; replace q213 := eq_true q213; have p216 : 0 ≤ (x10_1 : Int) := od; have q216 : x10_1 < (x8_2.length : Int) := od; obtain ⟨ad216, e216, hx216_0⟩ := Kd.at_int (Kd.R_reads' HO_8.out).2.2 x10_1 p216 q216; obtain rfl : ad202 = ad216 := (by injection e216); replace p216 := eq_true p216; replace q216 := eq_true q216))
                                                  repeat (go_quiet (first | (go_at_call 127; (with_reducible refine (spec_l08Word.calls kj13 _ _ l0 (a2.extract ((rd l1_1 x10_1) : Int).toNat ((rd l1_1 (ji17)) : Int).toNat) false _ ?side1 ?side2 A26.out).mono ?_); (case side1 => exact cC (Kd.C_below HR0.out HB.out)); (case side2 => exact HC0.out); rintro e w' ⟨rfl, ⟨nd, rfl⟩⟩; (try first | exact ⟨rfl, _, World.drewN_drewN _ _ _⟩ | exact ⟨rfl, _, Eq.trans (World.drewN_drewN _ _ _) (congrArg (World.drewN _) (Nat.add_assoc _ _ _))⟩); obtain ⟨Ao82, co82, eo82⟩ := Kd.R_slice HO_9.out; subst eo82; have p213 : 0 ≤ (x10_1 : Int) := od; have q213 : x10_1 < (x9_2.length : Int) := od; obtain ⟨ad213, e213, hx213_0⟩ := Kd.at_int (Kd.R_reads' HO_9.out).2.2 x10_1 p213 q213; cases e213; replace p213 := eq_true p213; replace q213 := eq_true q213; have p216 : 0 ≤ (x10_1 : Int) := od; have q216 : x10_1 < (x8_2.length : Int) := od; obtain ⟨ad216, e216, hx216_0⟩ := Kd.at_int (Kd.R_reads' HO_8.out).2.2 x10_1 p216 q216; obtain rfl : ad202 = ad216 := (by injection e216); replace p216 := eq_true p216; replace q216 := eq_true q216)); try go_wp2_with (first | (go_at_call 127; (with_reducible refine (spec_l08Word.calls kj13 _ _ l0 (a2.extract ((rd l1_1 x10_1) : Int).toNat ((rd l1_1 (ji17)) : Int).toNat) false _ ?side1 ?side2 A26.out).mono ?_); (case side1 => exact cC (Kd.C_below HR0.out HB.out)); (case side2 => exact HC0.out); rintro e w' ⟨rfl, ⟨nd, rfl⟩⟩; (try first | exact ⟨rfl, _, World.drewN_drewN _ _ _⟩ | exact ⟨rfl, _, Eq.trans (World.drewN_drewN _ _ _) (congrArg (World.drewN _) (Nat.add_assoc _ _ _))⟩); obtain ⟨Ao82, co82, eo82⟩ := Kd.R_slice HO_9.out; subst eo82; have p213 : 0 ≤ (x10_1 : Int) := od; have q213 : x10_1 < (x9_2.length : Int) := od; obtain ⟨ad213, e213, hx213_0⟩ := Kd.at_int (Kd.R_reads' HO_9.out).2.2 x10_1 p213 q213; cases e213; replace p213 := eq_true p213; replace q213 := eq_true q213; have p216 : 0 ≤ (x10_1 : Int) := od; have q216 : x10_1 < (x8_2.length : Int) := od; obtain ⟨ad216, e216, hx216_0⟩ := Kd.at_int (Kd.R_reads' HO_8.out).2.2 x10_1 p216 q216; obtain rfl : ad202 = ad216 := (by injection e216); replace p216 := eq_true p216; replace q216 := eq_true q216)))
                                                  go_roundg kj13
                                                  case measure => have := HK1.out; have := HK2.out; have := HJ13.out; omega
                                                  case rel => exact ⟨(x8_2), (x9_2), (wrap64 (x11_2 + 1)), (by first | rfl | (simp; done) | (simp [*]; done)), H', ⟨by have := HK1.out; have := HK2.out; have := HJ13.out; omega⟩, ⟨kR HO_8.out⟩, ⟨kR HO_9.out⟩, ⟨bk BK195.out⟩, ⟨bS⟩⟩
                                              · rw [if_neg c69] at H
                                                exact absurd H (by simp)
                                          · rw [if_neg c57] at H
                                            exact absurd H (by simp)
                                    · rw [if_neg c25] at H
                                      exact absurd H (by simp)
                                  · rw [if_neg c24] at H
                                    exact absurd H (by simp)
                                · rw [if_neg c23] at H
                                  exact absurd H (by simp)
                              · rw [if_neg c22] at H
                                exact absurd H (by simp)
                            · rw [if_neg c21] at H
                              exact absurd H (by simp)
                          · rw [if_neg c20] at H
                            exact absurd H (by simp)
                        · rw [if_neg c19] at H
                          exact absurd H (by simp)
                      · rw [if_neg c18] at H
                        exact absurd H (by simp)
                    · replace c16 := Bool.eq_false_iff.mpr c16
                      subst c16
                      have H1 : (spec_l08Fewest.l0 kj13 l0 a2 (l1_0.length : Int) x8_2 x9_2 (wrap64 (x10_1 - 1)) l1_0 l1_1) = some r := by rw [if_neg (show ¬ (false = true) by decide)] at H; exact H
                      clear H
                      have H := H1
                      clear H1
                      have H' := am H
                      clear H
                      go_wp2
                      repeat (go_quiet (fail); try go_wp2)
                      go_roundg kj13
                      case measure => have := HK1.out; have := HK2.out; have := HJ13.out; omega
                      case rel => exact ⟨(x8_2), (x9_2), (wrap64 (x10_1 - 1)), (by first | rfl | (simp; done) | (simp [*]; done)), H', ⟨by have := HK1.out; have := HK2.out; have := HJ13.out; omega⟩, ⟨kR HO_8.out⟩, ⟨kR HO_9.out⟩, ⟨bk BK195.out⟩, ⟨bS⟩⟩
          · rw [if_neg c13] at H
            have c13b0 : decide (0 ≤ x10_1) = false := decide_eq_false c13
            clear c13
            obtain ⟨y219, hy219⟩ : ∃ y_ : List Int, y_ = (([] : List Int)) := ⟨_, rfl⟩
            replace H : (spec_l08Fewest.l2 k1 (l1_0.length : Int) x9_1 y219 0) = some r := by first | (rw [hy219]; with_reducible exact H) | (have H2_ := (Option.bind_some _ _).symm.trans H; rw [hy219]; with_reducible exact H2_) | (have H2_ := (Option.bind_some _ _).symm.trans H; with_reducible exact H2_) | with_reducible exact H | (rw [hy219]; exact H) | exact H
            have Ny219 := am hy219
            clear hy219
            have H' := am H
            clear H
            go_wp2_with (first | ((with_reducible refine gate_dst (N := 94) rfl ?_); refine Kd.R_lit (Kd.int .i64) _ 3 ?hg (N := 94) ?hd (xs := ([] : List Int)) (inner := []) (ok := fun _ => True) (okp := fun _ => True) ?hr ?hp (fun _ hk => hk) trivial (Below.refl _ _) (Nat.le_refl _) (by simp) ?_; (case hd => rfl); (case hg => rfl); (case hr => first | (go_simp; done) | (go_simp; rfl)); (case hp => exact (Reps.none _ _)); intro v220 w83 ho84 hb hg_ hnew_; clear hg_ hnew_; (first | rw [← Ny219.out] at ho84 | (simp only [Int.reduceToNat] at ho84; rw [← Ny219.out] at ho84)); have HO221 := am (Kd.R_lower (Kd.R_new' (Kd.R_new' ho84 (Kd.R_lt (kR HO_8.out))) (Kd.R_lt (kR HO_9.out))) (below_size bS)); replace HO_8 := am (Kd.R_elder' (kR HO_8.out) (Kd.R_base ho84) hb); replace HO_9 := am (Kd.R_elder' (kR HO_9.out) (Kd.R_base ho84) hb); replace BK195 := am (blk_below (g := gb195) (o := .cells #[.slice A1_0 l1_0.length c1_0, .slice A1_1 l1_1.length c1_1] 76 (0, 0)) (bk BK195.out) hb); replace HB := am (below_step bS hb); clear hb ho84))
            repeat (go_quiet (first | ((with_reducible refine gate_dst (N := 94) rfl ?_); refine Kd.R_lit (Kd.int .i64) _ 3 ?hg (N := 94) ?hd (xs := ([] : List Int)) (inner := []) (ok := fun _ => True) (okp := fun _ => True) ?hr ?hp (fun _ hk => hk) trivial (Below.refl _ _) (Nat.le_refl _) (by simp) ?_; (case hd => rfl); (case hg => rfl); (case hr => first | (go_simp; done) | (go_simp; rfl)); (case hp => exact (Reps.none _ _)); intro v220 w83 ho84 hb hg_ hnew_; clear hg_ hnew_; (first | rw [← Ny219.out] at ho84 | (simp only [Int.reduceToNat] at ho84; rw [← Ny219.out] at ho84)); have HO221 := am (Kd.R_lower (Kd.R_new' (Kd.R_new' ho84 (Kd.R_lt (kR HO_8.out))) (Kd.R_lt (kR HO_9.out))) (below_size bS)); replace HO_8 := am (Kd.R_elder' (kR HO_8.out) (Kd.R_base ho84) hb); replace HO_9 := am (Kd.R_elder' (kR HO_9.out) (Kd.R_base ho84) hb); replace BK195 := am (blk_below (g := gb195) (o := .cells #[.slice A1_0 l1_0.length c1_0, .slice A1_1 l1_1.length c1_1] 76 (0, 0)) (bk BK195.out) hb); replace HB := am (below_step bS hb); clear hb ho84)); try go_wp2_with (first | ((with_reducible refine gate_dst (N := 94) rfl ?_); refine Kd.R_lit (Kd.int .i64) _ 3 ?hg (N := 94) ?hd (xs := ([] : List Int)) (inner := []) (ok := fun _ => True) (okp := fun _ => True) ?hr ?hp (fun _ hk => hk) trivial (Below.refl _ _) (Nat.le_refl _) (by simp) ?_; (case hd => rfl); (case hg => rfl); (case hr => first | (go_simp; done) | (go_simp; rfl)); (case hp => exact (Reps.none _ _)); intro v220 w83 ho84 hb hg_ hnew_; clear hg_ hnew_; (first | rw [← Ny219.out] at ho84 | (simp only [Int.reduceToNat] at ho84; rw [← Ny219.out] at ho84)); have HO221 := am (Kd.R_lower (Kd.R_new' (Kd.R_new' ho84 (Kd.R_lt (kR HO_8.out))) (Kd.R_lt (kR HO_9.out))) (below_size bS)); replace HO_8 := am (Kd.R_elder' (kR HO_8.out) (Kd.R_base ho84) hb); replace HO_9 := am (Kd.R_elder' (kR HO_9.out) (Kd.R_base ho84) hb); replace BK195 := am (blk_below (g := gb195) (o := .cells #[.slice A1_0 l1_0.length c1_0, .slice A1_1 l1_1.length c1_1] 76 (0, 0)) (bk BK195.out) hb); replace HB := am (below_step bS hb); clear hb ho84)))
            go_loopg [13, 14] k1 (fun kq v13 v14 w' => ∃ (x13_2 : List Int) (x14_2 : Int), v14 = .int .i64 x14_2 ∧ Aside0 (spec_l08Fewest.l2 kq (l1_0.length : Int) x9_1 x13_2 x14_2 = some r) ∧ Aside0 (kq ≤ k1) ∧ Aside0 (Kd.R (Kd.int .i64) 3 w' w.heap.size (fun k_ => some k_ ≠ (v13 : Value).ownBlock) v200 x9_1) ∧ Aside0 (Kd.R (Kd.int .i64) 3 w' w.heap.size (fun k_ => some k_ ≠ (v200 : Value).ownBlock) v13 x13_2) ∧ Aside0 (w'.heap[gb195]? = some (.cells #[(.slice A1_0 l1_0.length c1_0), (.slice A1_1 l1_1.length c1_1)] 76 (0, 0))) ∧ Aside0 (Below w.heap.size w w'))
            case atStart => exact ⟨(y219), (0), (by first | rfl | (simp; done) | (simp [*]; done)), H', ⟨Nat.le_refl _⟩, ⟨kR (Kd.R_mono HO_9.out (fun _ hk => hk.2))⟩, ⟨kR (Kd.R_mono HO221.out (fun _ hk => hk.2))⟩, ⟨bk BK195.out⟩, ⟨bS⟩⟩
            case round =>
              clear H'
              try clear c1
              try clear c2
              try clear p2
              try clear q2
              try clear hx2
              try clear c3
              try clear p3
              try clear q3
              try clear hx3
              try clear hf3
              try clear c4
              try clear p4
              try clear q4
              try clear hx4
              try clear hf4
              try clear c5
              try clear c5b0
              try clear c5b1
              try clear c6
              try clear c6b0
              try clear c6b1
              try clear p6
              try clear q6
              try clear hx6
              try clear hf6
              try clear c7
              try clear p7
              try clear q7
              try clear hx7
              try clear hf7
              try clear c10
              try clear c13
              try clear c13b0
              try clear c15
              try clear c15b0
              try clear c16
              try clear c18
              try clear c18b0
              try clear c19
              try clear c19b0
              try clear c20
              try clear c20b0
              try clear p20
              try clear q20
              try clear hx20
              try clear c21
              try clear c21b0
              try clear p21
              try clear q21
              try clear hx21
              try clear c22
              try clear c22b0
              try clear c23
              try clear c23b0
              try clear c23b1
              try clear c24
              try clear c24b0
              try clear c24b1
              try clear c25
              try clear c25b0
              try clear c25b1
              try clear c27
              try clear c28
              try clear c28b0
              try clear c29
              try clear c29b0
              try clear c29b1
              try clear c30
              try clear c30b0
              try clear p31
              try clear q31
              try clear hx31
              try clear hf31
              try clear p32
              try clear q32
              try clear hx32
              try clear hf32
              try clear c40
              try clear c40b0
              try clear c41
              try clear c41b0
              try clear p42
              try clear q42
              try clear hx42
              try clear hf42
              try clear p43
              try clear q43
              try clear hx43
              try clear hf43
              try clear c54
              try clear c54b0
              try clear c57
              try clear c57b0
              try clear c58
              try clear c58b0
              try clear c58b1
              try clear c59
              try clear c59b0
              try clear p60
              try clear q60
              try clear hx60
              try clear hf60
              try clear p61
              try clear q61
              try clear hx61
              try clear hf61
              try clear p64
              try clear c69
              try clear c69b0
              try clear c70
              try clear c70b0
              try clear p71
              try clear q71
              try clear hx71
              try clear hf71
              try clear p72
              try clear q72
              try clear hx72
              try clear hf72
              try clear hcz34_0
              try clear hcz34_1
              try clear hcz45_0
              try clear hcz45_1
              try clear hcz52_0
              try clear hcz52_1
              try clear hcz56_0
              try clear hcz56_1
              try clear hcz63_0
              try clear hcz63_1
              try clear hcz74_0
              try clear hcz74_1
              try clear hcz81_0
              try clear hcz81_1
              try clear hcz8_0
              try clear hcz8_1
              try clear hfz34_0
              try clear hfz34_1
              try clear hfz45_0
              try clear hfz45_1
              try clear hfz52_0
              try clear hfz52_1
              try clear hfz56_0
              try clear hfz56_1
              try clear hfz63_0
              try clear hfz63_1
              try clear hfz74_0
              try clear hfz74_1
              try clear hfz81_0
              try clear hfz81_1
              try clear hfz8_0
              try clear hfz8_1
              try clear hx202_0
              try clear hx203_0
              try clear hx204_0
              try clear hx206_0
              try clear hx207_0
              try clear hx210_0
              try clear hx213_0
              try clear hx216_0
              try clear hx31_0
              try clear hx32_0
              try clear hx42_0
              try clear hx43_0
              try clear hx60_0
              try clear hx61_0
              try clear hx71_0
              try clear hx72_0
              try clear p2
              try clear p202
              try clear p203
              try clear p204
              try clear p206
              try clear p207
              try clear p210
              try clear p213
              try clear p216
              try clear p31
              try clear p32
              try clear p42
              try clear p43
              try clear p6
              try clear p60
              try clear p61
              try clear p71
              try clear p72
              try clear q202
              try clear q203
              try clear q204
              try clear q206
              try clear q207
              try clear q210
              try clear q213
              try clear q216
              try clear q31
              try clear q32
              try clear q42
              try clear q43
              try clear q60
              try clear q61
              try clear q71
              try clear q72
              obtain ⟨x13_2, x14_2, rfl, HA, HK2, HO_9, HO_13, BK195, HB⟩ := hrel
              cases gk with
              | zero => exact absurd HA.out (by simp [spec_l08Fewest.l2])
              | succ k2 =>
                have H := HA.out
                clear HA
                simp only [spec_l08Fewest.l2] at H
                by_cases c85 : x14_2 < (l1_0.length : Int)
                · rw [if_pos c85] at H
                  have c85b0 : decide (x14_2 < (l1_0.length : Int)) = true := decide_eq_true c85
                  clear c85
                  by_cases c86 : 0 ≤ x14_2
                  · rw [if_pos c86] at H
                    have c86b0 : decide (0 ≤ x14_2) = true := decide_eq_true c86
                    clear c86
                    by_cases c87 : x14_2 < (x9_1.length : Int)
                    · rw [if_pos c87] at H
                      have c87b0 : decide (x14_2 < (x9_1.length : Int)) = true := decide_eq_true c87
                      clear c87
                      by_cases c88 : x13_2.length < 17592186044416
                      · rw [if_pos c88] at H
                        have LMc88 := am c88
                        clear c88
                        obtain ⟨y223, hy223⟩ : ∃ y_ : List Int, y_ = (x13_2 ++ [rd x9_1 x14_2]) := ⟨_, rfl⟩
                        replace H : (spec_l08Fewest.l2 k2 (l1_0.length : Int) x9_1 y223 (wrap64 (x14_2 + (rd x9_1 x14_2)))) = some r := by first | (rw [hy223]; with_reducible exact H) | (have H2_ := (Option.bind_some _ _).symm.trans H; rw [hy223]; with_reducible exact H2_) | (have H2_ := (Option.bind_some _ _).symm.trans H; with_reducible exact H2_) | with_reducible exact H | (rw [hy223]; exact H) | exact H
                        have Ny223 := am hy223
                        clear hy223
                        have H' := am H
                        clear H
                        obtain ⟨Ao89, co89, eo89⟩ := Kd.R_slice HO_9.out
                        subst eo89
                        have p222 : 0 ≤ (x14_2 : Int) := od
                        have q222 : x14_2 < (x9_1.length : Int) := od
                        obtain ⟨ad222, e222, hx222_0⟩ := Kd.at_int (Kd.R_reads' HO_9.out).2.2 x14_2 p222 q222
                        cases e222
                        replace p222 := eq_true p222
                        replace q222 := eq_true q222
                        go_wp2_with (first | ((with_reducible refine gate_builtin (b := .append) (xs := #[.tmp 104, .tmp 109]) rfl ?_); at_builtin; refine Kd.R_append (Kd.int .i64) (w0 := w) w.heap.size rfl (.tmp 104) (.tmp 109) 71 3 (.int .i64 0) 8 rfl Tryd.underlying71 info3 rfl (by decide) (by omega) u13 x13_2 (rd x9_1 x14_2) [.int .i64 (rd x9_1 x14_2)] (fun k_ => some k_ ≠ (.slice (some ad222) x9_1.length co89 : Value).ownBlock) (fun _ => False) rfl rfl ?aP (fun _ hk => hk.elim) ?aF ?aO ?aB ?aS ?aL ?_; (case aP => exact rfl); (case aB => exact bS); (case aF => exact (fun k_ hk => Kd.fresh' (Kd.R_lt (kR HO_9.out)) k_ hk)); (case aO => exact (kR HO_13.out)); (case aS => exact (below_size bS)); (case aL => have := LMc88.out; omega); intro v224 w90 ho hb hg hat; rw [← Ny223.out] at ho; replace HO_9 := am (Kd.R_after (ok := (fun _ => True)) (kR (Kd.R_mono HO_9.out (fun _ hk => ⟨trivial, hk⟩))) hg hat); replace BK195 := am (blk_grown (g := gb195) (o := .cells #[.slice A1_0 l1_0.length c1_0, .slice A1_1 l1_1.length c1_1] 76 (0, 0)) (bk BK195.out) hg (Kd.R_ne HO_13.out BK195.out (by decide))); replace HB := am (hb); have HO225 := am (ho); clear HO_13; clear ho hb hg hat; have p226 : 0 ≤ (x14_2 : Int) := od; have q226 : x14_2 < (x9_1.length : Int) := od; obtain ⟨ad226, e226, hx226_0⟩ := Kd.at_int (Kd.R_reads' HO_9.out).2.2 x14_2 p226 q226; obtain rfl : ad222 = ad226 := (by injection e226); replace p226 := eq_true p226; replace q226 := eq_true q226))
                        repeat (go_quiet (first | ((with_reducible refine gate_builtin (b := .append) (xs := #[.tmp 104, .tmp 109]) rfl ?_); at_builtin; refine Kd.R_append (Kd.int .i64) (w0 := w) w.heap.size rfl (.tmp 104) (.tmp 109) 71 3 (.int .i64 0) 8 rfl Tryd.underlying71 info3 rfl (by decide) (by omega) u13 x13_2 (rd x9_1 x14_2) [.int .i64 (rd x9_1 x14_2)] (fun k_ => some k_ ≠ (.slice (some ad222) x9_1.length co89 : Value).ownBlock) (fun _ => False) rfl rfl ?aP (fun _ hk => hk.elim) ?aF ?aO ?aB ?aS ?aL ?_; (case aP => exact rfl); (case aB => exact bS); (case aF => exact (fun k_ hk => Kd.fresh' (Kd.R_lt (kR HO_9.out)) k_ hk)); (case aO => exact (kR HO_13.out)); (case aS => exact (below_size bS)); (case aL => have := LMc88.out; omega); intro v224 w90 ho hb hg hat; rw [← Ny223.out] at ho; replace HO_9 := am (Kd.R_after (ok := (fun _ => True)) (kR (Kd.R_mono HO_9.out (fun _ hk => ⟨trivial, hk⟩))) hg hat); replace BK195 := am (blk_grown (g := gb195) (o := .cells #[.slice A1_0 l1_0.length c1_0, .slice A1_1 l1_1.length c1_1] 76 (0, 0)) (bk BK195.out) hg (Kd.R_ne HO_13.out BK195.out (by decide))); replace HB := am (hb); have HO225 := am (ho); clear HO_13; clear ho hb hg hat; have p226 : 0 ≤ (x14_2 : Int) := od; have q226 : x14_2 < (x9_1.length : Int) := od; obtain ⟨ad226, e226, hx226_0⟩ := Kd.at_int (Kd.R_reads' HO_9.out).2.2 x14_2 p226 q226; obtain rfl : ad222 = ad226 := (by injection e226); replace p226 := eq_true p226; replace q226 := eq_true q226)); try go_wp2_with (first | ((with_reducible refine gate_builtin (b := .append) (xs := #[.tmp 104, .tmp 109]) rfl ?_); at_builtin; refine Kd.R_append (Kd.int .i64) (w0 := w) w.heap.size rfl (.tmp 104) (.tmp 109) 71 3 (.int .i64 0) 8 rfl Tryd.underlying71 info3 rfl (by decide) (by omega) u13 x13_2 (rd x9_1 x14_2) [.int .i64 (rd x9_1 x14_2)] (fun k_ => some k_ ≠ (.slice (some ad222) x9_1.length co89 : Value).ownBlock) (fun _ => False) rfl rfl ?aP (fun _ hk => hk.elim) ?aF ?aO ?aB ?aS ?aL ?_; (case aP => exact rfl); (case aB => exact bS); (case aF => exact (fun k_ hk => Kd.fresh' (Kd.R_lt (kR HO_9.out)) k_ hk)); (case aO => exact (kR HO_13.out)); (case aS => exact (below_size bS)); (case aL => have := LMc88.out; omega); intro v224 w90 ho hb hg hat; rw [← Ny223.out] at ho; replace HO_9 := am (Kd.R_after (ok := (fun _ => True)) (kR (Kd.R_mono HO_9.out (fun _ hk => ⟨trivial, hk⟩))) hg hat); replace BK195 := am (blk_grown (g := gb195) (o := .cells #[.slice A1_0 l1_0.length c1_0, .slice A1_1 l1_1.length c1_1] 76 (0, 0)) (bk BK195.out) hg (Kd.R_ne HO_13.out BK195.out (by decide))); replace HB := am (hb); have HO225 := am (ho); clear HO_13; clear ho hb hg hat; have p226 : 0 ≤ (x14_2 : Int) := od; have q226 : x14_2 < (x9_1.length : Int) := od; obtain ⟨ad226, e226, hx226_0⟩ := Kd.at_int (Kd.R_reads' HO_9.out).2.2 x14_2 p226 q226; obtain rfl : ad222 = ad226 := (by injection e226); replace p226 := eq_true p226; replace q226 := eq_true q226)))
                        go_roundg k2
                        case measure => have := HK1.out; have := HK2.out; omega
                        case rel => exact ⟨(y223), (wrap64 (x14_2 + (rd x9_1 x14_2))), (by first | rfl | (simp; done) | (simp [*]; done)), H', ⟨by have := HK1.out; have := HK2.out; omega⟩, ⟨kR (Kd.R_mono HO_9.out (fun _ hk => hk.2))⟩, ⟨kR HO225.out⟩, ⟨bk BK195.out⟩, ⟨bS⟩⟩
                      · rw [if_neg c88] at H
                        exact absurd H (by simp)
                    · rw [if_neg c87] at H
                      exact absurd H (by simp)
                  · rw [if_neg c86] at H
                    exact absurd H (by simp)
                · rw [if_neg c85] at H
                  have c85b0 : decide (x14_2 < (l1_0.length : Int)) = false := decide_eq_false c85
                  clear c85
                  obtain rfl := Option.some.inj H
                  go_wp2
                  repeat (go_quiet (fail); try go_wp2)
                  go_ret
                  exact ⟨_, by first | rfl | (simp [errW_none, errW_some] <;> rfl) | (simp only [← hji4]; first | rfl | (simp [errW_none, errW_some] <;> rfl)) | (simp [*, errW_none, errW_some] <;> rfl), by (with_reducible repeat (first | apply Kd.R_alloc | apply Kd.R_drewN | apply Kd.R_drew)); exact Kd.R_mono HO_13.out (fun _ hk => trivial), bS⟩
    · rw [if_neg c6] at H
      exact absurd H (by simp)
  · rw [if_neg c5] at H
    exact absurd H (by simp)

end Go.Proofs.YtmlhnpggjkoinaaDoor.PFnExactFewestWords

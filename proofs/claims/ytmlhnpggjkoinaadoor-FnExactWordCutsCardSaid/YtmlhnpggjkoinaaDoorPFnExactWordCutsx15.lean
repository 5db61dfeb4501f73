-- Written by a program of this session (wip/tools/myprint.py) that runs the kit's print with hooks of its own. Lean checks it.
import Derived.Test.YtmlhnpggjkoinaaDoorPFnExactWordCutsx0
import Derived.Test.YtmlhnpggjkoinaaDoorSlimMore
import Derived.Test.YtmlhnpggjkoinaaDoorPFnExactWordCutsx13
import Derived.Test.YtmlhnpggjkoinaaDoorPFnExactWordCutsx14
namespace Go.Proofs.YtmlhnpggjkoinaaDoor.PFnExactWordCuts
open Go.RowKit Go.Proofs.YtmlhnpggjkoinaaDoorW.PrintWords Go.Proofs.YtmlhnpggjkoinaaDoorW.PrintLast Go.Proofs.YtmlhnpggjkoinaaDoorW.PrintMore
attribute [local go_sem] max2_int min2_int max_two min_two max_three min_three max_four min_four   -- for this text's walks alone
set_option linter.unusedVariables false
set_option linter.unusedSimpArgs false

/-! ### impl_charCuts: function 81 -/
mutual
def impl_charCuts.l0 : Nat → List Int → List Bool → List Int → Int → Int → Bool → Bool → Int → Option (List Bool)
 | 0, _, _, _, _, _, _, _, _ => none
 | k + 1, x0, x3, x15, x16, x17, x375000, x376000, x377000 => if x17 < x16 then (if 0 ≤ x17 then (if x17 < (x15.length : Int) then ((impl_charClass.f k (rd x15 x17)).bind fun t379 => (if x17 > 0 then (if 0 ≤ (wrap64 (x17 - 1)) then (if (wrap64 (x17 - 1)) < (x0.length : Int) then ((impl_charClass.f k (rd x0 (wrap64 (x17 - 1)))).bind fun t383 => ((impl_charCuts_1.f k (rd x0 (wrap64 (x17 - 1))) (rd x15 x17) t379 t383 x376000 x375000 x377000).bind fun t385 => (if x17 < (x3.length : Int) then (impl_charCuts.j1 k x0 (x3.set (x17 : Int).toNat t385) x15 x16 x17 x375000 x376000 x377000 (rd x15 x17) t379) else (none)))) else (none)) else (none)) else (impl_charCuts.j1 k x0 x3 x15 x16 x17 x375000 x376000 x377000 (rd x15 x17) t379))) else (none)) else (none)) else (some x3)
def impl_charCuts.j1 : Nat → List Int → List Bool → List Int → Int → Int → Bool → Bool → Int → Int → Int → Option (List Bool)
 | 0, _, _, _, _, _, _, _, _, _, _ => none
 | k + 1, x0, x3, x15, x16, x17, x375000, x376000, x377000, x379000, x381000 => if x381000 = 2 then (if x379000 = 1584 then (if x381000 = 9 then (impl_charCuts.l0 k x0 x3 x15 x16 (wrap64 (x17 + 1)) x375000 true (wrap64 (x377000 + 1))) else (impl_charCuts.l0 k x0 x3 x15 x16 (wrap64 (x17 + 1)) x375000 true 0)) else (if x379000 = 1585 then (if x381000 = 9 then (impl_charCuts.l0 k x0 x3 x15 x16 (wrap64 (x17 + 1)) x375000 x376000 (wrap64 (x377000 + 1))) else (impl_charCuts.l0 k x0 x3 x15 x16 (wrap64 (x17 + 1)) x375000 x376000 0)) else (if x381000 = 9 then (impl_charCuts.l0 k x0 x3 x15 x16 (wrap64 (x17 + 1)) x375000 false (wrap64 (x377000 + 1))) else (impl_charCuts.l0 k x0 x3 x15 x16 (wrap64 (x17 + 1)) x375000 false 0)))) else (if x379000 = 1584 then (if x381000 = 9 then (impl_charCuts.l0 k x0 x3 x15 x16 (wrap64 (x17 + 1)) (x381000 == 8) true (wrap64 (x377000 + 1))) else (impl_charCuts.l0 k x0 x3 x15 x16 (wrap64 (x17 + 1)) (x381000 == 8) true 0)) else (if x379000 = 1585 then (if x381000 = 9 then (impl_charCuts.l0 k x0 x3 x15 x16 (wrap64 (x17 + 1)) (x381000 == 8) x376000 (wrap64 (x377000 + 1))) else (impl_charCuts.l0 k x0 x3 x15 x16 (wrap64 (x17 + 1)) (x381000 == 8) x376000 0)) else (if x381000 = 9 then (impl_charCuts.l0 k x0 x3 x15 x16 (wrap64 (x17 + 1)) (x381000 == 8) false (wrap64 (x377000 + 1))) else (impl_charCuts.l0 k x0 x3 x15 x16 (wrap64 (x17 + 1)) (x381000 == 8) false 0))))
end
def impl_charCuts.f (k : Nat) (l0 : List Int) : Option (List Bool) := if 0 ≤ (l0.length : Int) then (if ((l0.length : Int) : Int).toNat ≤ 281474976710656 then (impl_charCuts.l0 k l0 (List.replicate ((l0.length : Int) : Int).toNat false) l0 (l0.length : Int) 0 false false 0) else (none)) else (none)
theorem impl_charCuts.mono_l : ∀ k, (∀ y0 y1 y2 y3 y4 y5 y6 y7, LeO (impl_charCuts.l0 k y0 y1 y2 y3 y4 y5 y6 y7) (impl_charCuts.l0 (k + 1) y0 y1 y2 y3 y4 y5 y6 y7)) ∧ (∀ y0 y1 y2 y3 y4 y5 y6 y7 y8 y9, LeO (impl_charCuts.j1 k y0 y1 y2 y3 y4 y5 y6 y7 y8 y9) (impl_charCuts.j1 (k + 1) y0 y1 y2 y3 y4 y5 y6 y7 y8 y9))
 | 0 => ⟨fun _ _ _ _ _ _ _ _ r h => by simp [impl_charCuts.l0] at h, fun _ _ _ _ _ _ _ _ _ _ r h => by simp [impl_charCuts.j1] at h⟩
 | k + 1 => by
  obtain ⟨ih0, ih1⟩ := impl_charCuts.mono_l k
  refine ⟨fun y0 y1 y2 y3 y4 y5 y6 y7 => ?_, fun y0 y1 y2 y3 y4 y5 y6 y7 y8 y9 => ?_⟩
  all_goals (first | unfold impl_charCuts.l0 | unfold impl_charCuts.j1)
  all_goals (repeat' (first | (with_reducible first | exact ih0 .. | exact ih1 .. | exact impl_charClass.mono .. | exact impl_charCuts_1.mono .. | exact LeO.refl _ | exact LeO.none _ | refine LeO.ite ?_ ?_ | refine LeO.bind ?_ (fun _ => ?_)) | exact ih0 .. | exact ih1 .. | exact impl_charClass.mono .. | exact impl_charCuts_1.mono .. | exact LeO.none _ | refine LeO.ite ?_ ?_ | refine LeO.bind ?_ (fun _ => ?_)))
theorem impl_charCuts.mono : ∀ a0 k, LeO (impl_charCuts.f k a0) (impl_charCuts.f (k + 1) a0) := by
 intro a0 k
 obtain ⟨ih0, ih1⟩ := impl_charCuts.mono_l k
 unfold impl_charCuts.f
 repeat' (first | (with_reducible first | exact ih0 .. | exact ih1 .. | exact impl_charClass.mono .. | exact impl_charCuts_1.mono .. | exact LeO.refl _ | exact LeO.none _ | refine LeO.ite ?_ ?_ | refine LeO.bind ?_ (fun _ => ?_)) | exact ih0 .. | exact ih1 .. | exact impl_charClass.mono .. | exact impl_charCuts_1.mono .. | exact LeO.none _ | refine LeO.ite ?_ ?_ | refine LeO.bind ?_ (fun _ => ?_))
set_option maxHeartbeats 8000000 in
set_option maxRecDepth 100000 in
theorem impl_charCuts.calls (k : Nat) (A0 : Option Addr) (c0 : Nat) (l0 : List Int) (r : List Bool) (w : World) (hr0 : Kd.C (Kd.int .i64) w A0 l0.length l0) (hc0 : l0.length ≤ c0) (h : impl_charCuts.f k l0 = some r) :
  Calls Tryd.prog 81 #[.slice A0 l0.length c0] w fun e w' => ∃ v0_ : Value, e = .returned (v0_) ∧ Kd.R Kd.bool 4 w' w.heap.size (fun _ => True) v0_ r ∧ Below w.heap.size w w' := by
 have HR0 := am hr0
 have HC0 := am hc0
 clear hr0 hc0
 have HB := am (Below.refl w.heap.size w)
 have H : (if 0 ≤ (l0.length : Int) then (if ((l0.length : Int) : Int).toNat ≤ 281474976710656 then (impl_charCuts.l0 k l0 (List.replicate ((l0.length : Int) : Int).toNat false) l0 (l0.length : Int) 0 false false 0) else (none)) else (none)) = some r := h
 clear h
 replace H := iteN H
 obtain ⟨c2, H⟩ := H
 have c2b0 := eq_true c2
 have c2b1 : decide (0 ≤ (l0.length : Int)) = true := decide_eq_true c2
 clear c2
 replace H := iteN H
 obtain ⟨c3, H⟩ := H
 have c3b0 := eq_true c3
 have c3b1 : decide (((l0.length : Int) : Int).toNat ≤ 281474976710656) = true := decide_eq_true c3
 clear c3
 obtain ⟨y371, hy371⟩ : ∃ y_ : List Bool, y_ = (List.replicate ((l0.length : Int) : Int).toNat false) := ⟨_, rfl⟩
 replace H : (impl_charCuts.l0 k l0 y371 l0 (l0.length : Int) 0 false false 0) = some r := by first | (rw [hy371]; with_reducible exact H) | (have H2_ := (Option.bind_some _ _).symm.trans H; rw [hy371]; with_reducible exact H2_) | (have H2_ := (Option.bind_some _ _).symm.trans H; with_reducible exact H2_) | with_reducible exact H | (rw [hy371]; exact H) | exact H
 have Ny371 := am hy371
 clear hy371
 have H' := am H
 clear H
 have hmf_ : ∀ (fn : Fn) (first cap : Array Value) (w : World), (Instr.makeFunc fn first cap).run Tryd.prog w = .ok (.func fn first cap) w := fun _ _ _ _ => rfl
 go_enter Tryd.func81, Tryd.ntmps81
 go_wp2_with (first | ((with_reducible refine gate_dst (N := 14) rfl ?_); refine Kd.R_make Kd.bool _ 4 rfl (N := 14) rfl 60 _ _ rfl (l0.length : Int) rfl rfl Tryd.underlying60 (.bool false) 1 info4 rfl (by decide) (by omega) false (ok := fun _ => True) (okp := fun _ => True) rfl (fun _ hk => hk) trivial (od) (Nat.le_trans (Nat.mul_le_mul_right _ (od : (l0.length : Int).toNat ≤ 281474976710656)) (by omega)) (Below.refl _ _) (Nat.le_refl _) ?_; intro v372 w4 ho5 hb hg_ hnew_; clear hg_ hnew_; (first | rw [← Ny371.out] at ho5 | (simp only [Int.reduceToNat] at ho5; rw [← Ny371.out] at ho5)); have HO373 := am (Kd.R_lower ho5 (below_size bB)); replace HB := am (below_step bB hb); clear hb ho5) | ((with_reducible refine gate_dst (N := 4) rfl ?_); refine bx 4 #[.bool false] 4 ?_; intro gb374 hg w6 hbox hb; replace HO373 := am (Kd.R_below (Kd.R_elderB (kR HO373.out) gb374 (Nat.le_of_eq hg.symm)) hb); have BK374 := am (hbox); have GW374 := am ((by rw [hg]; exact (below_size bB) : w.heap.size ≤ gb374)); have GE374 := am ((by rw [hg]; exact (below_size bB) : w.heap.size ≤ gb374)); replace HB := am (below_step bB hb); clear hb hbox hg) | ((with_reducible refine gate_dst (N := 5) rfl ?_); refine bx 5 #[.bool false] 4 ?_; intro gb375 hg w7 hbox hb; replace HO373 := am (Kd.R_below (Kd.R_elderB (kR HO373.out) gb375 (Nat.le_of_eq hg.symm)) hb); have BK375 := am (hbox); have GW375 := am ((by rw [hg]; exact (below_size bS) : w.heap.size ≤ gb375)); have GE375 := am ((by rw [hg]; exact (below_size bS) : w.heap.size ≤ gb375)); replace HB := am (below_step bS hb); have NB374_375 := am (nl hg BK374.out); have NB375_374 := am NB374_375.out.symm; replace BK374 := am (blk_below (g := gb374) (o := .cells #[.bool false] 4 (0, 0)) (bk BK374.out) hb); clear hb hbox hg) | ((with_reducible refine gate_dst (N := 6) rfl ?_); refine bx 6 #[.int .i64 0] 3 ?_; intro gb376 hg w8 hbox hb; replace HO373 := am (Kd.R_below (kR HO373.out) hb); have BK376 := am (hbox); have GW376 := am ((by rw [hg]; exact (below_size bS) : w.heap.size ≤ gb376)); have GE376 := am ((by rw [hg]; exact (below_size bS) : w.heap.size ≤ gb376)); replace HB := am (below_step bS hb); have NB374_376 := am (nl hg BK374.out); have NB376_374 := am NB374_376.out.symm; replace BK374 := am (blk_below (g := gb374) (o := .cells #[.bool false] 4 (0, 0)) (bk BK374.out) hb); have NB375_376 := am (nl hg BK375.out); have NB376_375 := am NB375_376.out.symm; replace BK375 := am (blk_below (g := gb375) (o := .cells #[.bool false] 4 (0, 0)) (bk BK375.out) hb); clear hb hbox hg; have hnb9 := NB374_375.out; have hnc9 := NB375_374.out; have hnb10 := NB374_376.out; have hnc10 := NB376_374.out; have hcz11_0 := bc BK374.out 0 (.bool false); have hfz11_0 := blk_frozen BK374.out 0; have hnb12 := NB375_376.out; have hnc12 := NB376_375.out; have hcz13_0 := bc BK375.out 0 (.bool false); have hfz13_0 := blk_frozen BK375.out 0; have hcz14_0 := bc BK376.out 0 (.int .i64 0); have hfz14_0 := blk_frozen BK376.out 0))
 go_loopg [17] k (fun kq v17 w' => ∃ (x3_1 : List Bool) (x17_1 : Int) (x375000_1 : Bool) (x376000_1 : Bool) (x377000_1 : Int), v17 = .int .i64 x17_1 ∧ Aside0 (impl_charCuts.l0 kq l0 x3_1 l0 (l0.length : Int) x17_1 x375000_1 x376000_1 x377000_1 = some r) ∧ Aside0 (kq ≤ k) ∧ Aside0 (Kd.R Kd.bool 4 w' w.heap.size (fun k_ => k_ ≠ gb374 ∧ k_ ≠ gb375) v372 x3_1) ∧ Aside0 (w'.heap[gb374]? = some (.cells #[.bool x375000_1] 4 (0, 0))) ∧ Aside0 (w'.heap[gb375]? = some (.cells #[.bool x376000_1] 4 (0, 0))) ∧ Aside0 (w'.heap[gb376]? = some (.cells #[.int .i64 x377000_1] 3 (0, 0))) ∧ Aside0 (Below w.heap.size w w'))
 case atStart => exact ⟨(y371), (0), (false), (false), (0), sr, H', ⟨Nat.le_refl _⟩, ⟨kR (Kd.R_mono (Kd.R_far (p := ⟨gb376, 0, none⟩) (Kd.R_far (p := ⟨gb375, 0, none⟩) (Kd.R_far (p := ⟨gb374, 0, none⟩) (Kd.R_types (Kd.R_mono (Kd.R_mono HO373.out (fun k_ hk => (⟨hk, hk.1.2⟩ : _ ∧ k_ ≠ gb374))) (fun k_ hk => (⟨hk, hk.1.2⟩ : _ ∧ k_ ≠ gb375))) BK376.out (by decide)) (fun _ hk => hk.1.1.2) (.bool false)) (fun _ hk => hk.1.2) (.bool false)) (fun _ hk => hk.2) (.int .i64 0)) (fun _ hk => ⟨hk.1.1.1.1.2, hk.1.1.1.2⟩))⟩, ⟨by (with_reducible repeat (first | refine blk_drewN ?_ _ | refine blk_drew ?_ | refine blk_alloc ?_ _)); refine blk_far ?_ NB374_376.out _; (with_reducible repeat (first | refine blk_drewN ?_ _ | refine blk_drew ?_ | refine blk_alloc ?_ _)); refine blk_far ?_ NB374_375.out _; (with_reducible repeat (first | refine blk_drewN ?_ _ | refine blk_drew ?_ | refine blk_alloc ?_ _)); refine blk_put (cs := #[.bool false]) ?_ 0 _ rfl; (with_reducible repeat (first | refine blk_drewN ?_ _ | refine blk_drew ?_ | refine blk_alloc ?_ _)); exact BK374.out⟩, ⟨by (with_reducible repeat (first | refine blk_drewN ?_ _ | refine blk_drew ?_ | refine blk_alloc ?_ _)); refine blk_far ?_ NB375_376.out _; (with_reducible repeat (first | refine blk_drewN ?_ _ | refine blk_drew ?_ | refine blk_alloc ?_ _)); refine blk_put (cs := #[.bool false]) ?_ 0 _ rfl; (with_reducible repeat (first | refine blk_drewN ?_ _ | refine blk_drew ?_ | refine blk_alloc ?_ _)); refine blk_far ?_ NB375_374.out _; (with_reducible repeat (first | refine blk_drewN ?_ _ | refine blk_drew ?_ | refine blk_alloc ?_ _)); exact BK375.out⟩, ⟨by (with_reducible repeat (first | refine blk_drewN ?_ _ | refine blk_drew ?_ | refine blk_alloc ?_ _)); refine blk_put (cs := #[.int .i64 0]) ?_ 0 _ rfl; (with_reducible repeat (first | refine blk_drewN ?_ _ | refine blk_drew ?_ | refine blk_alloc ?_ _)); refine blk_far ?_ NB376_375.out _; (with_reducible repeat (first | refine blk_drewN ?_ _ | refine blk_drew ?_ | refine blk_alloc ?_ _)); refine blk_far ?_ NB376_374.out _; (with_reducible repeat (first | refine blk_drewN ?_ _ | refine blk_drew ?_ | refine blk_alloc ?_ _)); exact BK376.out⟩, ⟨bS⟩⟩
 case round =>
  clear H'
  try clear c2b0
  try clear c2b1
  try clear c3b0
  try clear c3b1
  try clear hcz11_0
  try clear hcz13_0
  try clear hcz14_0
  try clear hfz11_0
  try clear hfz13_0
  try clear hfz14_0
  obtain ⟨x3_1, x17_1, x375000_1, x376000_1, x377000_1, rfl, HA, HK1, HO_3, BK374, BK375, BK376, HB⟩ := hrel
  cases gk with
  | zero => exact absurd HA.out (by simp [impl_charCuts.l0])
  | succ k1 =>
   have H := HA.out
   clear HA
   simp only [impl_charCuts.l0] at H
   by_cases c15 : x17_1 < (l0.length : Int)
   rotate_left
   ·rw [if_neg c15] at H
    have c15b0 : decide (x17_1 < (l0.length : Int)) = false := decide_eq_false c15
    clear c15
    obtain rfl := Option.some.inj H
    go_wp2
    go_ret
    exact ⟨_, rv, by (with_reducible repeat (first | apply Kd.R_alloc | apply Kd.R_drewN | apply Kd.R_drew)); exact Kd.R_mono HO_3.out (fun _ hk => trivial), bS⟩
   rw [if_pos c15] at H
   have c15b0 : decide (x17_1 < (l0.length : Int)) = true := decide_eq_true c15
   clear c15
   replace H := iteN H
   obtain ⟨c16, H⟩ := H
   have c16b0 : decide (0 ≤ x17_1) = true := decide_eq_true c16
   clear c16
   replace H := iteN H
   obtain ⟨c17, H⟩ := H
   have c17b0 : decide (x17_1 < (l0.length : Int)) = true := decide_eq_true c17
   clear c17
   obtain ⟨t379, A18, H⟩ := bb H
   have HC19 := am H
   clear H
   have p377 : 0 ≤ (x17_1 : Int) := od
   have q377 : x17_1 < (l0.length : Int) := od
   obtain ⟨ad377, e377, hx377_0⟩ := Kd.at_int HR0.out x17_1 p377 q377
   cases e377
   replace hx377_0 := cl HB hx377_0
   replace p377 := eq_true p377
   replace q377 := eq_true q377
   go_upto_if 25 with (first | ((with_reducible refine gate_dst (N := 8) rfl ?_); refine bx 8 #[.int .i64 0] 2 ?_; intro gb378 hg w20 hbox hb; replace HO_3 := am (Kd.R_below (kR HO_3.out) hb); have BK378 := am (hbox); have GW378 := am ((by rw [hg]; exact (below_size bS) : w.heap.size ≤ gb378)); have GE378 := am ((by rw [hg]; exact (below_size bS) : w.heap.size ≤ gb378)); replace HB := am (below_step bS hb); have NB374_378 := am (nl hg BK374.out); have NB378_374 := am NB374_378.out.symm; replace BK374 := am (blk_below (g := gb374) (o := .cells #[.bool x375000_1] 4 (0, 0)) (bk BK374.out) hb); have NB375_378 := am (nl hg BK375.out); have NB378_375 := am NB375_378.out.symm; replace BK375 := am (blk_below (g := gb375) (o := .cells #[.bool x376000_1] 4 (0, 0)) (bk BK375.out) hb); have NB376_378 := am (nl hg BK376.out); have NB378_376 := am NB376_378.out.symm; replace BK376 := am (blk_below (g := gb376) (o := .cells #[.int .i64 x377000_1] 3 (0, 0)) (bk BK376.out) hb); clear hb hbox hg; have hnb21 := NB378_374.out; have hnc21 := NB374_378.out; have hnb22 := NB378_375.out; have hnc22 := NB375_378.out; have hnb23 := NB378_376.out; have hnc23 := NB376_378.out; have hcz24_0 := bc BK378.out 0 (.int .i64 0); have hfz24_0 := blk_frozen BK378.out 0) | ((with_reducible refine gate_callee (f := 86) rfl ?_); refine gq 23 Tryd.func86 (impl_charClass.calls k1 (rd l0 x17_1) t379 _ A18.out) fun nd => ?_) | ((with_reducible refine gate_dst (N := 9) rfl ?_); refine bx 9 #[.int .i64 0] 3 ?_; intro gb380 hg w25 hbox hb; replace HO_3 := am (Kd.R_below (kR ((Kd.R_mono (Kd.R_far (p := ⟨gb378, 0, none⟩) (Kd.R_types HO_3.out BK378.out (by decide)) (fun _ hk => hk.2) (.int .i64 (rd l0 x17_1))) (fun _ h_ => h_.1)))) hb); have BK380 := am (hbox); have GW380 := am ((by rw [hg]; exact (below_size bS) : w.heap.size ≤ gb380)); have GE380 := am ((by rw [hg]; exact (below_size bS) : w.heap.size ≤ gb380)); replace HB := am (below_step bS hb); have NB374_380 := am (nm hg (bf BK374.out)); have NB380_374 := am NB374_380.out.symm; replace BK374 := am (blk_below (g := gb374) (o := .cells #[.bool x375000_1] 4 (0, 0)) (bf BK374.out) hb); have NB375_380 := am (nm hg (bf BK375.out)); have NB380_375 := am NB375_380.out.symm; replace BK375 := am (blk_below (g := gb375) (o := .cells #[.bool x376000_1] 4 (0, 0)) (bf BK375.out) hb); have NB376_380 := am (nm hg (bf BK376.out)); have NB380_376 := am NB376_380.out.symm; replace BK376 := am (blk_below (g := gb376) (o := .cells #[.int .i64 x377000_1] 3 (0, 0)) (bf BK376.out) hb); have NB378_380 := am (nm (g := gb378) (o := .cells #[.int .i64 (rd l0 x17_1)] 2 (0, 0)) hg (by (with_reducible repeat (first | refine blk_drewN ?_ _ | refine blk_drew ?_ | refine blk_alloc ?_ _)); refine blk_put (cs := #[.int .i64 0]) ?_ 0 _ rfl; (with_reducible repeat (first | refine blk_drewN ?_ _ | refine blk_drew ?_ | refine blk_alloc ?_ _)); exact BK378.out)); have NB380_378 := am NB378_380.out.symm; replace BK378 := am (blk_below (g := gb378) (o := .cells #[.int .i64 (rd l0 x17_1)] 2 (0, 0)) (by (with_reducible repeat (first | refine blk_drewN ?_ _ | refine blk_drew ?_ | refine blk_alloc ?_ _)); refine blk_put (cs := #[.int .i64 0]) ?_ 0 _ rfl; (with_reducible repeat (first | refine blk_drewN ?_ _ | refine blk_drew ?_ | refine blk_alloc ?_ _)); exact BK378.out) hb); clear hb hbox hg; have hnb26 := NB380_374.out; have hnc26 := NB374_380.out; have hnb27 := NB380_375.out; have hnc27 := NB375_380.out; have hnb28 := NB380_376.out; have hnc28 := NB376_380.out; have hnb29 := NB380_378.out; have hnc29 := NB378_380.out; have hcz30_0 := bc BK380.out 0 (.int .i64 0); have hfz30_0 := blk_frozen BK380.out 0))
   (try simp only [Act.put, List.setIfInBounds_toArray, List.set_cons_zero, List.set_cons_succ])
   go_cut [] (fun wc => ∃ (kq : Nat) (x3_18 : List Bool), Aside0 (impl_charCuts.j1 kq l0 x3_18 l0 (l0.length : Int) x17_1 x375000_1 x376000_1 x377000_1 (rd l0 x17_1) t379 = some r) ∧ Aside0 (kq ≤ k1) ∧ Aside0 (Kd.R Kd.bool 4 wc w.heap.size (fun k_ => k_ ≠ gb374 ∧ k_ ≠ gb375) v372 x3_18) ∧ Aside0 (wc.heap[gb374]? = some (.cells #[.bool x375000_1] 4 (0, 0))) ∧ Aside0 (wc.heap[gb375]? = some (.cells #[.bool x376000_1] 4 (0, 0))) ∧ Aside0 (wc.heap[gb376]? = some (.cells #[.int .i64 x377000_1] 3 (0, 0))) ∧ Aside0 (wc.heap[gb378]? = some (.cells #[.int .i64 (rd l0 x17_1)] 2 (0, 0))) ∧ Aside0 (wc.heap[gb380]? = some (.cells #[.int .i64 t379] 3 (0, 0))) ∧ Aside0 (Below w.heap.size w wc))
   case first =>
    have H := HC19.out
    clear HC19
    by_cases c31 : x17_1 > 0
    rotate_left
    ·rw [if_neg c31] at H
     have c31b0 : decide (0 < x17_1) = false := decide_eq_false c31
     clear c31
     (first | rw [c31b0] | (simp only [i64_w, i32_w]; rw [c31b0]) | skip)
     have H' := am H
     clear H
     go_wp2
     go_meet
     case rel => exact ⟨_, (x3_1), H', ⟨kl⟩, ⟨kR (Kd.R_mono (Kd.R_far (p := ⟨gb380, 0, none⟩) (Kd.R_types HO_3.out BK380.out (by decide)) (fun _ hk => hk.2) (.int .i64 t379)) (fun _ hk => ⟨hk.1.1, hk.1.2⟩))⟩, ⟨by (with_reducible repeat (first | refine blk_drewN ?_ _ | refine blk_drew ?_ | refine blk_alloc ?_ _)); refine blk_far ?_ NB374_380.out _; (with_reducible repeat (first | refine blk_drewN ?_ _ | refine blk_drew ?_ | refine blk_alloc ?_ _)); exact BK374.out⟩, ⟨by (with_reducible repeat (first | refine blk_drewN ?_ _ | refine blk_drew ?_ | refine blk_alloc ?_ _)); refine blk_far ?_ NB375_380.out _; (with_reducible repeat (first | refine blk_drewN ?_ _ | refine blk_drew ?_ | refine blk_alloc ?_ _)); exact BK375.out⟩, ⟨by (with_reducible repeat (first | refine blk_drewN ?_ _ | refine blk_drew ?_ | refine blk_alloc ?_ _)); refine blk_far ?_ NB376_380.out _; (with_reducible repeat (first | refine blk_drewN ?_ _ | refine blk_drew ?_ | refine blk_alloc ?_ _)); exact BK376.out⟩, ⟨by (with_reducible repeat (first | refine blk_drewN ?_ _ | refine blk_drew ?_ | refine blk_alloc ?_ _)); refine blk_far ?_ NB378_380.out _; (with_reducible repeat (first | refine blk_drewN ?_ _ | refine blk_drew ?_ | refine blk_alloc ?_ _)); exact BK378.out⟩, ⟨by (with_reducible repeat (first | refine blk_drewN ?_ _ | refine blk_drew ?_ | refine blk_alloc ?_ _)); refine blk_put (cs := #[.int .i64 0]) ?_ 0 _ rfl; (with_reducible repeat (first | refine blk_drewN ?_ _ | refine blk_drew ?_ | refine blk_alloc ?_ _)); exact BK380.out⟩, ⟨bS⟩⟩
    rw [if_pos c31] at H
    have c31b0 : decide (0 < x17_1) = true := decide_eq_true c31
    clear c31
    (first | rw [c31b0] | (simp only [i64_w, i32_w]; rw [c31b0]) | skip)
    obtain ⟨ji32, hji32⟩ : ∃ j_ : Int, (wrap64 (x17_1 - 1)) = j_ := ⟨_, rfl⟩
    replace H : (if 0 ≤ (ji32) then (if (ji32) < (l0.length : Int) then ((impl_charClass.f k1 (rd l0 (ji32))).bind fun t383 => ((impl_charCuts_1.f k1 (rd l0 (ji32)) (rd l0 x17_1) t379 t383 x376000_1 x375000_1 x377000_1).bind fun t385 => (if x17_1 < (x3_1.length : Int) then (impl_charCuts.j1 k1 l0 (x3_1.set (x17_1 : Int).toNat t385) l0 (l0.length : Int) x17_1 x375000_1 x376000_1 x377000_1 (rd l0 x17_1) t379) else (none)))) else (none)) else (none)) = some r := by first | (rw [hji32] at H; exact H) | (simp only [hji32] at H ⊢; exact H)
    have hji32w : (IntKind.i64.wrap (x17_1 - 1)) = ji32 := (i64_w _).trans hji32
    replace H := iteN H
    obtain ⟨c33, H⟩ := H
    have c33b0 : decide (0 ≤ (ji32)) = true := decide_eq_true c33
    clear c33
    replace H := iteN H
    obtain ⟨c34, H⟩ := H
    have c34b0 : decide ((ji32) < (l0.length : Int)) = true := decide_eq_true c34
    clear c34
    obtain ⟨t383, A35, H⟩ := bb H
    obtain ⟨t385, A36, H⟩ := bb H
    replace H := iteN H
    obtain ⟨c37, H⟩ := H
    have c37b0 : decide (x17_1 < (x3_1.length : Int)) = true := decide_eq_true c37
    clear c37
    obtain ⟨y386, hy386⟩ : ∃ y_ : List Bool, y_ = (x3_1.set (x17_1 : Int).toNat t385) := ⟨_, rfl⟩
    replace H : (impl_charCuts.j1 k1 l0 y386 l0 (l0.length : Int) x17_1 x375000_1 x376000_1 x377000_1 (rd l0 x17_1) t379) = some r := by first | (rw [hy386]; with_reducible exact H) | (have H2_ := (Option.bind_some _ _).symm.trans H; rw [hy386]; with_reducible exact H2_) | (have H2_ := (Option.bind_some _ _).symm.trans H; with_reducible exact H2_) | with_reducible exact H | (rw [hy386]; exact H) | exact H
    have Ny386 := am hy386
    clear hy386
    have H' := am H
    clear H
    have p381 : 0 ≤ ((ji32) : Int) := od
    have q381 : (ji32) < (l0.length : Int) := od
    obtain ⟨ad381, e381, hx381_0⟩ := Kd.at_int HR0.out (ji32) p381 q381
    obtain rfl : ad377 = ad381 := (by injection e381)
    have hn381_0 : ad377.block ≠ gb380 := Nat.ne_of_lt (Nat.lt_of_lt_of_le (by have := World.block_lt_of_cell? _ _ hx381_0; first | rwa [add_block] at this | exact this) GW380.out)
    replace hx381_0 := cl HB hx381_0
    replace hx381_0 := (cell_far (p := ⟨gb380, 0, none⟩) (by first | (rw [add_block]; exact hn381_0) | (show (Addr.add _ _).block ≠ _; rw [add_block]; exact hn381_0) | exact hn381_0) (.int .i64 t379)).trans hx381_0
    clear hn381_0
    replace p381 := eq_true p381
    replace q381 := eq_true q381
    go_wp2_with (first | ((with_reducible refine gate_dst (N := 10) rfl ?_); refine bx 10 #[.int .i64 0] 2 ?_; intro gb382 hg w39 hbox hb; replace HO_3 := am (Kd.R_below (kR ((Kd.R_mono (Kd.R_far (p := ⟨gb380, 0, none⟩) (Kd.R_types HO_3.out BK380.out (by decide)) (fun _ hk => hk.2) (.int .i64 t379)) (fun _ h_ => h_.1)))) hb); have BK382 := am (hbox); have GW382 := am ((by rw [hg]; exact (below_size bS) : w.heap.size ≤ gb382)); have GE382 := am ((by rw [hg]; exact (below_size bS) : w.heap.size ≤ gb382)); replace HB := am (below_step bS hb); have NB374_382 := am (nm hg (bf BK374.out)); have NB382_374 := am NB374_382.out.symm; replace BK374 := am (blk_below (g := gb374) (o := .cells #[.bool x375000_1] 4 (0, 0)) (bf BK374.out) hb); have NB375_382 := am (nm hg (bf BK375.out)); have NB382_375 := am NB375_382.out.symm; replace BK375 := am (blk_below (g := gb375) (o := .cells #[.bool x376000_1] 4 (0, 0)) (bf BK375.out) hb); have NB376_382 := am (nm hg (bf BK376.out)); have NB382_376 := am NB376_382.out.symm; replace BK376 := am (blk_below (g := gb376) (o := .cells #[.int .i64 x377000_1] 3 (0, 0)) (bf BK376.out) hb); have NB378_382 := am (nm hg (bf BK378.out)); have NB382_378 := am NB378_382.out.symm; replace BK378 := am (blk_below (g := gb378) (o := .cells #[.int .i64 (rd l0 x17_1)] 2 (0, 0)) (bf BK378.out) hb); have NB380_382 := am (nm (g := gb380) (o := .cells #[.int .i64 t379] 3 (0, 0)) hg (by (with_reducible repeat (first | refine blk_drewN ?_ _ | refine blk_drew ?_ | refine blk_alloc ?_ _)); refine blk_put (cs := #[.int .i64 0]) ?_ 0 _ rfl; (with_reducible repeat (first | refine blk_drewN ?_ _ | refine blk_drew ?_ | refine blk_alloc ?_ _)); exact BK380.out)); have NB382_380 := am NB380_382.out.symm; replace BK380 := am (blk_below (g := gb380) (o := .cells #[.int .i64 t379] 3 (0, 0)) (by (with_reducible repeat (first | refine blk_drewN ?_ _ | refine blk_drew ?_ | refine blk_alloc ?_ _)); refine blk_put (cs := #[.int .i64 0]) ?_ 0 _ rfl; (with_reducible repeat (first | refine blk_drewN ?_ _ | refine blk_drew ?_ | refine blk_alloc ?_ _)); exact BK380.out) hb); clear hb hbox hg; have hnb40 := NB382_374.out; have hnc40 := NB374_382.out; have hnb41 := NB382_375.out; have hnc41 := NB375_382.out; have hnb42 := NB382_376.out; have hnc42 := NB376_382.out; have hnb43 := NB382_378.out; have hnc43 := NB378_382.out; have hnb44 := NB382_380.out; have hnc44 := NB380_382.out; have hcz45_0 := bc BK382.out 0 (.int .i64 0); have hfz45_0 := blk_frozen BK382.out 0) | ((with_reducible refine gate_callee (f := 86) rfl ?_); refine goesL_ (some 32) rfl rfl Tryd.func86 (by kernel_rfl) rfl #[.int .i64 (rd l0 (ji32))] rfl (by (try simp only [List.map_toArray, List.map_cons, List.map_nil]); first | done | (simp only [hji32]; rfl) | rfl | (simp only [List.length_drop, List.length_take]; rfl)) ?_; (with_reducible refine (impl_charClass.calls k1 (rd l0 (ji32)) t383 _ A35.out).mono ?_); rintro e w' ⟨rfl, ⟨nd, rfl⟩⟩; refine ⟨_, rfl, ?_⟩) | ((with_reducible refine gate_dst (N := 11) rfl ?_); refine bx 11 #[.int .i64 0] 3 ?_; intro gb384 hg w46 hbox hb; replace HO_3 := am (Kd.R_below (kR ((Kd.R_mono (Kd.R_far (p := ⟨gb382, 0, none⟩) (Kd.R_types HO_3.out BK382.out (by decide)) (fun _ hk => hk.2) (.int .i64 (rd l0 (ji32)))) (fun _ h_ => h_.1)))) hb); have BK384 := am (hbox); have GW384 := am ((by rw [hg]; exact (below_size bS) : w.heap.size ≤ gb384)); have GE384 := am ((by rw [hg]; exact (below_size bS) : w.heap.size ≤ gb384)); replace HB := am (below_step bS hb); have NB374_384 := am (nm hg (bf BK374.out)); have NB384_374 := am NB374_384.out.symm; replace BK374 := am (blk_below (g := gb374) (o := .cells #[.bool x375000_1] 4 (0, 0)) (bf BK374.out) hb); have NB375_384 := am (nm hg (bf BK375.out)); have NB384_375 := am NB375_384.out.symm; replace BK375 := am (blk_below (g := gb375) (o := .cells #[.bool x376000_1] 4 (0, 0)) (bf BK375.out) hb); have NB376_384 := am (nm hg (bf BK376.out)); have NB384_376 := am NB376_384.out.symm; replace BK376 := am (blk_below (g := gb376) (o := .cells #[.int .i64 x377000_1] 3 (0, 0)) (bf BK376.out) hb); have NB378_384 := am (nm hg (bf BK378.out)); have NB384_378 := am NB378_384.out.symm; replace BK378 := am (blk_below (g := gb378) (o := .cells #[.int .i64 (rd l0 x17_1)] 2 (0, 0)) (bf BK378.out) hb); have NB380_384 := am (nm hg (bf BK380.out)); have NB384_380 := am NB380_384.out.symm; replace BK380 := am (blk_below (g := gb380) (o := .cells #[.int .i64 t379] 3 (0, 0)) (bf BK380.out) hb); have NB382_384 := am (nm (g := gb382) (o := .cells #[.int .i64 (rd l0 (ji32))] 2 (0, 0)) hg (by (with_reducible repeat (first | refine blk_drewN ?_ _ | refine blk_drew ?_ | refine blk_alloc ?_ _)); refine blk_put (cs := #[.int .i64 0]) ?_ 0 _ rfl; (with_reducible repeat (first | refine blk_drewN ?_ _ | refine blk_drew ?_ | refine blk_alloc ?_ _)); exact BK382.out)); have NB384_382 := am NB382_384.out.symm; replace BK382 := am (blk_below (g := gb382) (o := .cells #[.int .i64 (rd l0 (ji32))] 2 (0, 0)) (by (with_reducible repeat (first | refine blk_drewN ?_ _ | refine blk_drew ?_ | refine blk_alloc ?_ _)); refine blk_put (cs := #[.int .i64 0]) ?_ 0 _ rfl; (with_reducible repeat (first | refine blk_drewN ?_ _ | refine blk_drew ?_ | refine blk_alloc ?_ _)); exact BK382.out) hb); clear hb hbox hg; have hnb47 := NB384_374.out; have hnc47 := NB374_384.out; have hnb48 := NB384_375.out; have hnc48 := NB375_384.out; have hnb49 := NB384_376.out; have hnc49 := NB376_384.out; have hnb50 := NB384_378.out; have hnc50 := NB378_384.out; have hnb51 := NB384_380.out; have hnc51 := NB380_384.out; have hnb52 := NB384_382.out; have hnc52 := NB382_384.out; have hcz53_0 := bc BK384.out 0 (.int .i64 0); have hfz53_0 := blk_frozen BK384.out 0) | ((with_reducible refine gate_store (t := 3) (p := 11) rfl ?_); refine store_event (t := 3) (p := 11) (v := ?vo_w54) (w1 := (w46.setCell ⟨gb384, 0, none⟩ (.int .i64 t383))) ?hg ?ho ?hn ?hr ?_; (case ho => rfl); (case hg => rfl); (case hn => rfl); (case hr => first | (go_simp; done) | (go_simp; rfl)); intro w54 hw; have n0_ : Aside0 (Kd.R Kd.bool 4 w54 w.heap.size (fun k_ => k_ ≠ gb374 ∧ k_ ≠ gb375) v372 x3_1) := ⟨(by rw [hw]; exact (kR (Kd.R_mono (Kd.R_far (p := ⟨gb384, 0, none⟩) (Kd.R_types HO_3.out BK384.out (by decide)) (fun _ hk => hk.2) (.int .i64 t383)) (fun _ hk => ⟨hk.1.1, hk.1.2⟩))))⟩; have n1_ : Aside0 (w54.heap[gb374]? = some (.cells #[.bool x375000_1] 4 (0, 0))) := ⟨(by rw [hw]; exact (bf BK374.out))⟩; have n2_ : Aside0 (w54.heap[gb375]? = some (.cells #[.bool x376000_1] 4 (0, 0))) := ⟨(by rw [hw]; exact (bf BK375.out))⟩; have n3_ : Aside0 (w54.heap[gb376]? = some (.cells #[.int .i64 x377000_1] 3 (0, 0))) := ⟨(by rw [hw]; exact (bf BK376.out))⟩; have n4_ : Aside0 (w54.heap[gb378]? = some (.cells #[.int .i64 (rd l0 x17_1)] 2 (0, 0))) := ⟨(by rw [hw]; exact (bf BK378.out))⟩; have n5_ : Aside0 (w54.heap[gb380]? = some (.cells #[.int .i64 t379] 3 (0, 0))) := ⟨(by rw [hw]; exact (bf BK380.out))⟩; have n6_ : Aside0 (w54.heap[gb382]? = some (.cells #[.int .i64 (rd l0 (ji32))] 2 (0, 0))) := ⟨(by rw [hw]; exact (bf BK382.out))⟩; have n7_ : Aside0 (w54.heap[gb384]? = some (.cells #[.int .i64 t383] 3 (0, 0))) := ⟨(by rw [hw]; exact (by (with_reducible repeat (first | refine blk_drewN ?_ _ | refine blk_drew ?_ | refine blk_alloc ?_ _)); refine blk_put (cs := #[.int .i64 0]) ?_ 0 _ rfl; (with_reducible repeat (first | refine blk_drewN ?_ _ | refine blk_drew ?_ | refine blk_alloc ?_ _)); exact BK384.out))⟩; have n8_ : Aside0 (Below w.heap.size w w54) := ⟨(by rw [hw]; exact bS)⟩; clear hw; clear HO_3; clear BK374; clear BK375; clear BK376; clear BK378; clear BK380; clear BK382; clear BK384; clear HB; have HO_3 := n0_; have BK374 := n1_; have BK375 := n2_; have BK376 := n3_; have BK378 := n4_; have BK380 := n5_; have BK382 := n6_; have BK384 := n7_; have HB := n8_; clear n0_ n1_ n2_ n3_ n4_ n5_ n6_ n7_ n8_; have hcz55_0 := bc BK382.out 0 (.int .i64 (rd l0 (ji32))); have hfz55_0 := blk_frozen BK382.out 0; have hnb56 := NB378_374.out; have hnc56 := NB374_378.out; have hnb57 := NB378_375.out; have hnc57 := NB375_378.out; have hnb58 := NB378_376.out; have hnc58 := NB376_378.out; have hnb59 := NB378_380.out; have hnc59 := NB380_378.out; have hcz60_0 := bc BK378.out 0 (.int .i64 (rd l0 x17_1)); have hfz60_0 := blk_frozen BK378.out 0; have hnb61 := NB380_374.out; have hnc61 := NB374_380.out; have hnb62 := NB380_375.out; have hnc62 := NB375_380.out; have hnb63 := NB380_376.out; have hnc63 := NB376_380.out; have hcz64_0 := bc BK380.out 0 (.int .i64 t379); have hfz64_0 := blk_frozen BK380.out 0; have hcz65_0 := bc BK384.out 0 (.int .i64 t383); have hfz65_0 := blk_frozen BK384.out 0; have hnb66 := NB375_374.out; have hnc66 := NB374_375.out; have hnb67 := NB375_376.out; have hnc67 := NB376_375.out; have hcz68_0 := bc BK375.out 0 (.bool x376000_1); have hfz68_0 := blk_frozen BK375.out 0; have hnb69 := NB374_376.out; have hnc69 := NB376_374.out; have hcz70_0 := bc BK374.out 0 (.bool x375000_1); have hfz70_0 := blk_frozen BK374.out 0; have hcz71_0 := bc BK376.out 0 (.int .i64 x377000_1); have hfz71_0 := blk_frozen BK376.out 0) | (go_at_call 115; (with_reducible refine (impl_charCuts_1.calls k1 (rd l0 (ji32)) (rd l0 x17_1) t379 t383 x376000_1 x375000_1 x377000_1 t385 gb382 gb378 gb380 gb384 gb375 gb374 gb376 _ (by first | assumption | (simp; assumption) | (simp [*]; done)) (by first | assumption | (simp; assumption) | (simp [*]; done)) (by first | assumption | (simp; assumption) | (simp [*]; done)) (by first | assumption | (simp; assumption) | (simp [*]; done)) (by first | assumption | (simp; assumption) | (simp [*]; done)) (by first | assumption | (simp; assumption) | (simp [*]; done)) (by first | assumption | (simp; assumption) | (simp [*]; done)) A36.out).mono ?_); rintro e w' ⟨rfl, ⟨nd, rfl⟩⟩; (try (rw [drewN_self w54]; generalize hq_ : World.drewN w54 _ = w54; have n0_ : Aside0 (Kd.R Kd.bool 4 w54 w.heap.size (fun k_ => k_ ≠ gb374 ∧ k_ ≠ gb375) v372 x3_1) := ⟨by rw [← hq_]; exact (kR HO_3.out)⟩; have n1_ : Aside0 (w54.heap[gb374]? = some (.cells #[.bool x375000_1] 4 (0, 0))) := ⟨by rw [← hq_]; exact (bk BK374.out)⟩; have n2_ : Aside0 (w54.heap[gb375]? = some (.cells #[.bool x376000_1] 4 (0, 0))) := ⟨by rw [← hq_]; exact (bk BK375.out)⟩; have n3_ : Aside0 (w54.heap[gb376]? = some (.cells #[.int .i64 x377000_1] 3 (0, 0))) := ⟨by rw [← hq_]; exact (bk BK376.out)⟩; have n4_ : Aside0 (w54.heap[gb378]? = some (.cells #[.int .i64 (rd l0 x17_1)] 2 (0, 0))) := ⟨by rw [← hq_]; exact (bk BK378.out)⟩; have n5_ : Aside0 (w54.heap[gb380]? = some (.cells #[.int .i64 t379] 3 (0, 0))) := ⟨by rw [← hq_]; exact (bk BK380.out)⟩; have n6_ : Aside0 (w54.heap[gb382]? = some (.cells #[.int .i64 (rd l0 (ji32))] 2 (0, 0))) := ⟨by rw [← hq_]; exact (bk BK382.out)⟩; have n7_ : Aside0 (w54.heap[gb384]? = some (.cells #[.int .i64 t383] 3 (0, 0))) := ⟨by rw [← hq_]; exact (bk BK384.out)⟩; have n8_ : Aside0 (Below w.heap.size w w54) := ⟨by rw [← hq_]; exact bS⟩; clear HO_3 BK374 BK375 BK376 BK378 BK380 BK382 BK384 HB hq_; have HO_3 := n0_; have BK374 := n1_; have BK375 := n2_; have BK376 := n3_; have BK378 := n4_; have BK380 := n5_; have BK382 := n6_; have BK384 := n7_; have HB := n8_; clear n0_ n1_ n2_ n3_ n4_ n5_ n6_ n7_ n8_)); have p38 : 0 ≤ (x17_1 : Int) := od; have q38 : (x17_1 : Int) < ((x3_1.length : Int) : Int) := od; obtain ⟨go38, co38, eo38, gb38, gl38, cl38, HG38⟩ := Kd.R_form HO_3.out (by omega); (first | cases eo38 | (injection eo38 with ea_ en_ ec_; (first | subst ea_ | (injection ea_ with ea_; subst ea_)); subst ec_; clear en_)); have GB38 := am gb38; have GG38 := am HG38; clear gb38 gl38 HG38; obtain ⟨hx38_0, hf38_0⟩ := Kd.R_celln false HO_3.out (x17_1 : Int) p38 q38; replace p38 := eq_true p38; replace q38 := eq_true q38; obtain ⟨hy72_, hz72_⟩ := Kd.R_celln false HO_3.out (x17_1 : Int) (od) (od); have HP72 := Kd.R_putg HO_3.out (x17_1 : Int) t385) | ((with_reducible refine gate_store (t := 4) (p := 37) rfl ?_); refine store_event (t := 4) (p := 37) (v := ?vo_w73) (w1 := (w54.setCell ⟨go38, (x17_1 : Int).toNat, none⟩ (.bool t385))) ?hg ?ho ?hn ?hr ?_; (case ho => rfl); (case hg => rfl); (case hn => rfl); (case hr => first | (go_simp; done) | (go_simp; rfl)); intro w73 hw; have hg : w54.grownBy w73 (some go38) := (by rw [hw]; exact HP72.2); have hp_ : Kd.R Kd.bool 4 w73 w.heap.size (fun k_ => k_ ≠ gb374 ∧ k_ ≠ gb375) (.slice (some ⟨go38, 0, none⟩) x3_1.length co38) y386 := (by rw [hw, Ny386.out]; exact HP72.1); clear HP72; replace BK374 := am (blk_grown (g := gb374) (o := .cells #[.bool x375000_1] 4 (0, 0)) (bk BK374.out) hg (Kd.R_away HO_3.out (fun _ hk => hk.1))); replace BK375 := am (blk_grown (g := gb375) (o := .cells #[.bool x376000_1] 4 (0, 0)) (bk BK375.out) hg (Kd.R_away HO_3.out (fun _ hk => hk.2))); replace BK376 := am (blk_grown (g := gb376) (o := .cells #[.int .i64 x377000_1] 3 (0, 0)) (bk BK376.out) hg (Kd.R_ne HO_3.out BK376.out (by decide))); replace BK378 := am (blk_grown (g := gb378) (o := .cells #[.int .i64 (rd l0 x17_1)] 2 (0, 0)) (bk BK378.out) hg (Kd.R_ne HO_3.out BK378.out (by decide))); replace BK380 := am (blk_grown (g := gb380) (o := .cells #[.int .i64 t379] 3 (0, 0)) (bk BK380.out) hg (Kd.R_ne HO_3.out BK380.out (by decide))); replace BK382 := am (blk_grown (g := gb382) (o := .cells #[.int .i64 (rd l0 (ji32))] 2 (0, 0)) (bk BK382.out) hg (Kd.R_ne HO_3.out BK382.out (by decide))); replace BK384 := am (blk_grown (g := gb384) (o := .cells #[.int .i64 t383] 3 (0, 0)) (bk BK384.out) hg (Kd.R_ne HO_3.out BK384.out (by decide))); replace HO_3 := am (hp_); replace HB := am ((by rw [hw]; exact below_set (HB.out) GB38.out : Below w.heap.size w w73)); clear hg hw hp_))
    go_meet
    case rel => exact ⟨_, (y386), H', ⟨kl⟩, ⟨kR HO_3.out⟩, ⟨bk BK374.out⟩, ⟨bk BK375.out⟩, ⟨bk BK376.out⟩, ⟨bk BK378.out⟩, ⟨bk BK380.out⟩, ⟨bS⟩⟩
   case rest =>
    clear HC19
    try clear c15b0
    try clear c16b0
    try clear c17b0
    try clear hcz24_0
    try clear hcz30_0
    try clear hfz24_0
    try clear hfz30_0
    try clear hx377_0
    try clear p377
    try clear q377
    obtain ⟨kq, x3_18, HA, HJ18, HO_3, BK374, BK375, BK376, BK378, BK380, HB⟩ := hcut
    cases kq with
    | zero => exact absurd HA.out (by simp [impl_charCuts.j1])
    | succ kj18 =>
     have H := HA.out
     clear HA
     simp only [impl_charCuts.j1] at H
     by_cases c74 : t379 = 2
     ·rw [if_pos c74] at H
      have c74b0 : (t379 == 2) = true := beq_iff_eq.mpr c74
      have c74b1 : (t379 != 2) = false := bne_eq_false_iff_eq.mpr c74
      clear c74
      by_cases c75 : (rd l0 x17_1) = 1584
      ·rw [if_pos c75] at H
       have c75b0 : ((rd l0 x17_1) == 1584) = true := beq_iff_eq.mpr c75
       have c75b1 : ((rd l0 x17_1) != 1584) = false := bne_eq_false_iff_eq.mpr c75
       clear c75
       by_cases c76 : t379 = 9
       rotate_left
       ·rw [if_neg c76] at H
        have c76b0 : (t379 == 9) = false := beq_eq_false_iff_ne.mpr c76
        have c76b1 : (t379 != 9) = true := bne_iff_ne.mpr c76
        have H' := am H
        clear H
        have hnb91 := NB380_374.out
        have hnc91 := NB374_380.out
        have hnb92 := NB380_375.out
        have hnc92 := NB375_380.out
        have hnb93 := NB380_376.out
        have hnc93 := NB376_380.out
        have hnb94 := NB380_378.out
        have hnc94 := NB378_380.out
        have hcz95_0 := bc BK380.out 0 (.int .i64 t379)
        have hfz95_0 := blk_frozen BK380.out 0
        have hnb96 := NB378_374.out
        have hnc96 := NB374_378.out
        have hnb97 := NB378_375.out
        have hnc97 := NB375_378.out
        have hnb98 := NB378_376.out
        have hnc98 := NB376_378.out
        have hcz99_0 := bc BK378.out 0 (.int .i64 (rd l0 x17_1))
        have hfz99_0 := blk_frozen BK378.out 0
        have hnb100 := NB375_374.out
        have hnc100 := NB374_375.out
        have hnb101 := NB375_376.out
        have hnc101 := NB376_375.out
        have hcz102_0 := bc BK375.out 0 (.bool x376000_1)
        have hfz102_0 := blk_frozen BK375.out 0
        have hnb103 := NB376_374.out
        have hnc103 := NB374_376.out
        have hcz104_0 := bc BK376.out 0 (.int .i64 x377000_1)
        have hfz104_0 := blk_frozen BK376.out 0
        go_wp2
        go_roundg kj18
        case measure => have := HK1.out; have := HJ18.out; omega
        case rel => exact ⟨(x3_18), (wrap64 (x17_1 + 1)), (x375000_1), (true), (0), sr, H', ⟨kl⟩, ⟨kR (Kd.R_mono (Kd.R_far (p := ⟨gb376, 0, none⟩) (Kd.R_far (p := ⟨gb375, 0, none⟩) (Kd.R_types (Kd.R_mono HO_3.out (fun k_ hk => (⟨hk, hk.2⟩ : _ ∧ k_ ≠ gb375))) BK376.out (by decide)) (fun _ hk => hk.1.2) (.bool true)) (fun _ hk => hk.2) (.int .i64 0)) (fun _ hk => ⟨hk.1.1.1, hk.1.1.2⟩))⟩, ⟨by (with_reducible repeat (first | refine blk_drewN ?_ _ | refine blk_drew ?_ | refine blk_alloc ?_ _)); refine blk_far ?_ NB374_376.out _; (with_reducible repeat (first | refine blk_drewN ?_ _ | refine blk_drew ?_ | refine blk_alloc ?_ _)); refine blk_far ?_ NB374_375.out _; (with_reducible repeat (first | refine blk_drewN ?_ _ | refine blk_drew ?_ | refine blk_alloc ?_ _)); exact BK374.out⟩, ⟨by (with_reducible repeat (first | refine blk_drewN ?_ _ | refine blk_drew ?_ | refine blk_alloc ?_ _)); refine blk_far ?_ NB375_376.out _; (with_reducible repeat (first | refine blk_drewN ?_ _ | refine blk_drew ?_ | refine blk_alloc ?_ _)); refine blk_put (cs := #[.bool x376000_1]) ?_ 0 _ rfl; (with_reducible repeat (first | refine blk_drewN ?_ _ | refine blk_drew ?_ | refine blk_alloc ?_ _)); exact BK375.out⟩, ⟨by (with_reducible repeat (first | refine blk_drewN ?_ _ | refine blk_drew ?_ | refine blk_alloc ?_ _)); refine blk_put (cs := #[.int .i64 x377000_1]) ?_ 0 _ rfl; (with_reducible repeat (first | refine blk_drewN ?_ _ | refine blk_drew ?_ | refine blk_alloc ?_ _)); refine blk_far ?_ NB376_375.out _; (with_reducible repeat (first | refine blk_drewN ?_ _ | refine blk_drew ?_ | refine blk_alloc ?_ _)); exact BK376.out⟩, ⟨bS⟩⟩
       rw [if_pos c76] at H
       have c76b0 : (t379 == 9) = true := beq_iff_eq.mpr c76
       have c76b1 : (t379 != 9) = false := bne_eq_false_iff_eq.mpr c76
       clear c76
       have H' := am H
       clear H
       have hnb77 := NB380_374.out
       have hnc77 := NB374_380.out
       have hnb78 := NB380_375.out
       have hnc78 := NB375_380.out
       have hnb79 := NB380_376.out
       have hnc79 := NB376_380.out
       have hnb80 := NB380_378.out
       have hnc80 := NB378_380.out
       have hcz81_0 := bc BK380.out 0 (.int .i64 t379)
       have hfz81_0 := blk_frozen BK380.out 0
       have hnb82 := NB378_374.out
       have hnc82 := NB374_378.out
       have hnb83 := NB378_375.out
       have hnc83 := NB375_378.out
       have hnb84 := NB378_376.out
       have hnc84 := NB376_378.out
       have hcz85_0 := bc BK378.out 0 (.int .i64 (rd l0 x17_1))
       have hfz85_0 := blk_frozen BK378.out 0
       have hnb86 := NB375_374.out
       have hnc86 := NB374_375.out
       have hnb87 := NB375_376.out
       have hnc87 := NB376_375.out
       have hcz88_0 := bc BK375.out 0 (.bool x376000_1)
       have hfz88_0 := blk_frozen BK375.out 0
       have hnb89 := NB376_374.out
       have hnc89 := NB374_376.out
       have hcz90_0 := bc BK376.out 0 (.int .i64 x377000_1)
       have hfz90_0 := blk_frozen BK376.out 0
       go_wp2
       go_roundg kj18
       case measure => have := HK1.out; have := HJ18.out; omega
       case rel => exact ⟨(x3_18), (wrap64 (x17_1 + 1)), (x375000_1), (true), (wrap64 (x377000_1 + 1)), sr, H', ⟨kl⟩, ⟨kR (Kd.R_mono (Kd.R_far (p := ⟨gb376, 0, none⟩) (Kd.R_far (p := ⟨gb375, 0, none⟩) (Kd.R_types (Kd.R_mono HO_3.out (fun k_ hk => (⟨hk, hk.2⟩ : _ ∧ k_ ≠ gb375))) BK376.out (by decide)) (fun _ hk => hk.1.2) (.bool true)) (fun _ hk => hk.2) (.int .i64 (wrap64 (x377000_1 + 1)))) (fun _ hk => ⟨hk.1.1.1, hk.1.1.2⟩))⟩, ⟨by (with_reducible repeat (first | refine blk_drewN ?_ _ | refine blk_drew ?_ | refine blk_alloc ?_ _)); refine blk_far ?_ NB374_376.out _; (with_reducible repeat (first | refine blk_drewN ?_ _ | refine blk_drew ?_ | refine blk_alloc ?_ _)); refine blk_far ?_ NB374_375.out _; (with_reducible repeat (first | refine blk_drewN ?_ _ | refine blk_drew ?_ | refine blk_alloc ?_ _)); exact BK374.out⟩, ⟨by (with_reducible repeat (first | refine blk_drewN ?_ _ | refine blk_drew ?_ | refine blk_alloc ?_ _)); refine blk_far ?_ NB375_376.out _; (with_reducible repeat (first | refine blk_drewN ?_ _ | refine blk_drew ?_ | refine blk_alloc ?_ _)); refine blk_put (cs := #[.bool x376000_1]) ?_ 0 _ rfl; (with_reducible repeat (first | refine blk_drewN ?_ _ | refine blk_drew ?_ | refine blk_alloc ?_ _)); exact BK375.out⟩, ⟨by (with_reducible repeat (first | refine blk_drewN ?_ _ | refine blk_drew ?_ | refine blk_alloc ?_ _)); refine blk_put (cs := #[.int .i64 x377000_1]) ?_ 0 _ rfl; (with_reducible repeat (first | refine blk_drewN ?_ _ | refine blk_drew ?_ | refine blk_alloc ?_ _)); refine blk_far ?_ NB376_375.out _; (with_reducible repeat (first | refine blk_drewN ?_ _ | refine blk_drew ?_ | refine blk_alloc ?_ _)); exact BK376.out⟩, ⟨bS⟩⟩
      rw [if_neg c75] at H
      have c75b0 : ((rd l0 x17_1) == 1584) = false := beq_eq_false_iff_ne.mpr c75
      have c75b1 : ((rd l0 x17_1) != 1584) = true := bne_iff_ne.mpr c75
      by_cases c105 : (rd l0 x17_1) = 1585
      rotate_left
      ·rw [if_neg c105] at H
       have c105b0 : ((rd l0 x17_1) == 1585) = false := beq_eq_false_iff_ne.mpr c105
       have c105b1 : ((rd l0 x17_1) != 1585) = true := bne_iff_ne.mpr c105
       by_cases c135 : t379 = 9
       rotate_left
       ·rw [if_neg c135] at H
        have c135b0 : (t379 == 9) = false := beq_eq_false_iff_ne.mpr c135
        have c135b1 : (t379 != 9) = true := bne_iff_ne.mpr c135
        have H' := am H
        clear H
        have hnb150 := NB380_374.out
        have hnc150 := NB374_380.out
        have hnb151 := NB380_375.out
        have hnc151 := NB375_380.out
        have hnb152 := NB380_376.out
        have hnc152 := NB376_380.out
        have hnb153 := NB380_378.out
        have hnc153 := NB378_380.out
        have hcz154_0 := bc BK380.out 0 (.int .i64 t379)
        have hfz154_0 := blk_frozen BK380.out 0
        have hnb155 := NB378_374.out
        have hnc155 := NB374_378.out
        have hnb156 := NB378_375.out
        have hnc156 := NB375_378.out
        have hnb157 := NB378_376.out
        have hnc157 := NB376_378.out
        have hcz158_0 := bc BK378.out 0 (.int .i64 (rd l0 x17_1))
        have hfz158_0 := blk_frozen BK378.out 0
        have hnb159 := NB375_374.out
        have hnc159 := NB374_375.out
        have hnb160 := NB375_376.out
        have hnc160 := NB376_375.out
        have hcz161_0 := bc BK375.out 0 (.bool x376000_1)
        have hfz161_0 := blk_frozen BK375.out 0
        have hnb162 := NB376_374.out
        have hnc162 := NB374_376.out
        have hcz163_0 := bc BK376.out 0 (.int .i64 x377000_1)
        have hfz163_0 := blk_frozen BK376.out 0
        go_wp2
        go_roundg kj18
        case measure => have := HK1.out; have := HJ18.out; omega
        case rel => exact ⟨(x3_18), (wrap64 (x17_1 + 1)), (x375000_1), (false), (0), sr, H', ⟨kl⟩, ⟨kR (Kd.R_mono (Kd.R_far (p := ⟨gb376, 0, none⟩) (Kd.R_far (p := ⟨gb375, 0, none⟩) (Kd.R_types (Kd.R_mono HO_3.out (fun k_ hk => (⟨hk, hk.2⟩ : _ ∧ k_ ≠ gb375))) BK376.out (by decide)) (fun _ hk => hk.1.2) (.bool false)) (fun _ hk => hk.2) (.int .i64 0)) (fun _ hk => ⟨hk.1.1.1, hk.1.1.2⟩))⟩, ⟨by (with_reducible repeat (first | refine blk_drewN ?_ _ | refine blk_drew ?_ | refine blk_alloc ?_ _)); refine blk_far ?_ NB374_376.out _; (with_reducible repeat (first | refine blk_drewN ?_ _ | refine blk_drew ?_ | refine blk_alloc ?_ _)); refine blk_far ?_ NB374_375.out _; (with_reducible repeat (first | refine blk_drewN ?_ _ | refine blk_drew ?_ | refine blk_alloc ?_ _)); exact BK374.out⟩, ⟨by (with_reducible repeat (first | refine blk_drewN ?_ _ | refine blk_drew ?_ | refine blk_alloc ?_ _)); refine blk_far ?_ NB375_376.out _; (with_reducible repeat (first | refine blk_drewN ?_ _ | refine blk_drew ?_ | refine blk_alloc ?_ _)); refine blk_put (cs := #[.bool x376000_1]) ?_ 0 _ rfl; (with_reducible repeat (first | refine blk_drewN ?_ _ | refine blk_drew ?_ | refine blk_alloc ?_ _)); exact BK375.out⟩, ⟨by (with_reducible repeat (first | refine blk_drewN ?_ _ | refine blk_drew ?_ | refine blk_alloc ?_ _)); refine blk_put (cs := #[.int .i64 x377000_1]) ?_ 0 _ rfl; (with_reducible repeat (first | refine blk_drewN ?_ _ | refine blk_drew ?_ | refine blk_alloc ?_ _)); refine blk_far ?_ NB376_375.out _; (with_reducible repeat (first | refine blk_drewN ?_ _ | refine blk_drew ?_ | refine blk_alloc ?_ _)); exact BK376.out⟩, ⟨bS⟩⟩
       rw [if_pos c135] at H
       have c135b0 : (t379 == 9) = true := beq_iff_eq.mpr c135
       have c135b1 : (t379 != 9) = false := bne_eq_false_iff_eq.mpr c135
       clear c135
       have H' := am H
       clear H
       have hnb136 := NB380_374.out
       have hnc136 := NB374_380.out
       have hnb137 := NB380_375.out
       have hnc137 := NB375_380.out
       have hnb138 := NB380_376.out
       have hnc138 := NB376_380.out
       have hnb139 := NB380_378.out
       have hnc139 := NB378_380.out
       have hcz140_0 := bc BK380.out 0 (.int .i64 t379)
       have hfz140_0 := blk_frozen BK380.out 0
       have hnb141 := NB378_374.out
       have hnc141 := NB374_378.out
       have hnb142 := NB378_375.out
       have hnc142 := NB375_378.out
       have hnb143 := NB378_376.out
       have hnc143 := NB376_378.out
       have hcz144_0 := bc BK378.out 0 (.int .i64 (rd l0 x17_1))
       have hfz144_0 := blk_frozen BK378.out 0
       have hnb145 := NB375_374.out
       have hnc145 := NB374_375.out
       have hnb146 := NB375_376.out
       have hnc146 := NB376_375.out
       have hcz147_0 := bc BK375.out 0 (.bool x376000_1)
       have hfz147_0 := blk_frozen BK375.out 0
       have hnb148 := NB376_374.out
       have hnc148 := NB374_376.out
       have hcz149_0 := bc BK376.out 0 (.int .i64 x377000_1)
       have hfz149_0 := blk_frozen BK376.out 0
       go_wp2
       go_roundg kj18
       case measure => have := HK1.out; have := HJ18.out; omega
       case rel => exact ⟨(x3_18), (wrap64 (x17_1 + 1)), (x375000_1), (false), (wrap64 (x377000_1 + 1)), sr, H', ⟨kl⟩, ⟨kR (Kd.R_mono (Kd.R_far (p := ⟨gb376, 0, none⟩) (Kd.R_far (p := ⟨gb375, 0, none⟩) (Kd.R_types (Kd.R_mono HO_3.out (fun k_ hk => (⟨hk, hk.2⟩ : _ ∧ k_ ≠ gb375))) BK376.out (by decide)) (fun _ hk => hk.1.2) (.bool false)) (fun _ hk => hk.2) (.int .i64 (wrap64 (x377000_1 + 1)))) (fun _ hk => ⟨hk.1.1.1, hk.1.1.2⟩))⟩, ⟨by (with_reducible repeat (first | refine blk_drewN ?_ _ | refine blk_drew ?_ | refine blk_alloc ?_ _)); refine blk_far ?_ NB374_376.out _; (with_reducible repeat (first | refine blk_drewN ?_ _ | refine blk_drew ?_ | refine blk_alloc ?_ _)); refine blk_far ?_ NB374_375.out _; (with_reducible repeat (first | refine blk_drewN ?_ _ | refine blk_drew ?_ | refine blk_alloc ?_ _)); exact BK374.out⟩, ⟨by (with_reducible repeat (first | refine blk_drewN ?_ _ | refine blk_drew ?_ | refine blk_alloc ?_ _)); refine blk_far ?_ NB375_376.out _; (with_reducible repeat (first | refine blk_drewN ?_ _ | refine blk_drew ?_ | refine blk_alloc ?_ _)); refine blk_put (cs := #[.bool x376000_1]) ?_ 0 _ rfl; (with_reducible repeat (first | refine blk_drewN ?_ _ | refine blk_drew ?_ | refine blk_alloc ?_ _)); exact BK375.out⟩, ⟨by (with_reducible repeat (first | refine blk_drewN ?_ _ | refine blk_drew ?_ | refine blk_alloc ?_ _)); refine blk_put (cs := #[.int .i64 x377000_1]) ?_ 0 _ rfl; (with_reducible repeat (first | refine blk_drewN ?_ _ | refine blk_drew ?_ | refine blk_alloc ?_ _)); refine blk_far ?_ NB376_375.out _; (with_reducible repeat (first | refine blk_drewN ?_ _ | refine blk_drew ?_ | refine blk_alloc ?_ _)); exact BK376.out⟩, ⟨bS⟩⟩
      rw [if_pos c105] at H
      have c105b0 : ((rd l0 x17_1) == 1585) = true := beq_iff_eq.mpr c105
      have c105b1 : ((rd l0 x17_1) != 1585) = false := bne_eq_false_iff_eq.mpr c105
      clear c105
      by_cases c106 : t379 = 9
      rotate_left
      ·rw [if_neg c106] at H
       have c106b0 : (t379 == 9) = false := beq_eq_false_iff_ne.mpr c106
       have c106b1 : (t379 != 9) = true := bne_iff_ne.mpr c106
       have H' := am H
       clear H
       have hnb121 := NB380_374.out
       have hnc121 := NB374_380.out
       have hnb122 := NB380_375.out
       have hnc122 := NB375_380.out
       have hnb123 := NB380_376.out
       have hnc123 := NB376_380.out
       have hnb124 := NB380_378.out
       have hnc124 := NB378_380.out
       have hcz125_0 := bc BK380.out 0 (.int .i64 t379)
       have hfz125_0 := blk_frozen BK380.out 0
       have hnb126 := NB378_374.out
       have hnc126 := NB374_378.out
       have hnb127 := NB378_375.out
       have hnc127 := NB375_378.out
       have hnb128 := NB378_376.out
       have hnc128 := NB376_378.out
       have hcz129_0 := bc BK378.out 0 (.int .i64 (rd l0 x17_1))
       have hfz129_0 := blk_frozen BK378.out 0
       have hnb130 := NB375_374.out
       have hnc130 := NB374_375.out
       have hnb131 := NB375_376.out
       have hnc131 := NB376_375.out
       have hcz132_0 := bc BK375.out 0 (.bool x376000_1)
       have hfz132_0 := blk_frozen BK375.out 0
       have hnb133 := NB376_374.out
       have hnc133 := NB374_376.out
       have hcz134_0 := bc BK376.out 0 (.int .i64 x377000_1)
       have hfz134_0 := blk_frozen BK376.out 0
       go_wp2
       go_roundg kj18
       case measure => have := HK1.out; have := HJ18.out; omega
       case rel => exact ⟨(x3_18), (wrap64 (x17_1 + 1)), (x375000_1), (x376000_1), (0), sr, H', ⟨kl⟩, ⟨kR (Kd.R_mono (Kd.R_far (p := ⟨gb376, 0, none⟩) (Kd.R_far (p := ⟨gb375, 0, none⟩) (Kd.R_types (Kd.R_mono HO_3.out (fun k_ hk => (⟨hk, hk.2⟩ : _ ∧ k_ ≠ gb375))) BK376.out (by decide)) (fun _ hk => hk.1.2) (.bool x376000_1)) (fun _ hk => hk.2) (.int .i64 0)) (fun _ hk => ⟨hk.1.1.1, hk.1.1.2⟩))⟩, ⟨by (with_reducible repeat (first | refine blk_drewN ?_ _ | refine blk_drew ?_ | refine blk_alloc ?_ _)); refine blk_far ?_ NB374_376.out _; (with_reducible repeat (first | refine blk_drewN ?_ _ | refine blk_drew ?_ | refine blk_alloc ?_ _)); refine blk_far ?_ NB374_375.out _; (with_reducible repeat (first | refine blk_drewN ?_ _ | refine blk_drew ?_ | refine blk_alloc ?_ _)); exact BK374.out⟩, ⟨by (with_reducible repeat (first | refine blk_drewN ?_ _ | refine blk_drew ?_ | refine blk_alloc ?_ _)); refine blk_far ?_ NB375_376.out _; (with_reducible repeat (first | refine blk_drewN ?_ _ | refine blk_drew ?_ | refine blk_alloc ?_ _)); refine blk_put (cs := #[.bool x376000_1]) ?_ 0 _ rfl; (with_reducible repeat (first | refine blk_drewN ?_ _ | refine blk_drew ?_ | refine blk_alloc ?_ _)); exact BK375.out⟩, ⟨by (with_reducible repeat (first | refine blk_drewN ?_ _ | refine blk_drew ?_ | refine blk_alloc ?_ _)); refine blk_put (cs := #[.int .i64 x377000_1]) ?_ 0 _ rfl; (with_reducible repeat (first | refine blk_drewN ?_ _ | refine blk_drew ?_ | refine blk_alloc ?_ _)); refine blk_far ?_ NB376_375.out _; (with_reducible repeat (first | refine blk_drewN ?_ _ | refine blk_drew ?_ | refine blk_alloc ?_ _)); exact BK376.out⟩, ⟨bS⟩⟩
      rw [if_pos c106] at H
      have c106b0 : (t379 == 9) = true := beq_iff_eq.mpr c106
      have c106b1 : (t379 != 9) = false := bne_eq_false_iff_eq.mpr c106
      clear c106
      have H' := am H
      clear H
      have hnb107 := NB380_374.out
      have hnc107 := NB374_380.out
      have hnb108 := NB380_375.out
      have hnc108 := NB375_380.out
      have hnb109 := NB380_376.out
      have hnc109 := NB376_380.out
      have hnb110 := NB380_378.out
      have hnc110 := NB378_380.out
      have hcz111_0 := bc BK380.out 0 (.int .i64 t379)
      have hfz111_0 := blk_frozen BK380.out 0
      have hnb112 := NB378_374.out
      have hnc112 := NB374_378.out
      have hnb113 := NB378_375.out
      have hnc113 := NB375_378.out
      have hnb114 := NB378_376.out
      have hnc114 := NB376_378.out
      have hcz115_0 := bc BK378.out 0 (.int .i64 (rd l0 x17_1))
      have hfz115_0 := blk_frozen BK378.out 0
      have hnb116 := NB375_374.out
      have hnc116 := NB374_375.out
      have hnb117 := NB375_376.out
      have hnc117 := NB376_375.out
      have hcz118_0 := bc BK375.out 0 (.bool x376000_1)
      have hfz118_0 := blk_frozen BK375.out 0
      have hnb119 := NB376_374.out
      have hnc119 := NB374_376.out
      have hcz120_0 := bc BK376.out 0 (.int .i64 x377000_1)
      have hfz120_0 := blk_frozen BK376.out 0
      go_wp2
      go_roundg kj18
      case measure => have := HK1.out; have := HJ18.out; omega
      case rel => exact ⟨(x3_18), (wrap64 (x17_1 + 1)), (x375000_1), (x376000_1), (wrap64 (x377000_1 + 1)), sr, H', ⟨kl⟩, ⟨kR (Kd.R_mono (Kd.R_far (p := ⟨gb376, 0, none⟩) (Kd.R_far (p := ⟨gb375, 0, none⟩) (Kd.R_types (Kd.R_mono HO_3.out (fun k_ hk => (⟨hk, hk.2⟩ : _ ∧ k_ ≠ gb375))) BK376.out (by decide)) (fun _ hk => hk.1.2) (.bool x376000_1)) (fun _ hk => hk.2) (.int .i64 (wrap64 (x377000_1 + 1)))) (fun _ hk => ⟨hk.1.1.1, hk.1.1.2⟩))⟩, ⟨by (with_reducible repeat (first | refine blk_drewN ?_ _ | refine blk_drew ?_ | refine blk_alloc ?_ _)); refine blk_far ?_ NB374_376.out _; (with_reducible repeat (first | refine blk_drewN ?_ _ | refine blk_drew ?_ | refine blk_alloc ?_ _)); refine blk_far ?_ NB374_375.out _; (with_reducible repeat (first | refine blk_drewN ?_ _ | refine blk_drew ?_ | refine blk_alloc ?_ _)); exact BK374.out⟩, ⟨by (with_reducible repeat (first | refine blk_drewN ?_ _ | refine blk_drew ?_ | refine blk_alloc ?_ _)); refine blk_far ?_ NB375_376.out _; (with_reducible repeat (first | refine blk_drewN ?_ _ | refine blk_drew ?_ | refine blk_alloc ?_ _)); refine blk_put (cs := #[.bool x376000_1]) ?_ 0 _ rfl; (with_reducible repeat (first | refine blk_drewN ?_ _ | refine blk_drew ?_ | refine blk_alloc ?_ _)); exact BK375.out⟩, ⟨by (with_reducible repeat (first | refine blk_drewN ?_ _ | refine blk_drew ?_ | refine blk_alloc ?_ _)); refine blk_put (cs := #[.int .i64 x377000_1]) ?_ 0 _ rfl; (with_reducible repeat (first | refine blk_drewN ?_ _ | refine blk_drew ?_ | refine blk_alloc ?_ _)); refine blk_far ?_ NB376_375.out _; (with_reducible repeat (first | refine blk_drewN ?_ _ | refine blk_drew ?_ | refine blk_alloc ?_ _)); exact BK376.out⟩, ⟨bS⟩⟩
     rw [if_neg c74] at H
     have c74b0 : (t379 == 2) = false := beq_eq_false_iff_ne.mpr c74
     have c74b1 : (t379 != 2) = true := bne_iff_ne.mpr c74
     by_cases c164 : (rd l0 x17_1) = 1584
     ·rw [if_pos c164] at H
      have c164b0 : ((rd l0 x17_1) == 1584) = true := beq_iff_eq.mpr c164
      have c164b1 : ((rd l0 x17_1) != 1584) = false := bne_eq_false_iff_eq.mpr c164
      clear c164
      by_cases c165 : t379 = 9
      rotate_left
      ·rw [if_neg c165] at H
       have c165b0 : (t379 == 9) = false := beq_eq_false_iff_ne.mpr c165
       have c165b1 : (t379 != 9) = true := bne_iff_ne.mpr c165
       have H' := am H
       clear H
       have hnb181 := NB380_374.out
       have hnc181 := NB374_380.out
       have hnb182 := NB380_375.out
       have hnc182 := NB375_380.out
       have hnb183 := NB380_376.out
       have hnc183 := NB376_380.out
       have hnb184 := NB380_378.out
       have hnc184 := NB378_380.out
       have hcz185_0 := bc BK380.out 0 (.int .i64 t379)
       have hfz185_0 := blk_frozen BK380.out 0
       have hnb186 := NB374_375.out
       have hnc186 := NB375_374.out
       have hnb187 := NB374_376.out
       have hnc187 := NB376_374.out
       have hnb188 := NB374_378.out
       have hnc188 := NB378_374.out
       have hcz189_0 := bc BK374.out 0 (.bool x375000_1)
       have hfz189_0 := blk_frozen BK374.out 0
       have hnb190 := NB378_375.out
       have hnc190 := NB375_378.out
       have hnb191 := NB378_376.out
       have hnc191 := NB376_378.out
       have hcz192_0 := bc BK378.out 0 (.int .i64 (rd l0 x17_1))
       have hfz192_0 := blk_frozen BK378.out 0
       have hnb193 := NB375_376.out
       have hnc193 := NB376_375.out
       have hcz194_0 := bc BK375.out 0 (.bool x376000_1)
       have hfz194_0 := blk_frozen BK375.out 0
       have hcz195_0 := bc BK376.out 0 (.int .i64 x377000_1)
       have hfz195_0 := blk_frozen BK376.out 0
       go_wp2
       go_roundg kj18
       case measure => have := HK1.out; have := HJ18.out; omega
       case rel => exact ⟨(x3_18), (wrap64 (x17_1 + 1)), ((t379 == 8)), (true), (0), sr, H', ⟨kl⟩, ⟨kR (Kd.R_mono (Kd.R_far (p := ⟨gb376, 0, none⟩) (Kd.R_far (p := ⟨gb375, 0, none⟩) (Kd.R_far (p := ⟨gb374, 0, none⟩) (Kd.R_types (Kd.R_mono (Kd.R_mono HO_3.out (fun k_ hk => (⟨hk, hk.1⟩ : _ ∧ k_ ≠ gb374))) (fun k_ hk => (⟨hk, hk.1.2⟩ : _ ∧ k_ ≠ gb375))) BK376.out (by decide)) (fun _ hk => hk.1.1.2) (.bool (t379 == 8))) (fun _ hk => hk.1.2) (.bool true)) (fun _ hk => hk.2) (.int .i64 0)) (fun _ hk => ⟨hk.1.1.1.1, hk.1.1.1.2⟩))⟩, ⟨by (with_reducible repeat (first | refine blk_drewN ?_ _ | refine blk_drew ?_ | refine blk_alloc ?_ _)); refine blk_far ?_ NB374_376.out _; (with_reducible repeat (first | refine blk_drewN ?_ _ | refine blk_drew ?_ | refine blk_alloc ?_ _)); refine blk_far ?_ NB374_375.out _; (with_reducible repeat (first | refine blk_drewN ?_ _ | refine blk_drew ?_ | refine blk_alloc ?_ _)); refine blk_put (cs := #[.bool x375000_1]) ?_ 0 _ rfl; (with_reducible repeat (first | refine blk_drewN ?_ _ | refine blk_drew ?_ | refine blk_alloc ?_ _)); exact BK374.out⟩, ⟨by (with_reducible repeat (first | refine blk_drewN ?_ _ | refine blk_drew ?_ | refine blk_alloc ?_ _)); refine blk_far ?_ NB375_376.out _; (with_reducible repeat (first | refine blk_drewN ?_ _ | refine blk_drew ?_ | refine blk_alloc ?_ _)); refine blk_put (cs := #[.bool x376000_1]) ?_ 0 _ rfl; (with_reducible repeat (first | refine blk_drewN ?_ _ | refine blk_drew ?_ | refine blk_alloc ?_ _)); refine blk_far ?_ NB375_374.out _; (with_reducible repeat (first | refine blk_drewN ?_ _ | refine blk_drew ?_ | refine blk_alloc ?_ _)); exact BK375.out⟩, ⟨by (with_reducible repeat (first | refine blk_drewN ?_ _ | refine blk_drew ?_ | refine blk_alloc ?_ _)); refine blk_put (cs := #[.int .i64 x377000_1]) ?_ 0 _ rfl; (with_reducible repeat (first | refine blk_drewN ?_ _ | refine blk_drew ?_ | refine blk_alloc ?_ _)); refine blk_far ?_ NB376_375.out _; (with_reducible repeat (first | refine blk_drewN ?_ _ | refine blk_drew ?_ | refine blk_alloc ?_ _)); refine blk_far ?_ NB376_374.out _; (with_reducible repeat (first | refine blk_drewN ?_ _ | refine blk_drew ?_ | refine blk_alloc ?_ _)); exact BK376.out⟩, ⟨bS⟩⟩
      rw [if_pos c165] at H
      have c165b0 : (t379 == 9) = true := beq_iff_eq.mpr c165
      have c165b1 : (t379 != 9) = false := bne_eq_false_iff_eq.mpr c165
      clear c165
      have H' := am H
      clear H
      have hnb166 := NB380_374.out
      have hnc166 := NB374_380.out
      have hnb167 := NB380_375.out
      have hnc167 := NB375_380.out
      have hnb168 := NB380_376.out
      have hnc168 := NB376_380.out
      have hnb169 := NB380_378.out
      have hnc169 := NB378_380.out
      have hcz170_0 := bc BK380.out 0 (.int .i64 t379)
      have hfz170_0 := blk_frozen BK380.out 0
      have hnb171 := NB374_375.out
      have hnc171 := NB375_374.out
      have hnb172 := NB374_376.out
      have hnc172 := NB376_374.out
      have hnb173 := NB374_378.out
      have hnc173 := NB378_374.out
      have hcz174_0 := bc BK374.out 0 (.bool x375000_1)
      have hfz174_0 := blk_frozen BK374.out 0
      have hnb175 := NB378_375.out
      have hnc175 := NB375_378.out
      have hnb176 := NB378_376.out
      have hnc176 := NB376_378.out
      have hcz177_0 := bc BK378.out 0 (.int .i64 (rd l0 x17_1))
      have hfz177_0 := blk_frozen BK378.out 0
      have hnb178 := NB375_376.out
      have hnc178 := NB376_375.out
      have hcz179_0 := bc BK375.out 0 (.bool x376000_1)
      have hfz179_0 := blk_frozen BK375.out 0
      have hcz180_0 := bc BK376.out 0 (.int .i64 x377000_1)
      have hfz180_0 := blk_frozen BK376.out 0
      go_wp2
      go_roundg kj18
      case measure => have := HK1.out; have := HJ18.out; omega
      case rel => exact ⟨(x3_18), (wrap64 (x17_1 + 1)), ((t379 == 8)), (true), (wrap64 (x377000_1 + 1)), sr, H', ⟨kl⟩, ⟨kR (Kd.R_mono (Kd.R_far (p := ⟨gb376, 0, none⟩) (Kd.R_far (p := ⟨gb375, 0, none⟩) (Kd.R_far (p := ⟨gb374, 0, none⟩) (Kd.R_types (Kd.R_mono (Kd.R_mono HO_3.out (fun k_ hk => (⟨hk, hk.1⟩ : _ ∧ k_ ≠ gb374))) (fun k_ hk => (⟨hk, hk.1.2⟩ : _ ∧ k_ ≠ gb375))) BK376.out (by decide)) (fun _ hk => hk.1.1.2) (.bool (t379 == 8))) (fun _ hk => hk.1.2) (.bool true)) (fun _ hk => hk.2) (.int .i64 (wrap64 (x377000_1 + 1)))) (fun _ hk => ⟨hk.1.1.1.1, hk.1.1.1.2⟩))⟩, ⟨by (with_reducible repeat (first | refine blk_drewN ?_ _ | refine blk_drew ?_ | refine blk_alloc ?_ _)); refine blk_far ?_ NB374_376.out _; (with_reducible repeat (first | refine blk_drewN ?_ _ | refine blk_drew ?_ | refine blk_alloc ?_ _)); refine blk_far ?_ NB374_375.out _; (with_reducible repeat (first | refine blk_drewN ?_ _ | refine blk_drew ?_ | refine blk_alloc ?_ _)); refine blk_put (cs := #[.bool x375000_1]) ?_ 0 _ rfl; (with_reducible repeat (first | refine blk_drewN ?_ _ | refine blk_drew ?_ | refine blk_alloc ?_ _)); exact BK374.out⟩, ⟨by (with_reducible repeat (first | refine blk_drewN ?_ _ | refine blk_drew ?_ | refine blk_alloc ?_ _)); refine blk_far ?_ NB375_376.out _; (with_reducible repeat (first | refine blk_drewN ?_ _ | refine blk_drew ?_ | refine blk_alloc ?_ _)); refine blk_put (cs := #[.bool x376000_1]) ?_ 0 _ rfl; (with_reducible repeat (first | refine blk_drewN ?_ _ | refine blk_drew ?_ | refine blk_alloc ?_ _)); refine blk_far ?_ NB375_374.out _; (with_reducible repeat (first | refine blk_drewN ?_ _ | refine blk_drew ?_ | refine blk_alloc ?_ _)); exact BK375.out⟩, ⟨by (with_reducible repeat (first | refine blk_drewN ?_ _ | refine blk_drew ?_ | refine blk_alloc ?_ _)); refine blk_put (cs := #[.int .i64 x377000_1]) ?_ 0 _ rfl; (with_reducible repeat (first | refine blk_drewN ?_ _ | refine blk_drew ?_ | refine blk_alloc ?_ _)); refine blk_far ?_ NB376_375.out _; (with_reducible repeat (first | refine blk_drewN ?_ _ | refine blk_drew ?_ | refine blk_alloc ?_ _)); refine blk_far ?_ NB376_374.out _; (with_reducible repeat (first | refine blk_drewN ?_ _ | refine blk_drew ?_ | refine blk_alloc ?_ _)); exact BK376.out⟩, ⟨bS⟩⟩
     rw [if_neg c164] at H
     have c164b0 : ((rd l0 x17_1) == 1584) = false := beq_eq_false_iff_ne.mpr c164
     have c164b1 : ((rd l0 x17_1) != 1584) = true := bne_iff_ne.mpr c164
     by_cases c196 : (rd l0 x17_1) = 1585
     rotate_left
     ·rw [if_neg c196] at H
      have c196b0 : ((rd l0 x17_1) == 1585) = false := beq_eq_false_iff_ne.mpr c196
      have c196b1 : ((rd l0 x17_1) != 1585) = true := bne_iff_ne.mpr c196
      by_cases c228 : t379 = 9
      rotate_left
      ·rw [if_neg c228] at H
       have c228b0 : (t379 == 9) = false := beq_eq_false_iff_ne.mpr c228
       have c228b1 : (t379 != 9) = true := bne_iff_ne.mpr c228
       have H' := am H
       clear H
       have hnb244 := NB380_374.out
       have hnc244 := NB374_380.out
       have hnb245 := NB380_375.out
       have hnc245 := NB375_380.out
       have hnb246 := NB380_376.out
       have hnc246 := NB376_380.out
       have hnb247 := NB380_378.out
       have hnc247 := NB378_380.out
       have hcz248_0 := bc BK380.out 0 (.int .i64 t379)
       have hfz248_0 := blk_frozen BK380.out 0
       have hnb249 := NB374_375.out
       have hnc249 := NB375_374.out
       have hnb250 := NB374_376.out
       have hnc250 := NB376_374.out
       have hnb251 := NB374_378.out
       have hnc251 := NB378_374.out
       have hcz252_0 := bc BK374.out 0 (.bool x375000_1)
       have hfz252_0 := blk_frozen BK374.out 0
       have hnb253 := NB378_375.out
       have hnc253 := NB375_378.out
       have hnb254 := NB378_376.out
       have hnc254 := NB376_378.out
       have hcz255_0 := bc BK378.out 0 (.int .i64 (rd l0 x17_1))
       have hfz255_0 := blk_frozen BK378.out 0
       have hnb256 := NB375_376.out
       have hnc256 := NB376_375.out
       have hcz257_0 := bc BK375.out 0 (.bool x376000_1)
       have hfz257_0 := blk_frozen BK375.out 0
       have hcz258_0 := bc BK376.out 0 (.int .i64 x377000_1)
       have hfz258_0 := blk_frozen BK376.out 0
       go_wp2
       go_roundg kj18
       case measure => have := HK1.out; have := HJ18.out; omega
       case rel => exact ⟨(x3_18), (wrap64 (x17_1 + 1)), ((t379 == 8)), (false), (0), sr, H', ⟨kl⟩, ⟨kR (Kd.R_mono (Kd.R_far (p := ⟨gb376, 0, none⟩) (Kd.R_far (p := ⟨gb375, 0, none⟩) (Kd.R_far (p := ⟨gb374, 0, none⟩) (Kd.R_types (Kd.R_mono (Kd.R_mono HO_3.out (fun k_ hk => (⟨hk, hk.1⟩ : _ ∧ k_ ≠ gb374))) (fun k_ hk => (⟨hk, hk.1.2⟩ : _ ∧ k_ ≠ gb375))) BK376.out (by decide)) (fun _ hk => hk.1.1.2) (.bool (t379 == 8))) (fun _ hk => hk.1.2) (.bool false)) (fun _ hk => hk.2) (.int .i64 0)) (fun _ hk => ⟨hk.1.1.1.1, hk.1.1.1.2⟩))⟩, ⟨by (with_reducible repeat (first | refine blk_drewN ?_ _ | refine blk_drew ?_ | refine blk_alloc ?_ _)); refine blk_far ?_ NB374_376.out _; (with_reducible repeat (first | refine blk_drewN ?_ _ | refine blk_drew ?_ | refine blk_alloc ?_ _)); refine blk_far ?_ NB374_375.out _; (with_reducible repeat (first | refine blk_drewN ?_ _ | refine blk_drew ?_ | refine blk_alloc ?_ _)); refine blk_put (cs := #[.bool x375000_1]) ?_ 0 _ rfl; (with_reducible repeat (first | refine blk_drewN ?_ _ | refine blk_drew ?_ | refine blk_alloc ?_ _)); exact BK374.out⟩, ⟨by (with_reducible repeat (first | refine blk_drewN ?_ _ | refine blk_drew ?_ | refine blk_alloc ?_ _)); refine blk_far ?_ NB375_376.out _; (with_reducible repeat (first | refine blk_drewN ?_ _ | refine blk_drew ?_ | refine blk_alloc ?_ _)); refine blk_put (cs := #[.bool x376000_1]) ?_ 0 _ rfl; (with_reducible repeat (first | refine blk_drewN ?_ _ | refine blk_drew ?_ | refine blk_alloc ?_ _)); refine blk_far ?_ NB375_374.out _; (with_reducible repeat (first | refine blk_drewN ?_ _ | refine blk_drew ?_ | refine blk_alloc ?_ _)); exact BK375.out⟩, ⟨by (with_reducible repeat (first | refine blk_drewN ?_ _ | refine blk_drew ?_ | refine blk_alloc ?_ _)); refine blk_put (cs := #[.int .i64 x377000_1]) ?_ 0 _ rfl; (with_reducible repeat (first | refine blk_drewN ?_ _ | refine blk_drew ?_ | refine blk_alloc ?_ _)); refine blk_far ?_ NB376_375.out _; (with_reducible repeat (first | refine blk_drewN ?_ _ | refine blk_drew ?_ | refine blk_alloc ?_ _)); refine blk_far ?_ NB376_374.out _; (with_reducible repeat (first | refine blk_drewN ?_ _ | refine blk_drew ?_ | refine blk_alloc ?_ _)); exact BK376.out⟩, ⟨bS⟩⟩
      rw [if_pos c228] at H
      have c228b0 : (t379 == 9) = true := beq_iff_eq.mpr c228
      have c228b1 : (t379 != 9) = false := bne_eq_false_iff_eq.mpr c228
      clear c228
      have H' := am H
      clear H
      have hnb229 := NB380_374.out
      have hnc229 := NB374_380.out
      have hnb230 := NB380_375.out
      have hnc230 := NB375_380.out
      have hnb231 := NB380_376.out
      have hnc231 := NB376_380.out
      have hnb232 := NB380_378.out
      have hnc232 := NB378_380.out
      have hcz233_0 := bc BK380.out 0 (.int .i64 t379)
      have hfz233_0 := blk_frozen BK380.out 0
      have hnb234 := NB374_375.out
      have hnc234 := NB375_374.out
      have hnb235 := NB374_376.out
      have hnc235 := NB376_374.out
      have hnb236 := NB374_378.out
      have hnc236 := NB378_374.out
      have hcz237_0 := bc BK374.out 0 (.bool x375000_1)
      have hfz237_0 := blk_frozen BK374.out 0
      have hnb238 := NB378_375.out
      have hnc238 := NB375_378.out
      have hnb239 := NB378_376.out
      have hnc239 := NB376_378.out
      have hcz240_0 := bc BK378.out 0 (.int .i64 (rd l0 x17_1))
      have hfz240_0 := blk_frozen BK378.out 0
      have hnb241 := NB375_376.out
      have hnc241 := NB376_375.out
      have hcz242_0 := bc BK375.out 0 (.bool x376000_1)
      have hfz242_0 := blk_frozen BK375.out 0
      have hcz243_0 := bc BK376.out 0 (.int .i64 x377000_1)
      have hfz243_0 := blk_frozen BK376.out 0
      go_wp2
      go_roundg kj18
      case measure => have := HK1.out; have := HJ18.out; omega
      case rel => exact ⟨(x3_18), (wrap64 (x17_1 + 1)), ((t379 == 8)), (false), (wrap64 (x377000_1 + 1)), sr, H', ⟨kl⟩, ⟨kR (Kd.R_mono (Kd.R_far (p := ⟨gb376, 0, none⟩) (Kd.R_far (p := ⟨gb375, 0, none⟩) (Kd.R_far (p := ⟨gb374, 0, none⟩) (Kd.R_types (Kd.R_mono (Kd.R_mono HO_3.out (fun k_ hk => (⟨hk, hk.1⟩ : _ ∧ k_ ≠ gb374))) (fun k_ hk => (⟨hk, hk.1.2⟩ : _ ∧ k_ ≠ gb375))) BK376.out (by decide)) (fun _ hk => hk.1.1.2) (.bool (t379 == 8))) (fun _ hk => hk.1.2) (.bool false)) (fun _ hk => hk.2) (.int .i64 (wrap64 (x377000_1 + 1)))) (fun _ hk => ⟨hk.1.1.1.1, hk.1.1.1.2⟩))⟩, ⟨by (with_reducible repeat (first | refine blk_drewN ?_ _ | refine blk_drew ?_ | refine blk_alloc ?_ _)); refine blk_far ?_ NB374_376.out _; (with_reducible repeat (first | refine blk_drewN ?_ _ | refine blk_drew ?_ | refine blk_alloc ?_ _)); refine blk_far ?_ NB374_375.out _; (with_reducible repeat (first | refine blk_drewN ?_ _ | refine blk_drew ?_ | refine blk_alloc ?_ _)); refine blk_put (cs := #[.bool x375000_1]) ?_ 0 _ rfl; (with_reducible repeat (first | refine blk_drewN ?_ _ | refine blk_drew ?_ | refine blk_alloc ?_ _)); exact BK374.out⟩, ⟨by (with_reducible repeat (first | refine blk_drewN ?_ _ | refine blk_drew ?_ | refine blk_alloc ?_ _)); refine blk_far ?_ NB375_376.out _; (with_reducible repeat (first | refine blk_drewN ?_ _ | refine blk_drew ?_ | refine blk_alloc ?_ _)); refine blk_put (cs := #[.bool x376000_1]) ?_ 0 _ rfl; (with_reducible repeat (first | refine blk_drewN ?_ _ | refine blk_drew ?_ | refine blk_alloc ?_ _)); refine blk_far ?_ NB375_374.out _; (with_reducible repeat (first | refine blk_drewN ?_ _ | refine blk_drew ?_ | refine blk_alloc ?_ _)); exact BK375.out⟩, ⟨by (with_reducible repeat (first | refine blk_drewN ?_ _ | refine blk_drew ?_ | refine blk_alloc ?_ _)); refine blk_put (cs := #[.int .i64 x377000_1]) ?_ 0 _ rfl; (with_reducible repeat (first | refine blk_drewN ?_ _ | refine blk_drew ?_ | refine blk_alloc ?_ _)); refine blk_far ?_ NB376_375.out _; (with_reducible repeat (first | refine blk_drewN ?_ _ | refine blk_drew ?_ | refine blk_alloc ?_ _)); refine blk_far ?_ NB376_374.out _; (with_reducible repeat (first | refine blk_drewN ?_ _ | refine blk_drew ?_ | refine blk_alloc ?_ _)); exact BK376.out⟩, ⟨bS⟩⟩
     rw [if_pos c196] at H
     have c196b0 : ((rd l0 x17_1) == 1585) = true := beq_iff_eq.mpr c196
     have c196b1 : ((rd l0 x17_1) != 1585) = false := bne_eq_false_iff_eq.mpr c196
     clear c196
     by_cases c197 : t379 = 9
     rotate_left
     ·rw [if_neg c197] at H
      have c197b0 : (t379 == 9) = false := beq_eq_false_iff_ne.mpr c197
      have c197b1 : (t379 != 9) = true := bne_iff_ne.mpr c197
      have H' := am H
      clear H
      have hnb213 := NB380_374.out
      have hnc213 := NB374_380.out
      have hnb214 := NB380_375.out
      have hnc214 := NB375_380.out
      have hnb215 := NB380_376.out
      have hnc215 := NB376_380.out
      have hnb216 := NB380_378.out
      have hnc216 := NB378_380.out
      have hcz217_0 := bc BK380.out 0 (.int .i64 t379)
      have hfz217_0 := blk_frozen BK380.out 0
      have hnb218 := NB374_375.out
      have hnc218 := NB375_374.out
      have hnb219 := NB374_376.out
      have hnc219 := NB376_374.out
      have hnb220 := NB374_378.out
      have hnc220 := NB378_374.out
      have hcz221_0 := bc BK374.out 0 (.bool x375000_1)
      have hfz221_0 := blk_frozen BK374.out 0
      have hnb222 := NB378_375.out
      have hnc222 := NB375_378.out
      have hnb223 := NB378_376.out
      have hnc223 := NB376_378.out
      have hcz224_0 := bc BK378.out 0 (.int .i64 (rd l0 x17_1))
      have hfz224_0 := blk_frozen BK378.out 0
      have hnb225 := NB375_376.out
      have hnc225 := NB376_375.out
      have hcz226_0 := bc BK375.out 0 (.bool x376000_1)
      have hfz226_0 := blk_frozen BK375.out 0
      have hcz227_0 := bc BK376.out 0 (.int .i64 x377000_1)
      have hfz227_0 := blk_frozen BK376.out 0
      go_wp2
      go_roundg kj18
      case measure => have := HK1.out; have := HJ18.out; omega
      case rel => exact ⟨(x3_18), (wrap64 (x17_1 + 1)), ((t379 == 8)), (x376000_1), (0), sr, H', ⟨kl⟩, ⟨kR (Kd.R_mono (Kd.R_far (p := ⟨gb376, 0, none⟩) (Kd.R_far (p := ⟨gb375, 0, none⟩) (Kd.R_far (p := ⟨gb374, 0, none⟩) (Kd.R_types (Kd.R_mono (Kd.R_mono HO_3.out (fun k_ hk => (⟨hk, hk.1⟩ : _ ∧ k_ ≠ gb374))) (fun k_ hk => (⟨hk, hk.1.2⟩ : _ ∧ k_ ≠ gb375))) BK376.out (by decide)) (fun _ hk => hk.1.1.2) (.bool (t379 == 8))) (fun _ hk => hk.1.2) (.bool x376000_1)) (fun _ hk => hk.2) (.int .i64 0)) (fun _ hk => ⟨hk.1.1.1.1, hk.1.1.1.2⟩))⟩, ⟨by (with_reducible repeat (first | refine blk_drewN ?_ _ | refine blk_drew ?_ | refine blk_alloc ?_ _)); refine blk_far ?_ NB374_376.out _; (with_reducible repeat (first | refine blk_drewN ?_ _ | refine blk_drew ?_ | refine blk_alloc ?_ _)); refine blk_far ?_ NB374_375.out _; (with_reducible repeat (first | refine blk_drewN ?_ _ | refine blk_drew ?_ | refine blk_alloc ?_ _)); refine blk_put (cs := #[.bool x375000_1]) ?_ 0 _ rfl; (with_reducible repeat (first | refine blk_drewN ?_ _ | refine blk_drew ?_ | refine blk_alloc ?_ _)); exact BK374.out⟩, ⟨by (with_reducible repeat (first | refine blk_drewN ?_ _ | refine blk_drew ?_ | refine blk_alloc ?_ _)); refine blk_far ?_ NB375_376.out _; (with_reducible repeat (first | refine blk_drewN ?_ _ | refine blk_drew ?_ | refine blk_alloc ?_ _)); refine blk_put (cs := #[.bool x376000_1]) ?_ 0 _ rfl; (with_reducible repeat (first | refine blk_drewN ?_ _ | refine blk_drew ?_ | refine blk_alloc ?_ _)); refine blk_far ?_ NB375_374.out _; (with_reducible repeat (first | refine blk_drewN ?_ _ | refine blk_drew ?_ | refine blk_alloc ?_ _)); exact BK375.out⟩, ⟨by (with_reducible repeat (first | refine blk_drewN ?_ _ | refine blk_drew ?_ | refine blk_alloc ?_ _)); refine blk_put (cs := #[.int .i64 x377000_1]) ?_ 0 _ rfl; (with_reducible repeat (first | refine blk_drewN ?_ _ | refine blk_drew ?_ | refine blk_alloc ?_ _)); refine blk_far ?_ NB376_375.out _; (with_reducible repeat (first | refine blk_drewN ?_ _ | refine blk_drew ?_ | refine blk_alloc ?_ _)); refine blk_far ?_ NB376_374.out _; (with_reducible repeat (first | refine blk_drewN ?_ _ | refine blk_drew ?_ | refine blk_alloc ?_ _)); exact BK376.out⟩, ⟨bS⟩⟩
     rw [if_pos c197] at H
     have c197b0 : (t379 == 9) = true := beq_iff_eq.mpr c197
     have c197b1 : (t379 != 9) = false := bne_eq_false_iff_eq.mpr c197
     clear c197
     have H' := am H
     clear H
     have hnb198 := NB380_374.out
     have hnc198 := NB374_380.out
     have hnb199 := NB380_375.out
     have hnc199 := NB375_380.out
     have hnb200 := NB380_376.out
     have hnc200 := NB376_380.out
     have hnb201 := NB380_378.out
     have hnc201 := NB378_380.out
     have hcz202_0 := bc BK380.out 0 (.int .i64 t379)
     have hfz202_0 := blk_frozen BK380.out 0
     have hnb203 := NB374_375.out
     have hnc203 := NB375_374.out
     have hnb204 := NB374_376.out
     have hnc204 := NB376_374.out
     have hnb205 := NB374_378.out
     have hnc205 := NB378_374.out
     have hcz206_0 := bc BK374.out 0 (.bool x375000_1)
     have hfz206_0 := blk_frozen BK374.out 0
     have hnb207 := NB378_375.out
     have hnc207 := NB375_378.out
     have hnb208 := NB378_376.out
     have hnc208 := NB376_378.out
     have hcz209_0 := bc BK378.out 0 (.int .i64 (rd l0 x17_1))
     have hfz209_0 := blk_frozen BK378.out 0
     have hnb210 := NB375_376.out
     have hnc210 := NB376_375.out
     have hcz211_0 := bc BK375.out 0 (.bool x376000_1)
     have hfz211_0 := blk_frozen BK375.out 0
     have hcz212_0 := bc BK376.out 0 (.int .i64 x377000_1)
     have hfz212_0 := blk_frozen BK376.out 0
     go_wp2
     go_roundg kj18
     case measure => have := HK1.out; have := HJ18.out; omega
     case rel => exact ⟨(x3_18), (wrap64 (x17_1 + 1)), ((t379 == 8)), (x376000_1), (wrap64 (x377000_1 + 1)), sr, H', ⟨kl⟩, ⟨kR (Kd.R_mono (Kd.R_far (p := ⟨gb376, 0, none⟩) (Kd.R_far (p := ⟨gb375, 0, none⟩) (Kd.R_far (p := ⟨gb374, 0, none⟩) (Kd.R_types (Kd.R_mono (Kd.R_mono HO_3.out (fun k_ hk => (⟨hk, hk.1⟩ : _ ∧ k_ ≠ gb374))) (fun k_ hk => (⟨hk, hk.1.2⟩ : _ ∧ k_ ≠ gb375))) BK376.out (by decide)) (fun _ hk => hk.1.1.2) (.bool (t379 == 8))) (fun _ hk => hk.1.2) (.bool x376000_1)) (fun _ hk => hk.2) (.int .i64 (wrap64 (x377000_1 + 1)))) (fun _ hk => ⟨hk.1.1.1.1, hk.1.1.1.2⟩))⟩, ⟨by (with_reducible repeat (first | refine blk_drewN ?_ _ | refine blk_drew ?_ | refine blk_alloc ?_ _)); refine blk_far ?_ NB374_376.out _; (with_reducible repeat (first | refine blk_drewN ?_ _ | refine blk_drew ?_ | refine blk_alloc ?_ _)); refine blk_far ?_ NB374_375.out _; (with_reducible repeat (first | refine blk_drewN ?_ _ | refine blk_drew ?_ | refine blk_alloc ?_ _)); refine blk_put (cs := #[.bool x375000_1]) ?_ 0 _ rfl; (with_reducible repeat (first | refine blk_drewN ?_ _ | refine blk_drew ?_ | refine blk_alloc ?_ _)); exact BK374.out⟩, ⟨by (with_reducible repeat (first | refine blk_drewN ?_ _ | refine blk_drew ?_ | refine blk_alloc ?_ _)); refine blk_far ?_ NB375_376.out _; (with_reducible repeat (first | refine blk_drewN ?_ _ | refine blk_drew ?_ | refine blk_alloc ?_ _)); refine blk_put (cs := #[.bool x376000_1]) ?_ 0 _ rfl; (with_reducible repeat (first | refine blk_drewN ?_ _ | refine blk_drew ?_ | refine blk_alloc ?_ _)); refine blk_far ?_ NB375_374.out _; (with_reducible repeat (first | refine blk_drewN ?_ _ | refine blk_drew ?_ | refine blk_alloc ?_ _)); exact BK375.out⟩, ⟨by (with_reducible repeat (first | refine blk_drewN ?_ _ | refine blk_drew ?_ | refine blk_alloc ?_ _)); refine blk_put (cs := #[.int .i64 x377000_1]) ?_ 0 _ rfl; (with_reducible repeat (first | refine blk_drewN ?_ _ | refine blk_drew ?_ | refine blk_alloc ?_ _)); refine blk_far ?_ NB376_375.out _; (with_reducible repeat (first | refine blk_drewN ?_ _ | refine blk_drew ?_ | refine blk_alloc ?_ _)); refine blk_far ?_ NB376_374.out _; (with_reducible repeat (first | refine blk_drewN ?_ _ | refine blk_drew ?_ | refine blk_alloc ?_ _)); exact BK376.out⟩, ⟨bS⟩⟩
/-! ### impl_isSpace: function 87 -/
def impl_isSpace.f (k : Nat) (a0 : Int) : Option (Bool) := (impl_Category.f k a0).bind fun t387 => (some (t387 == 2))
theorem impl_isSpace.mono : ∀ a0 k, LeO (impl_isSpace.f k a0) (impl_isSpace.f (k + 1) a0) := by
 intro a0 k
 unfold impl_isSpace.f
 repeat' (first | (with_reducible first | exact impl_Category.mono .. | exact LeO.refl _ | exact LeO.none _ | refine LeO.ite ?_ ?_ | refine LeO.bind ?_ (fun _ => ?_)) | exact impl_Category.mono .. | exact LeO.none _ | refine LeO.ite ?_ ?_ | refine LeO.bind ?_ (fun _ => ?_))
set_option maxHeartbeats 8000000 in
set_option maxRecDepth 100000 in
theorem impl_isSpace.calls (k : Nat) (a0 : Int) (r : Bool) (w : World) (h : impl_isSpace.f k a0 = some r) :
  Calls Tryd.prog 87 #[.int .i64 a0] w fun e w' => e = .returned (.bool r) ∧ Drawn0 w w' := by
 have H : ((impl_Category.f k a0).bind fun t387 => (some (t387 == 2))) = some r := h
 clear h
 obtain ⟨t387, A2, H⟩ := bb H
 obtain rfl := Option.some.inj H
 go_enter Tryd.func87, Tryd.ntmps87
 go_wp2_with (first | ((with_reducible refine gate_callee (f := 85) rfl ?_); refine gq 4 Tryd.func85 (impl_Category.calls k a0 t387 _ A2.out) fun nd => ?_))
 go_ret
 exact rdd
end Go.Proofs.YtmlhnpggjkoinaaDoor.PFnExactWordCuts

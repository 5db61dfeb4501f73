-- Written by a program of this session (wip/tools/myprint.py) that runs the kit's print with hooks of its own. Lean checks it.
import Derived.Test.YtmlhnpggjkoinaaDoorPFnExactWordsx0
import Derived.Test.YtmlhnpggjkoinaaDoorSlimMore
import Derived.Test.YtmlhnpggjkoinaaDoorPFnExactWordsx15
import Derived.Test.YtmlhnpggjkoinaaDoorPFnExactWordsx16
namespace Go.Proofs.YtmlhnpggjkoinaaDoor.PFnExactWords
open Go.RowKit Go.Proofs.YtmlhnpggjkoinaaDoorW.PrintWords Go.Proofs.YtmlhnpggjkoinaaDoorW.PrintLast Go.Proofs.YtmlhnpggjkoinaaDoorW.PrintMore
attribute [local go_sem] max2_int min2_int max_two min_two max_three min_three max_four min_four   -- for this text's walks alone
set_option linter.unusedVariables false
set_option linter.unusedSimpArgs false

/-! ### impl_charCuts: function 81 -/
mutual
def impl_charCuts.l0 : Nat → List Int → List Bool → List Int → Int → Int → Bool → Bool → Int → Option (List Bool)
 | 0, _, _, _, _, _, _, _, _ => none
 | k + 1, x0, x3, x15, x16, x17, x426000, x427000, x428000 => if x17 < x16 then (if 0 ≤ x17 then (if x17 < (x15.length : Int) then ((impl_charClass.f k (rd x15 x17)).bind fun t430 => (if x17 > 0 then (if 0 ≤ (wrap64 (x17 - 1)) then (if (wrap64 (x17 - 1)) < (x0.length : Int) then ((impl_charClass.f k (rd x0 (wrap64 (x17 - 1)))).bind fun t434 => ((impl_charCuts_1.f k (rd x0 (wrap64 (x17 - 1))) (rd x15 x17) t430 t434 x427000 x426000 x428000).bind fun t436 => (if x17 < (x3.length : Int) then (impl_charCuts.j1 k x0 (x3.set (x17 : Int).toNat t436) x15 x16 x17 x426000 x427000 x428000 (rd x15 x17) t430) else (none)))) else (none)) else (none)) else (impl_charCuts.j1 k x0 x3 x15 x16 x17 x426000 x427000 x428000 (rd x15 x17) t430))) else (none)) else (none)) else (some x3)
def impl_charCuts.j1 : Nat → List Int → List Bool → List Int → Int → Int → Bool → Bool → Int → Int → Int → Option (List Bool)
 | 0, _, _, _, _, _, _, _, _, _, _ => none
 | k + 1, x0, x3, x15, x16, x17, x426000, x427000, x428000, x430000, x432000 => if x432000 = 2 then (if x430000 = 1584 then (if x432000 = 9 then (impl_charCuts.l0 k x0 x3 x15 x16 (wrap64 (x17 + 1)) x426000 true (wrap64 (x428000 + 1))) else (impl_charCuts.l0 k x0 x3 x15 x16 (wrap64 (x17 + 1)) x426000 true 0)) else (if x430000 = 1585 then (if x432000 = 9 then (impl_charCuts.l0 k x0 x3 x15 x16 (wrap64 (x17 + 1)) x426000 x427000 (wrap64 (x428000 + 1))) else (impl_charCuts.l0 k x0 x3 x15 x16 (wrap64 (x17 + 1)) x426000 x427000 0)) else (if x432000 = 9 then (impl_charCuts.l0 k x0 x3 x15 x16 (wrap64 (x17 + 1)) x426000 false (wrap64 (x428000 + 1))) else (impl_charCuts.l0 k x0 x3 x15 x16 (wrap64 (x17 + 1)) x426000 false 0)))) else (if x430000 = 1584 then (if x432000 = 9 then (impl_charCuts.l0 k x0 x3 x15 x16 (wrap64 (x17 + 1)) (x432000 == 8) true (wrap64 (x428000 + 1))) else (impl_charCuts.l0 k x0 x3 x15 x16 (wrap64 (x17 + 1)) (x432000 == 8) true 0)) else (if x430000 = 1585 then (if x432000 = 9 then (impl_charCuts.l0 k x0 x3 x15 x16 (wrap64 (x17 + 1)) (x432000 == 8) x427000 (wrap64 (x428000 + 1))) else (impl_charCuts.l0 k x0 x3 x15 x16 (wrap64 (x17 + 1)) (x432000 == 8) x427000 0)) else (if x432000 = 9 then (impl_charCuts.l0 k x0 x3 x15 x16 (wrap64 (x17 + 1)) (x432000 == 8) false (wrap64 (x428000 + 1))) else (impl_charCuts.l0 k x0 x3 x15 x16 (wrap64 (x17 + 1)) (x432000 == 8) false 0))))
end
def impl_charCuts.f (k : Nat) (l0 : List Int) : Option (List Bool) := if 0 ≤ (l0.length : Int) then (if ((l0.length : Int) : Int).toNat ≤ 281474976710656 then (impl_charCuts.l0 k l0 (List.replicate ((l0.length : Int) : Int).toNat false) l0 (l0.length : Int) 0 false false 0) else (none)) else (none)
set_option maxHeartbeats 8000000 in
set_option maxRecDepth 100000 in
theorem impl_charCuts.calls (k : Nat) (A0 : Option Addr) (c0 : Nat) (l0 : List Int) (r : List Bool) (w : World) (hr0 : Kd.C (Kd.int .i64) w A0 l0.length l0) (hc0 : l0.length ≤ c0) (h : impl_charCuts.f k l0 = some r) :
  Calls Tryd.prog 81 #[.slice A0 l0.length c0] w fun e w' => ∃ v0_ : Value, e = .returned (v0_) ∧ Kd.R Kd.bool 4 w' w.heap.size (fun _ => True) v0_ r ∧ Below w.heap.size w w' := by
 have HR0 := am hr0
 have HC0 := am hc0
 clear hr0 hc0
 have HB := am (Below.refl w.heap.size w)
 have H : (if 0 ≤ (l0.length : Int) then (if ((l0.length : Int) : Int).toNat ≤ 281474976710656 then (impl_charCuts.l0 k l0 (List.replicate ((l0.length : Int) : Int).toNat false) l0 (l0.length : Int) 0 false false 0) else (none)) else (none)) = some r := h
 clear h
 replace H := iteN H
 obtain ⟨c2, H⟩ := H
 have c2b0 := eq_true c2
 have c2b1 := decide_eq_true c2
 clear c2
 replace H := iteN H
 obtain ⟨c3, H⟩ := H
 have c3b0 := eq_true c3
 have c3b1 := decide_eq_true c3
 clear c3
 obtain ⟨y422, hy422⟩ : ∃ y_ : List Bool, y_ = (List.replicate ((l0.length : Int) : Int).toNat false) := ⟨_, rfl⟩
 replace H : (impl_charCuts.l0 k l0 y422 l0 (l0.length : Int) 0 false false 0) = some r := rY hy422
 have Ny422 := am hy422
 clear hy422
 have H' := am H
 clear H
 have hmf_ : ∀ (fn : Fn) (first cap : Array Value) (w : World), (Instr.makeFunc fn first cap).run Tryd.prog w = .ok (.func fn first cap) w := fun _ _ _ _ => rfl
 go_enter Tryd.func81, Tryd.ntmps81
 go_wp2_with (first | ((with_reducible refine gate_dst (N := 14) rfl ?_); refine Kd.R_make Kd.bool _ 4 rfl (N := 14) rfl 60 _ _ rfl (l0.length : Int) rfl rfl Tryd.underlying60 (.bool false) 1 info4 rfl (by decide) (by omega) false (ok := fun _ => True) (okp := fun _ => True) rfl (fun _ hk => hk) trivial (od) (Nat.le_trans (Nat.mul_le_mul_right _ (od : (l0.length : Int).toNat ≤ 281474976710656)) (by omega)) (Below.refl _ _) (Nat.le_refl _) ?_; intro v423 w4 ho5 hb hg_ hnew_; clear hg_ hnew_; (first | rw [← Ny422.out] at ho5 | (simp only [Int.reduceToNat] at ho5; rw [← Ny422.out] at ho5)); have HO424 := am (Kd.R_lower ho5 (below_size bB)); replace HB := am (below_step bB hb); clear hb ho5) | ((with_reducible refine gate_dst (N := 4) rfl ?_); refine bx 4 #[.bool false] 4 ?_; intro gb425 hg w6 hbox hb; replace HO424 := am (Kd.R_below (Kd.R_elderB (kR HO424.out) gb425 (Nat.le_of_eq hg.symm)) hb); have BK425 := am (hbox); have GW425 := am ((by rw [hg]; exact (below_size bB) : w.heap.size ≤ gb425)); have GE425 := am ((by rw [hg]; exact (below_size bB) : w.heap.size ≤ gb425)); replace HB := am (below_step bB hb); clear hb hbox hg) | ((with_reducible refine gate_dst (N := 5) rfl ?_); refine bx 5 #[.bool false] 4 ?_; intro gb426 hg w7 hbox hb; replace HO424 := am (Kd.R_below (Kd.R_elderB (kR HO424.out) gb426 (Nat.le_of_eq hg.symm)) hb); have BK426 := am (hbox); have GW426 := am ((by rw [hg]; exact (below_size bS) : w.heap.size ≤ gb426)); have GE426 := am ((by rw [hg]; exact (below_size bS) : w.heap.size ≤ gb426)); replace HB := am (below_step bS hb); have NB425_426 := am (nl hg BK425.out); have NB426_425 := am NB425_426.out.symm; replace BK425 := am (blk_below (g := gb425) (o := .cells #[.bool false] 4 (0, 0)) (bk BK425.out) hb); clear hb hbox hg) | ((with_reducible refine gate_dst (N := 6) rfl ?_); refine bx 6 #[.int .i64 0] 3 ?_; intro gb427 hg w8 hbox hb; replace HO424 := am (Kd.R_below (kR HO424.out) hb); have BK427 := am (hbox); have GW427 := am ((by rw [hg]; exact (below_size bS) : w.heap.size ≤ gb427)); have GE427 := am ((by rw [hg]; exact (below_size bS) : w.heap.size ≤ gb427)); replace HB := am (below_step bS hb); have NB425_427 := am (nl hg BK425.out); have NB427_425 := am NB425_427.out.symm; replace BK425 := am (blk_below (g := gb425) (o := .cells #[.bool false] 4 (0, 0)) (bk BK425.out) hb); have NB426_427 := am (nl hg BK426.out); have NB427_426 := am NB426_427.out.symm; replace BK426 := am (blk_below (g := gb426) (o := .cells #[.bool false] 4 (0, 0)) (bk BK426.out) hb); clear hb hbox hg; have hnb9 := NB425_426.out; have hnc9 := NB426_425.out; have hnb10 := NB425_427.out; have hnc10 := NB427_425.out; have hcz11_0 := bc BK425.out 0 (.bool false); have hfz11_0 := blk_frozen BK425.out 0; have hnb12 := NB426_427.out; have hnc12 := NB427_426.out; have hcz13_0 := bc BK426.out 0 (.bool false); have hfz13_0 := blk_frozen BK426.out 0; have hcz14_0 := bc BK427.out 0 (.int .i64 0); have hfz14_0 := blk_frozen BK427.out 0))
 go_loopg [17] k (fun kq v17 w' => ∃ (x3_1 : List Bool) (x17_1 : Int) (x426000_1 : Bool) (x427000_1 : Bool) (x428000_1 : Int), v17 = .int .i64 x17_1 ∧ Aside0 (impl_charCuts.l0 kq l0 x3_1 l0 (l0.length : Int) x17_1 x426000_1 x427000_1 x428000_1 = some r) ∧ Aside0 (kq ≤ k) ∧ Aside0 (Kd.R Kd.bool 4 w' w.heap.size (fun k_ => k_ ≠ gb425 ∧ k_ ≠ gb426) v423 x3_1) ∧ Aside0 (w'.heap[gb425]? = some (.cells #[.bool x426000_1] 4 (0, 0))) ∧ Aside0 (w'.heap[gb426]? = some (.cells #[.bool x427000_1] 4 (0, 0))) ∧ Aside0 (w'.heap[gb427]? = some (.cells #[.int .i64 x428000_1] 3 (0, 0))) ∧ Aside0 (Below w.heap.size w w'))
 case atStart => exact ⟨(y422), (0), (false), (false), (0), sr, H', ⟨Nat.le_refl _⟩, ⟨kR (Kd.R_mono (Kd.R_far (p := ⟨gb427, 0, none⟩) (Kd.R_far (p := ⟨gb426, 0, none⟩) (Kd.R_far (p := ⟨gb425, 0, none⟩) (Kd.R_types (Kd.R_mono (Kd.R_mono HO424.out (fun k_ hk => (⟨hk, hk.1.2⟩ : _ ∧ k_ ≠ gb425))) (fun k_ hk => (⟨hk, hk.1.2⟩ : _ ∧ k_ ≠ gb426))) BK427.out (by decide)) (fun _ hk => hk.1.1.2) (.bool false)) (fun _ hk => hk.1.2) (.bool false)) (fun _ hk => hk.2) (.int .i64 0)) (fun _ hk => ⟨hk.1.1.1.1.2, hk.1.1.1.2⟩))⟩, ⟨by (with_reducible repeat (first | refine blk_drewN ?_ _ | refine blk_drew ?_ | refine blk_alloc ?_ _)); refine blk_far ?_ NB425_427.out _; (with_reducible repeat (first | refine blk_drewN ?_ _ | refine blk_drew ?_ | refine blk_alloc ?_ _)); refine blk_far ?_ NB425_426.out _; (with_reducible repeat (first | refine blk_drewN ?_ _ | refine blk_drew ?_ | refine blk_alloc ?_ _)); refine blk_put (cs := #[.bool false]) ?_ 0 _ rfl; (with_reducible repeat (first | refine blk_drewN ?_ _ | refine blk_drew ?_ | refine blk_alloc ?_ _)); exact BK425.out⟩, ⟨by (with_reducible repeat (first | refine blk_drewN ?_ _ | refine blk_drew ?_ | refine blk_alloc ?_ _)); refine blk_far ?_ NB426_427.out _; (with_reducible repeat (first | refine blk_drewN ?_ _ | refine blk_drew ?_ | refine blk_alloc ?_ _)); refine blk_put (cs := #[.bool false]) ?_ 0 _ rfl; (with_reducible repeat (first | refine blk_drewN ?_ _ | refine blk_drew ?_ | refine blk_alloc ?_ _)); refine blk_far ?_ NB426_425.out _; (with_reducible repeat (first | refine blk_drewN ?_ _ | refine blk_drew ?_ | refine blk_alloc ?_ _)); exact BK426.out⟩, ⟨by (with_reducible repeat (first | refine blk_drewN ?_ _ | refine blk_drew ?_ | refine blk_alloc ?_ _)); refine blk_put (cs := #[.int .i64 0]) ?_ 0 _ rfl; (with_reducible repeat (first | refine blk_drewN ?_ _ | refine blk_drew ?_ | refine blk_alloc ?_ _)); refine blk_far ?_ NB427_426.out _; (with_reducible repeat (first | refine blk_drewN ?_ _ | refine blk_drew ?_ | refine blk_alloc ?_ _)); refine blk_far ?_ NB427_425.out _; (with_reducible repeat (first | refine blk_drewN ?_ _ | refine blk_drew ?_ | refine blk_alloc ?_ _)); exact BK427.out⟩, ⟨bS⟩⟩
 case round =>
  clear H'
  try clear c2b0
  try clear c2b1
  try clear c3b0
  try clear c3b1
  try clear hcz11_0
  try clear hcz13_0
  try clear hcz14_0
  try clear hfz11_0
  try clear hfz13_0
  try clear hfz14_0
  obtain ⟨x3_1, x17_1, x426000_1, x427000_1, x428000_1, rfl, HA, HK1, HO_3, BK425, BK426, BK427, HB⟩ := hrel
  cases gk with
  | zero => exact absurd HA.out (by simp [impl_charCuts.l0])
  | succ k1 =>
   have H := HA.out
   clear HA
   simp only [impl_charCuts.l0] at H
   by_cases c15 : x17_1 < (l0.length : Int)
   rotate_left
   ·rw [if_neg c15] at H
    have c15b0 := decide_eq_false c15
    clear c15
    obtain rfl := Option.some.inj H
    go_wp2
    go_ret
    exact ⟨_, rv, by (with_reducible repeat (first | apply Kd.R_alloc | apply Kd.R_drewN | apply Kd.R_drew)); exact Kd.R_mono HO_3.out (fun _ hk => trivial), bS⟩
   rw [if_pos c15] at H
   have c15b0 := decide_eq_true c15
   clear c15
   replace H := iteN H
   obtain ⟨c16, H⟩ := H
   have c16b0 := decide_eq_true c16
   clear c16
   replace H := iteN H
   obtain ⟨c17, H⟩ := H
   have c17b0 := decide_eq_true c17
   clear c17
   obtain ⟨t430, A18, H⟩ := bb H
   have HC19 := am H
   clear H
   have p428 : 0 ≤ (x17_1 : Int) := od
   have q428 : x17_1 < (l0.length : Int) := od
   obtain ⟨ad428, e428, hx428_0⟩ := Kd.at_int HR0.out x17_1 p428 q428
   cases e428
   replace hx428_0 := cl HB hx428_0
   replace p428 := eq_true p428; replace q428 := eq_true q428
   go_upto_if 25 with (first | ((with_reducible refine gate_dst (N := 8) rfl ?_); refine bx 8 #[.int .i64 0] 2 ?_; intro gb429 hg w20 hbox hb; replace HO_3 := am (Kd.R_below (kR HO_3.out) hb); have BK429 := am (hbox); have GW429 := am ((by rw [hg]; exact (below_size bS) : w.heap.size ≤ gb429)); have GE429 := am ((by rw [hg]; exact (below_size bS) : w.heap.size ≤ gb429)); replace HB := am (below_step bS hb); have NB425_429 := am (nl hg BK425.out); have NB429_425 := am NB425_429.out.symm; replace BK425 := am (blk_below (g := gb425) (o := .cells #[.bool x426000_1] 4 (0, 0)) (bk BK425.out) hb); have NB426_429 := am (nl hg BK426.out); have NB429_426 := am NB426_429.out.symm; replace BK426 := am (blk_below (g := gb426) (o := .cells #[.bool x427000_1] 4 (0, 0)) (bk BK426.out) hb); have NB427_429 := am (nl hg BK427.out); have NB429_427 := am NB427_429.out.symm; replace BK427 := am (blk_below (g := gb427) (o := .cells #[.int .i64 x428000_1] 3 (0, 0)) (bk BK427.out) hb); clear hb hbox hg; have hnb21 := NB429_425.out; have hnc21 := NB425_429.out; have hnb22 := NB429_426.out; have hnc22 := NB426_429.out; have hnb23 := NB429_427.out; have hnc23 := NB427_429.out; have hcz24_0 := bc BK429.out 0 (.int .i64 0); have hfz24_0 := blk_frozen BK429.out 0) | ((with_reducible refine gate_callee (f := 86) rfl ?_); refine gq 23 Tryd.func86 (impl_charClass.calls k1 (rd l0 x17_1) t430 _ A18.out) fun nd => ?_) | ((with_reducible refine gate_dst (N := 9) rfl ?_); refine bx 9 #[.int .i64 0] 3 ?_; intro gb431 hg w25 hbox hb; replace HO_3 := am (Kd.R_below (kR ((Kd.R_mono (Kd.R_far (p := ⟨gb429, 0, none⟩) (Kd.R_types HO_3.out BK429.out (by decide)) (fun _ hk => hk.2) (.int .i64 (rd l0 x17_1))) (fun _ h_ => h_.1)))) hb); have BK431 := am (hbox); have GW431 := am ((by rw [hg]; exact (below_size bS) : w.heap.size ≤ gb431)); have GE431 := am ((by rw [hg]; exact (below_size bS) : w.heap.size ≤ gb431)); replace HB := am (below_step bS hb); have NB425_431 := am (nm hg (bf BK425.out)); have NB431_425 := am NB425_431.out.symm; replace BK425 := am (blk_below (g := gb425) (o := .cells #[.bool x426000_1] 4 (0, 0)) (bf BK425.out) hb); have NB426_431 := am (nm hg (bf BK426.out)); have NB431_426 := am NB426_431.out.symm; replace BK426 := am (blk_below (g := gb426) (o := .cells #[.bool x427000_1] 4 (0, 0)) (bf BK426.out) hb); have NB427_431 := am (nm hg (bf BK427.out)); have NB431_427 := am NB427_431.out.symm; replace BK427 := am (blk_below (g := gb427) (o := .cells #[.int .i64 x428000_1] 3 (0, 0)) (bf BK427.out) hb); have NB429_431 := am (nm (g := gb429) (o := .cells #[.int .i64 (rd l0 x17_1)] 2 (0, 0)) hg (by (with_reducible repeat (first | refine blk_drewN ?_ _ | refine blk_drew ?_ | refine blk_alloc ?_ _)); refine blk_put (cs := #[.int .i64 0]) ?_ 0 _ rfl; (with_reducible repeat (first | refine blk_drewN ?_ _ | refine blk_drew ?_ | refine blk_alloc ?_ _)); exact BK429.out)); have NB431_429 := am NB429_431.out.symm; replace BK429 := am (blk_below (g := gb429) (o := .cells #[.int .i64 (rd l0 x17_1)] 2 (0, 0)) (by (with_reducible repeat (first | refine blk_drewN ?_ _ | refine blk_drew ?_ | refine blk_alloc ?_ _)); refine blk_put (cs := #[.int .i64 0]) ?_ 0 _ rfl; (with_reducible repeat (first | refine blk_drewN ?_ _ | refine blk_drew ?_ | refine blk_alloc ?_ _)); exact BK429.out) hb); clear hb hbox hg; have hnb26 := NB431_425.out; have hnc26 := NB425_431.out; have hnb27 := NB431_426.out; have hnc27 := NB426_431.out; have hnb28 := NB431_427.out; have hnc28 := NB427_431.out; have hnb29 := NB431_429.out; have hnc29 := NB429_431.out; have hcz30_0 := bc BK431.out 0 (.int .i64 0); have hfz30_0 := blk_frozen BK431.out 0))
   (try simp only [Act.put, List.setIfInBounds_toArray, List.set_cons_zero, List.set_cons_succ])
   go_cut [] (fun wc => ∃ (kq : Nat) (x3_18 : List Bool), Aside0 (impl_charCuts.j1 kq l0 x3_18 l0 (l0.length : Int) x17_1 x426000_1 x427000_1 x428000_1 (rd l0 x17_1) t430 = some r) ∧ Aside0 (kq ≤ k1) ∧ Aside0 (Kd.R Kd.bool 4 wc w.heap.size (fun k_ => k_ ≠ gb425 ∧ k_ ≠ gb426) v423 x3_18) ∧ Aside0 (wc.heap[gb425]? = some (.cells #[.bool x426000_1] 4 (0, 0))) ∧ Aside0 (wc.heap[gb426]? = some (.cells #[.bool x427000_1] 4 (0, 0))) ∧ Aside0 (wc.heap[gb427]? = some (.cells #[.int .i64 x428000_1] 3 (0, 0))) ∧ Aside0 (wc.heap[gb429]? = some (.cells #[.int .i64 (rd l0 x17_1)] 2 (0, 0))) ∧ Aside0 (wc.heap[gb431]? = some (.cells #[.int .i64 t430] 3 (0, 0))) ∧ Aside0 (Below w.heap.size w wc))
   case first =>
    have H := HC19.out
    clear HC19
    by_cases c31 : x17_1 > 0
    rotate_left
    ·rw [if_neg c31] at H
     have c31b0 : decide (0 < x17_1) = false := decide_eq_false c31
     clear c31
     (first | rw [c31b0] | (simp only [i64_w, i32_w]; rw [c31b0]) | skip)
     have H' := am H
     clear H
     go_wp2
     go_meet
     case rel => exact ⟨_, (x3_1), H', ⟨kl⟩, ⟨kR (Kd.R_mono (Kd.R_far (p := ⟨gb431, 0, none⟩) (Kd.R_types HO_3.out BK431.out (by decide)) (fun _ hk => hk.2) (.int .i64 t430)) (fun _ hk => ⟨hk.1.1, hk.1.2⟩))⟩, ⟨by (with_reducible repeat (first | refine blk_drewN ?_ _ | refine blk_drew ?_ | refine blk_alloc ?_ _)); refine blk_far ?_ NB425_431.out _; (with_reducible repeat (first | refine blk_drewN ?_ _ | refine blk_drew ?_ | refine blk_alloc ?_ _)); exact BK425.out⟩, ⟨by (with_reducible repeat (first | refine blk_drewN ?_ _ | refine blk_drew ?_ | refine blk_alloc ?_ _)); refine blk_far ?_ NB426_431.out _; (with_reducible repeat (first | refine blk_drewN ?_ _ | refine blk_drew ?_ | refine blk_alloc ?_ _)); exact BK426.out⟩, ⟨by (with_reducible repeat (first | refine blk_drewN ?_ _ | refine blk_drew ?_ | refine blk_alloc ?_ _)); refine blk_far ?_ NB427_431.out _; (with_reducible repeat (first | refine blk_drewN ?_ _ | refine blk_drew ?_ | refine blk_alloc ?_ _)); exact BK427.out⟩, ⟨by (with_reducible repeat (first | refine blk_drewN ?_ _ | refine blk_drew ?_ | refine blk_alloc ?_ _)); refine blk_far ?_ NB429_431.out _; (with_reducible repeat (first | refine blk_drewN ?_ _ | refine blk_drew ?_ | refine blk_alloc ?_ _)); exact BK429.out⟩, ⟨by (with_reducible repeat (first | refine blk_drewN ?_ _ | refine blk_drew ?_ | refine blk_alloc ?_ _)); refine blk_put (cs := #[.int .i64 0]) ?_ 0 _ rfl; (with_reducible repeat (first | refine blk_drewN ?_ _ | refine blk_drew ?_ | refine blk_alloc ?_ _)); exact BK431.out⟩, ⟨bS⟩⟩
    rw [if_pos c31] at H
    have c31b0 : decide (0 < x17_1) = true := decide_eq_true c31
    clear c31
    (first | rw [c31b0] | (simp only [i64_w, i32_w]; rw [c31b0]) | skip)
    obtain ⟨ji32, hji32⟩ : ∃ j_ : Int, (wrap64 (x17_1 - 1)) = j_ := ⟨_, rfl⟩
    replace H : (if 0 ≤ (ji32) then (if (ji32) < (l0.length : Int) then ((impl_charClass.f k1 (rd l0 (ji32))).bind fun t434 => ((impl_charCuts_1.f k1 (rd l0 (ji32)) (rd l0 x17_1) t430 t434 x427000_1 x426000_1 x428000_1).bind fun t436 => (if x17_1 < (x3_1.length : Int) then (impl_charCuts.j1 k1 l0 (x3_1.set (x17_1 : Int).toNat t436) l0 (l0.length : Int) x17_1 x426000_1 x427000_1 x428000_1 (rd l0 x17_1) t430) else (none)))) else (none)) else (none)) = some r := by first | (rw [hji32] at H; exact H) | (simp only [hji32] at H ⊢; exact H)
    have hji32w : (IntKind.i64.wrap (x17_1 - 1)) = ji32 := (i64_w _).trans hji32
    replace H := iteN H
    obtain ⟨c33, H⟩ := H
    have c33b0 := decide_eq_true c33
    clear c33
    replace H := iteN H
    obtain ⟨c34, H⟩ := H
    have c34b0 := decide_eq_true c34
    clear c34
    obtain ⟨t434, A35, H⟩ := bb H
    obtain ⟨t436, A36, H⟩ := bb H
    replace H := iteN H
    obtain ⟨c37, H⟩ := H
    have c37b0 := decide_eq_true c37
    clear c37
    obtain ⟨y437, hy437⟩ : ∃ y_ : List Bool, y_ = (x3_1.set (x17_1 : Int).toNat t436) := ⟨_, rfl⟩
    replace H : (impl_charCuts.j1 k1 l0 y437 l0 (l0.length : Int) x17_1 x426000_1 x427000_1 x428000_1 (rd l0 x17_1) t430) = some r := rY hy437
    have Ny437 := am hy437
    clear hy437
    have H' := am H
    clear H
    have p432 : 0 ≤ ((ji32) : Int) := od
    have q432 : (ji32) < (l0.length : Int) := od
    obtain ⟨ad432, e432, hx432_0⟩ := Kd.at_int HR0.out (ji32) p432 q432
    obtain rfl : ad428 = ad432 := (by injection e432)
    have hn432_0 : ad428.block ≠ gb431 := Nat.ne_of_lt (Nat.lt_of_lt_of_le (by have := World.block_lt_of_cell? _ _ hx432_0; first | rwa [add_block] at this | exact this) GW431.out)
    replace hx432_0 := cl HB hx432_0
    replace hx432_0 := (cell_far (p := ⟨gb431, 0, none⟩) (by first | (rw [add_block]; exact hn432_0) | (show (Addr.add _ _).block ≠ _; rw [add_block]; exact hn432_0) | exact hn432_0) (.int .i64 t430)).trans hx432_0
    clear hn432_0
    replace p432 := eq_true p432; replace q432 := eq_true q432
    go_wp2_with (first | ((with_reducible refine gate_dst (N := 10) rfl ?_); refine bx 10 #[.int .i64 0] 2 ?_; intro gb433 hg w39 hbox hb; replace HO_3 := am (Kd.R_below (kR ((Kd.R_mono (Kd.R_far (p := ⟨gb431, 0, none⟩) (Kd.R_types HO_3.out BK431.out (by decide)) (fun _ hk => hk.2) (.int .i64 t430)) (fun _ h_ => h_.1)))) hb); have BK433 := am (hbox); have GW433 := am ((by rw [hg]; exact (below_size bS) : w.heap.size ≤ gb433)); have GE433 := am ((by rw [hg]; exact (below_size bS) : w.heap.size ≤ gb433)); replace HB := am (below_step bS hb); have NB425_433 := am (nm hg (bf BK425.out)); have NB433_425 := am NB425_433.out.symm; replace BK425 := am (blk_below (g := gb425) (o := .cells #[.bool x426000_1] 4 (0, 0)) (bf BK425.out) hb); have NB426_433 := am (nm hg (bf BK426.out)); have NB433_426 := am NB426_433.out.symm; replace BK426 := am (blk_below (g := gb426) (o := .cells #[.bool x427000_1] 4 (0, 0)) (bf BK426.out) hb); have NB427_433 := am (nm hg (bf BK427.out)); have NB433_427 := am NB427_433.out.symm; replace BK427 := am (blk_below (g := gb427) (o := .cells #[.int .i64 x428000_1] 3 (0, 0)) (bf BK427.out) hb); have NB429_433 := am (nm hg (bf BK429.out)); have NB433_429 := am NB429_433.out.symm; replace BK429 := am (blk_below (g := gb429) (o := .cells #[.int .i64 (rd l0 x17_1)] 2 (0, 0)) (bf BK429.out) hb); have NB431_433 := am (nm (g := gb431) (o := .cells #[.int .i64 t430] 3 (0, 0)) hg (by (with_reducible repeat (first | refine blk_drewN ?_ _ | refine blk_drew ?_ | refine blk_alloc ?_ _)); refine blk_put (cs := #[.int .i64 0]) ?_ 0 _ rfl; (with_reducible repeat (first | refine blk_drewN ?_ _ | refine blk_drew ?_ | refine blk_alloc ?_ _)); exact BK431.out)); have NB433_431 := am NB431_433.out.symm; replace BK431 := am (blk_below (g := gb431) (o := .cells #[.int .i64 t430] 3 (0, 0)) (by (with_reducible repeat (first | refine blk_drewN ?_ _ | refine blk_drew ?_ | refine blk_alloc ?_ _)); refine blk_put (cs := #[.int .i64 0]) ?_ 0 _ rfl; (with_reducible repeat (first | refine blk_drewN ?_ _ | refine blk_drew ?_ | refine blk_alloc ?_ _)); exact BK431.out) hb); clear hb hbox hg; have hnb40 := NB433_425.out; have hnc40 := NB425_433.out; have hnb41 := NB433_426.out; have hnc41 := NB426_433.out; have hnb42 := NB433_427.out; have hnc42 := NB427_433.out; have hnb43 := NB433_429.out; have hnc43 := NB429_433.out; have hnb44 := NB433_431.out; have hnc44 := NB431_433.out; have hcz45_0 := bc BK433.out 0 (.int .i64 0); have hfz45_0 := blk_frozen BK433.out 0) | ((with_reducible refine gate_callee (f := 86) rfl ?_); refine goesL_ (some 32) rfl rfl Tryd.func86 (by kernel_rfl) rfl #[.int .i64 (rd l0 (ji32))] rfl (by (try simp only [List.map_toArray, List.map_cons, List.map_nil]); first | done | (simp only [hji32]; rfl) | rfl | (simp only [List.length_drop, List.length_take]; rfl)) ?_; (with_reducible refine (impl_charClass.calls k1 (rd l0 (ji32)) t434 _ A35.out).mono ?_); rintro e w' ⟨rfl, ⟨nd, rfl⟩⟩; refine ⟨_, rfl, ?_⟩) | ((with_reducible refine gate_dst (N := 11) rfl ?_); refine bx 11 #[.int .i64 0] 3 ?_; intro gb435 hg w46 hbox hb; replace HO_3 := am (Kd.R_below (kR ((Kd.R_mono (Kd.R_far (p := ⟨gb433, 0, none⟩) (Kd.R_types HO_3.out BK433.out (by decide)) (fun _ hk => hk.2) (.int .i64 (rd l0 (ji32)))) (fun _ h_ => h_.1)))) hb); have BK435 := am (hbox); have GW435 := am ((by rw [hg]; exact (below_size bS) : w.heap.size ≤ gb435)); have GE435 := am ((by rw [hg]; exact (below_size bS) : w.heap.size ≤ gb435)); replace HB := am (below_step bS hb); have NB425_435 := am (nm hg (bf BK425.out)); have NB435_425 := am NB425_435.out.symm; replace BK425 := am (blk_below (g := gb425) (o := .cells #[.bool x426000_1] 4 (0, 0)) (bf BK425.out) hb); have NB426_435 := am (nm hg (bf BK426.out)); have NB435_426 := am NB426_435.out.symm; replace BK426 := am (blk_below (g := gb426) (o := .cells #[.bool x427000_1] 4 (0, 0)) (bf BK426.out) hb); have NB427_435 := am (nm hg (bf BK427.out)); have NB435_427 := am NB427_435.out.symm; replace BK427 := am (blk_below (g := gb427) (o := .cells #[.int .i64 x428000_1] 3 (0, 0)) (bf BK427.out) hb); have NB429_435 := am (nm hg (bf BK429.out)); have NB435_429 := am NB429_435.out.symm; replace BK429 := am (blk_below (g := gb429) (o := .cells #[.int .i64 (rd l0 x17_1)] 2 (0, 0)) (bf BK429.out) hb); have NB431_435 := am (nm hg (bf BK431.out)); have NB435_431 := am NB431_435.out.symm; replace BK431 := am (blk_below (g := gb431) (o := .cells #[.int .i64 t430] 3 (0, 0)) (bf BK431.out) hb); have NB433_435 := am (nm (g := gb433) (o := .cells #[.int .i64 (rd l0 (ji32))] 2 (0, 0)) hg (by (with_reducible repeat (first | refine blk_drewN ?_ _ | refine blk_drew ?_ | refine blk_alloc ?_ _)); refine blk_put (cs := #[.int .i64 0]) ?_ 0 _ rfl; (with_reducible repeat (first | refine blk_drewN ?_ _ | refine blk_drew ?_ | refine blk_alloc ?_ _)); exact BK433.out)); have NB435_433 := am NB433_435.out.symm; replace BK433 := am (blk_below (g := gb433) (o := .cells #[.int .i64 (rd l0 (ji32))] 2 (0, 0)) (by (with_reducible repeat (first | refine blk_drewN ?_ _ | refine blk_drew ?_ | refine blk_alloc ?_ _)); refine blk_put (cs := #[.int .i64 0]) ?_ 0 _ rfl; (with_reducible repeat (first | refine blk_drewN ?_ _ | refine blk_drew ?_ | refine blk_alloc ?_ _)); exact BK433.out) hb); clear hb hbox hg; have hnb47 := NB435_425.out; have hnc47 := NB425_435.out; have hnb48 := NB435_426.out; have hnc48 := NB426_435.out; have hnb49 := NB435_427.out; have hnc49 := NB427_435.out; have hnb50 := NB435_429.out; have hnc50 := NB429_435.out; have hnb51 := NB435_431.out; have hnc51 := NB431_435.out; have hnb52 := NB435_433.out; have hnc52 := NB433_435.out; have hcz53_0 := bc BK435.out 0 (.int .i64 0); have hfz53_0 := blk_frozen BK435.out 0) | ((with_reducible refine gate_store (t := 3) (p := 11) rfl ?_); refine store_event (t := 3) (p := 11) (v := ?vo_w54) (w1 := (w46.setCell ⟨gb435, 0, none⟩ (.int .i64 t434))) ?hg ?ho ?hn ?hr ?_; (case ho => rfl); (case hg => rfl); (case hn => rfl); (case hr => first | (go_simp; done) | (go_simp; rfl)); intro w54 hw; have n0_ : Aside0 (Kd.R Kd.bool 4 w54 w.heap.size (fun k_ => k_ ≠ gb425 ∧ k_ ≠ gb426) v423 x3_1) := ⟨(by rw [hw]; exact (kR (Kd.R_mono (Kd.R_far (p := ⟨gb435, 0, none⟩) (Kd.R_types HO_3.out BK435.out (by decide)) (fun _ hk => hk.2) (.int .i64 t434)) (fun _ hk => ⟨hk.1.1, hk.1.2⟩))))⟩; have n1_ : Aside0 (w54.heap[gb425]? = some (.cells #[.bool x426000_1] 4 (0, 0))) := ⟨(by rw [hw]; exact (bf BK425.out))⟩; have n2_ : Aside0 (w54.heap[gb426]? = some (.cells #[.bool x427000_1] 4 (0, 0))) := ⟨(by rw [hw]; exact (bf BK426.out))⟩; have n3_ : Aside0 (w54.heap[gb427]? = some (.cells #[.int .i64 x428000_1] 3 (0, 0))) := ⟨(by rw [hw]; exact (bf BK427.out))⟩; have n4_ : Aside0 (w54.heap[gb429]? = some (.cells #[.int .i64 (rd l0 x17_1)] 2 (0, 0))) := ⟨(by rw [hw]; exact (bf BK429.out))⟩; have n5_ : Aside0 (w54.heap[gb431]? = some (.cells #[.int .i64 t430] 3 (0, 0))) := ⟨(by rw [hw]; exact (bf BK431.out))⟩; have n6_ : Aside0 (w54.heap[gb433]? = some (.cells #[.int .i64 (rd l0 (ji32))] 2 (0, 0))) := ⟨(by rw [hw]; exact (bf BK433.out))⟩; have n7_ : Aside0 (w54.heap[gb435]? = some (.cells #[.int .i64 t434] 3 (0, 0))) := ⟨(by rw [hw]; exact (by (with_reducible repeat (first | refine blk_drewN ?_ _ | refine blk_drew ?_ | refine blk_alloc ?_ _)); refine blk_put (cs := #[.int .i64 0]) ?_ 0 _ rfl; (with_reducible repeat (first | refine blk_drewN ?_ _ | refine blk_drew ?_ | refine blk_alloc ?_ _)); exact BK435.out))⟩; have n8_ : Aside0 (Below w.heap.size w w54) := ⟨(by rw [hw]; exact bS)⟩; clear hw; clear HO_3; clear BK425; clear BK426; clear BK427; clear BK429; clear BK431; clear BK433; clear BK435; clear HB; have HO_3 := n0_; have BK425 := n1_; have BK426 := n2_; have BK427 := n3_; have BK429 := n4_; have BK431 := n5_; have BK433 := n6_; have BK435 := n7_; have HB := n8_; clear n0_ n1_ n2_ n3_ n4_ n5_ n6_ n7_ n8_; have hcz55_0 := bc BK433.out 0 (.int .i64 (rd l0 (ji32))); have hfz55_0 := blk_frozen BK433.out 0; have hnb56 := NB429_425.out; have hnc56 := NB425_429.out; have hnb57 := NB429_426.out; have hnc57 := NB426_429.out; have hnb58 := NB429_427.out; have hnc58 := NB427_429.out; have hnb59 := NB429_431.out; have hnc59 := NB431_429.out; have hcz60_0 := bc BK429.out 0 (.int .i64 (rd l0 x17_1)); have hfz60_0 := blk_frozen BK429.out 0; have hnb61 := NB431_425.out; have hnc61 := NB425_431.out; have hnb62 := NB431_426.out; have hnc62 := NB426_431.out; have hnb63 := NB431_427.out; have hnc63 := NB427_431.out; have hcz64_0 := bc BK431.out 0 (.int .i64 t430); have hfz64_0 := blk_frozen BK431.out 0; have hcz65_0 := bc BK435.out 0 (.int .i64 t434); have hfz65_0 := blk_frozen BK435.out 0; have hnb66 := NB426_425.out; have hnc66 := NB425_426.out; have hnb67 := NB426_427.out; have hnc67 := NB427_426.out; have hcz68_0 := bc BK426.out 0 (.bool x427000_1); have hfz68_0 := blk_frozen BK426.out 0; have hnb69 := NB425_427.out; have hnc69 := NB427_425.out; have hcz70_0 := bc BK425.out 0 (.bool x426000_1); have hfz70_0 := blk_frozen BK425.out 0; have hcz71_0 := bc BK427.out 0 (.int .i64 x428000_1); have hfz71_0 := blk_frozen BK427.out 0) | (go_at_call 115; (with_reducible refine (impl_charCuts_1.calls k1 (rd l0 (ji32)) (rd l0 x17_1) t430 t434 x427000_1 x426000_1 x428000_1 t436 gb433 gb429 gb431 gb435 gb426 gb425 gb427 _ (by first | assumption | (simp; assumption) | (simp [*]; done)) (by first | assumption | (simp; assumption) | (simp [*]; done)) (by first | assumption | (simp; assumption) | (simp [*]; done)) (by first | assumption | (simp; assumption) | (simp [*]; done)) (by first | assumption | (simp; assumption) | (simp [*]; done)) (by first | assumption | (simp; assumption) | (simp [*]; done)) (by first | assumption | (simp; assumption) | (simp [*]; done)) A36.out).mono ?_); rintro e w' ⟨rfl, ⟨nd, rfl⟩⟩; (try (rw [drewN_self w54]; generalize hq_ : World.drewN w54 _ = w54; have n0_ : Aside0 (Kd.R Kd.bool 4 w54 w.heap.size (fun k_ => k_ ≠ gb425 ∧ k_ ≠ gb426) v423 x3_1) := ⟨by rw [← hq_]; exact (kR HO_3.out)⟩; have n1_ : Aside0 (w54.heap[gb425]? = some (.cells #[.bool x426000_1] 4 (0, 0))) := ⟨by rw [← hq_]; exact (bk BK425.out)⟩; have n2_ : Aside0 (w54.heap[gb426]? = some (.cells #[.bool x427000_1] 4 (0, 0))) := ⟨by rw [← hq_]; exact (bk BK426.out)⟩; have n3_ : Aside0 (w54.heap[gb427]? = some (.cells #[.int .i64 x428000_1] 3 (0, 0))) := ⟨by rw [← hq_]; exact (bk BK427.out)⟩; have n4_ : Aside0 (w54.heap[gb429]? = some (.cells #[.int .i64 (rd l0 x17_1)] 2 (0, 0))) := ⟨by rw [← hq_]; exact (bk BK429.out)⟩; have n5_ : Aside0 (w54.heap[gb431]? = some (.cells #[.int .i64 t430] 3 (0, 0))) := ⟨by rw [← hq_]; exact (bk BK431.out)⟩; have n6_ : Aside0 (w54.heap[gb433]? = some (.cells #[.int .i64 (rd l0 (ji32))] 2 (0, 0))) := ⟨by rw [← hq_]; exact (bk BK433.out)⟩; have n7_ : Aside0 (w54.heap[gb435]? = some (.cells #[.int .i64 t434] 3 (0, 0))) := ⟨by rw [← hq_]; exact (bk BK435.out)⟩; have n8_ : Aside0 (Below w.heap.size w w54) := ⟨by rw [← hq_]; exact bS⟩; clear HO_3 BK425 BK426 BK427 BK429 BK431 BK433 BK435 HB hq_; have HO_3 := n0_; have BK425 := n1_; have BK426 := n2_; have BK427 := n3_; have BK429 := n4_; have BK431 := n5_; have BK433 := n6_; have BK435 := n7_; have HB := n8_; clear n0_ n1_ n2_ n3_ n4_ n5_ n6_ n7_ n8_)); have p38 : 0 ≤ (x17_1 : Int) := od; have q38 : (x17_1 : Int) < ((x3_1.length : Int) : Int) := od; obtain ⟨go38, co38, eo38, gb38, gl38, cl38, HG38⟩ := Kd.R_form HO_3.out (by omega); (first | cases eo38 | (injection eo38 with ea_ en_ ec_; (first | subst ea_ | (injection ea_ with ea_; subst ea_)); subst ec_; clear en_)); have GB38 := am gb38; have GG38 := am HG38; clear gb38 gl38 HG38; obtain ⟨hx38_0, hf38_0⟩ := Kd.R_celln false HO_3.out (x17_1 : Int) p38 q38; replace p38 := eq_true p38; replace q38 := eq_true q38; obtain ⟨hy72_, hz72_⟩ := Kd.R_celln false HO_3.out (x17_1 : Int) (od) (od); have HP72 := Kd.R_putg HO_3.out (x17_1 : Int) t436) | ((with_reducible refine gate_store (t := 4) (p := 37) rfl ?_); refine store_event (t := 4) (p := 37) (v := ?vo_w73) (w1 := (w54.setCell ⟨go38, (x17_1 : Int).toNat, none⟩ (.bool t436))) ?hg ?ho ?hn ?hr ?_; (case ho => rfl); (case hg => rfl); (case hn => rfl); (case hr => first | (go_simp; done) | (go_simp; rfl)); intro w73 hw; have hg : w54.grownBy w73 (some go38) := (by rw [hw]; exact HP72.2); have hp_ : Kd.R Kd.bool 4 w73 w.heap.size (fun k_ => k_ ≠ gb425 ∧ k_ ≠ gb426) (.slice (some ⟨go38, 0, none⟩) x3_1.length co38) y437 := (by rw [hw, Ny437.out]; exact HP72.1); clear HP72; replace BK425 := am (blk_grown (g := gb425) (o := .cells #[.bool x426000_1] 4 (0, 0)) (bk BK425.out) hg (Kd.R_away HO_3.out (fun _ hk => hk.1))); replace BK426 := am (blk_grown (g := gb426) (o := .cells #[.bool x427000_1] 4 (0, 0)) (bk BK426.out) hg (Kd.R_away HO_3.out (fun _ hk => hk.2))); replace BK427 := am (blk_grown (g := gb427) (o := .cells #[.int .i64 x428000_1] 3 (0, 0)) (bk BK427.out) hg (Kd.R_ne HO_3.out BK427.out (by decide))); replace BK429 := am (blk_grown (g := gb429) (o := .cells #[.int .i64 (rd l0 x17_1)] 2 (0, 0)) (bk BK429.out) hg (Kd.R_ne HO_3.out BK429.out (by decide))); replace BK431 := am (blk_grown (g := gb431) (o := .cells #[.int .i64 t430] 3 (0, 0)) (bk BK431.out) hg (Kd.R_ne HO_3.out BK431.out (by decide))); replace BK433 := am (blk_grown (g := gb433) (o := .cells #[.int .i64 (rd l0 (ji32))] 2 (0, 0)) (bk BK433.out) hg (Kd.R_ne HO_3.out BK433.out (by decide))); replace BK435 := am (blk_grown (g := gb435) (o := .cells #[.int .i64 t434] 3 (0, 0)) (bk BK435.out) hg (Kd.R_ne HO_3.out BK435.out (by decide))); replace HO_3 := am (hp_); replace HB := am ((by rw [hw]; exact below_set (HB.out) GB38.out : Below w.heap.size w w73)); clear hg hw hp_))
    go_meet
    case rel => exact ⟨_, (y437), H', ⟨kl⟩, ⟨kR HO_3.out⟩, ⟨bk BK425.out⟩, ⟨bk BK426.out⟩, ⟨bk BK427.out⟩, ⟨bk BK429.out⟩, ⟨bk BK431.out⟩, ⟨bS⟩⟩
   case rest =>
    clear HC19
    try clear c15b0
    try clear c16b0
    try clear c17b0
    try clear hcz24_0
    try clear hcz30_0
    try clear hfz24_0
    try clear hfz30_0
    try clear hx428_0
    try clear p428
    try clear q428
    obtain ⟨kq, x3_18, HA, HJ18, HO_3, BK425, BK426, BK427, BK429, BK431, HB⟩ := hcut
    cases kq with
    | zero => exact absurd HA.out (by simp [impl_charCuts.j1])
    | succ kj18 =>
     have H := HA.out
     clear HA
     simp only [impl_charCuts.j1] at H
     by_cases c74 : t430 = 2
     ·rw [if_pos c74] at H
      have c74b0 : (t430 == 2) = true := beq_iff_eq.mpr c74
      have c74b1 : (t430 != 2) = false := bne_eq_false_iff_eq.mpr c74
      clear c74
      by_cases c75 : (rd l0 x17_1) = 1584
      ·rw [if_pos c75] at H
       have c75b0 : ((rd l0 x17_1) == 1584) = true := beq_iff_eq.mpr c75
       have c75b1 : ((rd l0 x17_1) != 1584) = false := bne_eq_false_iff_eq.mpr c75
       clear c75
       by_cases c76 : t430 = 9
       rotate_left
       ·rw [if_neg c76] at H
        have c76b0 : (t430 == 9) = false := beq_eq_false_iff_ne.mpr c76
        have c76b1 : (t430 != 9) = true := bne_iff_ne.mpr c76
        have H' := am H
        clear H
        have hnb91 := NB431_425.out
        have hnc91 := NB425_431.out
        have hnb92 := NB431_426.out
        have hnc92 := NB426_431.out
        have hnb93 := NB431_427.out
        have hnc93 := NB427_431.out
        have hnb94 := NB431_429.out
        have hnc94 := NB429_431.out
        have hcz95_0 := bc BK431.out 0 (.int .i64 t430)
        have hfz95_0 := blk_frozen BK431.out 0
        have hnb96 := NB429_425.out
        have hnc96 := NB425_429.out
        have hnb97 := NB429_426.out
        have hnc97 := NB426_429.out
        have hnb98 := NB429_427.out
        have hnc98 := NB427_429.out
        have hcz99_0 := bc BK429.out 0 (.int .i64 (rd l0 x17_1))
        have hfz99_0 := blk_frozen BK429.out 0
        have hnb100 := NB426_425.out
        have hnc100 := NB425_426.out
        have hnb101 := NB426_427.out
        have hnc101 := NB427_426.out
        have hcz102_0 := bc BK426.out 0 (.bool x427000_1)
        have hfz102_0 := blk_frozen BK426.out 0
        have hnb103 := NB427_425.out
        have hnc103 := NB425_427.out
        have hcz104_0 := bc BK427.out 0 (.int .i64 x428000_1)
        have hfz104_0 := blk_frozen BK427.out 0
        go_wp2
        go_roundg kj18
        case measure => have := HK1.out; have := HJ18.out; omega
        case rel => exact ⟨(x3_18), (wrap64 (x17_1 + 1)), (x426000_1), (true), (0), sr, H', ⟨kl⟩, ⟨kR (Kd.R_mono (Kd.R_far (p := ⟨gb427, 0, none⟩) (Kd.R_far (p := ⟨gb426, 0, none⟩) (Kd.R_types (Kd.R_mono HO_3.out (fun k_ hk => (⟨hk, hk.2⟩ : _ ∧ k_ ≠ gb426))) BK427.out (by decide)) (fun _ hk => hk.1.2) (.bool true)) (fun _ hk => hk.2) (.int .i64 0)) (fun _ hk => ⟨hk.1.1.1, hk.1.1.2⟩))⟩, ⟨by (with_reducible repeat (first | refine blk_drewN ?_ _ | refine blk_drew ?_ | refine blk_alloc ?_ _)); refine blk_far ?_ NB425_427.out _; (with_reducible repeat (first | refine blk_drewN ?_ _ | refine blk_drew ?_ | refine blk_alloc ?_ _)); refine blk_far ?_ NB425_426.out _; (with_reducible repeat (first | refine blk_drewN ?_ _ | refine blk_drew ?_ | refine blk_alloc ?_ _)); exact BK425.out⟩, ⟨by (with_reducible repeat (first | refine blk_drewN ?_ _ | refine blk_drew ?_ | refine blk_alloc ?_ _)); refine blk_far ?_ NB426_427.out _; (with_reducible repeat (first | refine blk_drewN ?_ _ | refine blk_drew ?_ | refine blk_alloc ?_ _)); refine blk_put (cs := #[.bool x427000_1]) ?_ 0 _ rfl; (with_reducible repeat (first | refine blk_drewN ?_ _ | refine blk_drew ?_ | refine blk_alloc ?_ _)); exact BK426.out⟩, ⟨by (with_reducible repeat (first | refine blk_drewN ?_ _ | refine blk_drew ?_ | refine blk_alloc ?_ _)); refine blk_put (cs := #[.int .i64 x428000_1]) ?_ 0 _ rfl; (with_reducible repeat (first | refine blk_drewN ?_ _ | refine blk_drew ?_ | refine blk_alloc ?_ _)); refine blk_far ?_ NB427_426.out _; (with_reducible repeat (first | refine blk_drewN ?_ _ | refine blk_drew ?_ | refine blk_alloc ?_ _)); exact BK427.out⟩, ⟨bS⟩⟩
       rw [if_pos c76] at H
       have c76b0 : (t430 == 9) = true := beq_iff_eq.mpr c76
       have c76b1 : (t430 != 9) = false := bne_eq_false_iff_eq.mpr c76
       clear c76
       have H' := am H
       clear H
       have hnb77 := NB431_425.out
       have hnc77 := NB425_431.out
       have hnb78 := NB431_426.out
       have hnc78 := NB426_431.out
       have hnb79 := NB431_427.out
       have hnc79 := NB427_431.out
       have hnb80 := NB431_429.out
       have hnc80 := NB429_431.out
       have hcz81_0 := bc BK431.out 0 (.int .i64 t430)
       have hfz81_0 := blk_frozen BK431.out 0
       have hnb82 := NB429_425.out
       have hnc82 := NB425_429.out
       have hnb83 := NB429_426.out
       have hnc83 := NB426_429.out
       have hnb84 := NB429_427.out
       have hnc84 := NB427_429.out
       have hcz85_0 := bc BK429.out 0 (.int .i64 (rd l0 x17_1))
       have hfz85_0 := blk_frozen BK429.out 0
       have hnb86 := NB426_425.out
       have hnc86 := NB425_426.out
       have hnb87 := NB426_427.out
       have hnc87 := NB427_426.out
       have hcz88_0 := bc BK426.out 0 (.bool x427000_1)
       have hfz88_0 := blk_frozen BK426.out 0
       have hnb89 := NB427_425.out
       have hnc89 := NB425_427.out
       have hcz90_0 := bc BK427.out 0 (.int .i64 x428000_1)
       have hfz90_0 := blk_frozen BK427.out 0
       go_wp2
       go_roundg kj18
       case measure => have := HK1.out; have := HJ18.out; omega
       case rel => exact ⟨(x3_18), (wrap64 (x17_1 + 1)), (x426000_1), (true), (wrap64 (x428000_1 + 1)), sr, H', ⟨kl⟩, ⟨kR (Kd.R_mono (Kd.R_far (p := ⟨gb427, 0, none⟩) (Kd.R_far (p := ⟨gb426, 0, none⟩) (Kd.R_types (Kd.R_mono HO_3.out (fun k_ hk => (⟨hk, hk.2⟩ : _ ∧ k_ ≠ gb426))) BK427.out (by decide)) (fun _ hk => hk.1.2) (.bool true)) (fun _ hk => hk.2) (.int .i64 (wrap64 (x428000_1 + 1)))) (fun _ hk => ⟨hk.1.1.1, hk.1.1.2⟩))⟩, ⟨by (with_reducible repeat (first | refine blk_drewN ?_ _ | refine blk_drew ?_ | refine blk_alloc ?_ _)); refine blk_far ?_ NB425_427.out _; (with_reducible repeat (first | refine blk_drewN ?_ _ | refine blk_drew ?_ | refine blk_alloc ?_ _)); refine blk_far ?_ NB425_426.out _; (with_reducible repeat (first | refine blk_drewN ?_ _ | refine blk_drew ?_ | refine blk_alloc ?_ _)); exact BK425.out⟩, ⟨by (with_reducible repeat (first | refine blk_drewN ?_ _ | refine blk_drew ?_ | refine blk_alloc ?_ _)); refine blk_far ?_ NB426_427.out _; (with_reducible repeat (first | refine blk_drewN ?_ _ | refine blk_drew ?_ | refine blk_alloc ?_ _)); refine blk_put (cs := #[.bool x427000_1]) ?_ 0 _ rfl; (with_reducible repeat (first | refine blk_drewN ?_ _ | refine blk_drew ?_ | refine blk_alloc ?_ _)); exact BK426.out⟩, ⟨by (with_reducible repeat (first | refine blk_drewN ?_ _ | refine blk_drew ?_ | refine blk_alloc ?_ _)); refine blk_put (cs := #[.int .i64 x428000_1]) ?_ 0 _ rfl; (with_reducible repeat (first | refine blk_drewN ?_ _ | refine blk_drew ?_ | refine blk_alloc ?_ _)); refine blk_far ?_ NB427_426.out _; (with_reducible repeat (first | refine blk_drewN ?_ _ | refine blk_drew ?_ | refine blk_alloc ?_ _)); exact BK427.out⟩, ⟨bS⟩⟩
      rw [if_neg c75] at H
      have c75b0 : ((rd l0 x17_1) == 1584) = false := beq_eq_false_iff_ne.mpr c75
      have c75b1 : ((rd l0 x17_1) != 1584) = true := bne_iff_ne.mpr c75
      by_cases c105 : (rd l0 x17_1) = 1585
      rotate_left
      ·rw [if_neg c105] at H
       have c105b0 : ((rd l0 x17_1) == 1585) = false := beq_eq_false_iff_ne.mpr c105
       have c105b1 : ((rd l0 x17_1) != 1585) = true := bne_iff_ne.mpr c105
       by_cases c135 : t430 = 9
       rotate_left
       ·rw [if_neg c135] at H
        have c135b0 : (t430 == 9) = false := beq_eq_false_iff_ne.mpr c135
        have c135b1 : (t430 != 9) = true := bne_iff_ne.mpr c135
        have H' := am H
        clear H
        have hnb150 := NB431_425.out
        have hnc150 := NB425_431.out
        have hnb151 := NB431_426.out
        have hnc151 := NB426_431.out
        have hnb152 := NB431_427.out
        have hnc152 := NB427_431.out
        have hnb153 := NB431_429.out
        have hnc153 := NB429_431.out
        have hcz154_0 := bc BK431.out 0 (.int .i64 t430)
        have hfz154_0 := blk_frozen BK431.out 0
        have hnb155 := NB429_425.out
        have hnc155 := NB425_429.out
        have hnb156 := NB429_426.out
        have hnc156 := NB426_429.out
        have hnb157 := NB429_427.out
        have hnc157 := NB427_429.out
        have hcz158_0 := bc BK429.out 0 (.int .i64 (rd l0 x17_1))
        have hfz158_0 := blk_frozen BK429.out 0
        have hnb159 := NB426_425.out
        have hnc159 := NB425_426.out
        have hnb160 := NB426_427.out
        have hnc160 := NB427_426.out
        have hcz161_0 := bc BK426.out 0 (.bool x427000_1)
        have hfz161_0 := blk_frozen BK426.out 0
        have hnb162 := NB427_425.out
        have hnc162 := NB425_427.out
        have hcz163_0 := bc BK427.out 0 (.int .i64 x428000_1)
        have hfz163_0 := blk_frozen BK427.out 0
        go_wp2
        go_roundg kj18
        case measure => have := HK1.out; have := HJ18.out; omega
        case rel => exact ⟨(x3_18), (wrap64 (x17_1 + 1)), (x426000_1), (false), (0), sr, H', ⟨kl⟩, ⟨kR (Kd.R_mono (Kd.R_far (p := ⟨gb427, 0, none⟩) (Kd.R_far (p := ⟨gb426, 0, none⟩) (Kd.R_types (Kd.R_mono HO_3.out (fun k_ hk => (⟨hk, hk.2⟩ : _ ∧ k_ ≠ gb426))) BK427.out (by decide)) (fun _ hk => hk.1.2) (.bool false)) (fun _ hk => hk.2) (.int .i64 0)) (fun _ hk => ⟨hk.1.1.1, hk.1.1.2⟩))⟩, ⟨by (with_reducible repeat (first | refine blk_drewN ?_ _ | refine blk_drew ?_ | refine blk_alloc ?_ _)); refine blk_far ?_ NB425_427.out _; (with_reducible repeat (first | refine blk_drewN ?_ _ | refine blk_drew ?_ | refine blk_alloc ?_ _)); refine blk_far ?_ NB425_426.out _; (with_reducible repeat (first | refine blk_drewN ?_ _ | refine blk_drew ?_ | refine blk_alloc ?_ _)); exact BK425.out⟩, ⟨by (with_reducible repeat (first | refine blk_drewN ?_ _ | refine blk_drew ?_ | refine blk_alloc ?_ _)); refine blk_far ?_ NB426_427.out _; (with_reducible repeat (first | refine blk_drewN ?_ _ | refine blk_drew ?_ | refine blk_alloc ?_ _)); refine blk_put (cs := #[.bool x427000_1]) ?_ 0 _ rfl; (with_reducible repeat (first | refine blk_drewN ?_ _ | refine blk_drew ?_ | refine blk_alloc ?_ _)); exact BK426.out⟩, ⟨by (with_reducible repeat (first | refine blk_drewN ?_ _ | refine blk_drew ?_ | refine blk_alloc ?_ _)); refine blk_put (cs := #[.int .i64 x428000_1]) ?_ 0 _ rfl; (with_reducible repeat (first | refine blk_drewN ?_ _ | refine blk_drew ?_ | refine blk_alloc ?_ _)); refine blk_far ?_ NB427_426.out _; (with_reducible repeat (first | refine blk_drewN ?_ _ | refine blk_drew ?_ | refine blk_alloc ?_ _)); exact BK427.out⟩, ⟨bS⟩⟩
       rw [if_pos c135] at H
       have c135b0 : (t430 == 9) = true := beq_iff_eq.mpr c135
       have c135b1 : (t430 != 9) = false := bne_eq_false_iff_eq.mpr c135
       clear c135
       have H' := am H
       clear H
       have hnb136 := NB431_425.out
       have hnc136 := NB425_431.out
       have hnb137 := NB431_426.out
       have hnc137 := NB426_431.out
       have hnb138 := NB431_427.out
       have hnc138 := NB427_431.out
       have hnb139 := NB431_429.out
       have hnc139 := NB429_431.out
       have hcz140_0 := bc BK431.out 0 (.int .i64 t430)
       have hfz140_0 := blk_frozen BK431.out 0
       have hnb141 := NB429_425.out
       have hnc141 := NB425_429.out
       have hnb142 := NB429_426.out
       have hnc142 := NB426_429.out
       have hnb143 := NB429_427.out
       have hnc143 := NB427_429.out
       have hcz144_0 := bc BK429.out 0 (.int .i64 (rd l0 x17_1))
       have hfz144_0 := blk_frozen BK429.out 0
       have hnb145 := NB426_425.out
       have hnc145 := NB425_426.out
       have hnb146 := NB426_427.out
       have hnc146 := NB427_426.out
       have hcz147_0 := bc BK426.out 0 (.bool x427000_1)
       have hfz147_0 := blk_frozen BK426.out 0
       have hnb148 := NB427_425.out
       have hnc148 := NB425_427.out
       have hcz149_0 := bc BK427.out 0 (.int .i64 x428000_1)
       have hfz149_0 := blk_frozen BK427.out 0
       go_wp2
       go_roundg kj18
       case measure => have := HK1.out; have := HJ18.out; omega
       case rel => exact ⟨(x3_18), (wrap64 (x17_1 + 1)), (x426000_1), (false), (wrap64 (x428000_1 + 1)), sr, H', ⟨kl⟩, ⟨kR (Kd.R_mono (Kd.R_far (p := ⟨gb427, 0, none⟩) (Kd.R_far (p := ⟨gb426, 0, none⟩) (Kd.R_types (Kd.R_mono HO_3.out (fun k_ hk => (⟨hk, hk.2⟩ : _ ∧ k_ ≠ gb426))) BK427.out (by decide)) (fun _ hk => hk.1.2) (.bool false)) (fun _ hk => hk.2) (.int .i64 (wrap64 (x428000_1 + 1)))) (fun _ hk => ⟨hk.1.1.1, hk.1.1.2⟩))⟩, ⟨by (with_reducible repeat (first | refine blk_drewN ?_ _ | refine blk_drew ?_ | refine blk_alloc ?_ _)); refine blk_far ?_ NB425_427.out _; (with_reducible repeat (first | refine blk_drewN ?_ _ | refine blk_drew ?_ | refine blk_alloc ?_ _)); refine blk_far ?_ NB425_426.out _; (with_reducible repeat (first | refine blk_drewN ?_ _ | refine blk_drew ?_ | refine blk_alloc ?_ _)); exact BK425.out⟩, ⟨by (with_reducible repeat (first | refine blk_drewN ?_ _ | refine blk_drew ?_ | refine blk_alloc ?_ _)); refine blk_far ?_ NB426_427.out _; (with_reducible repeat (first | refine blk_drewN ?_ _ | refine blk_drew ?_ | refine blk_alloc ?_ _)); refine blk_put (cs := #[.bool x427000_1]) ?_ 0 _ rfl; (with_reducible repeat (first | refine blk_drewN ?_ _ | refine blk_drew ?_ | refine blk_alloc ?_ _)); exact BK426.out⟩, ⟨by (with_reducible repeat (first | refine blk_drewN ?_ _ | refine blk_drew ?_ | refine blk_alloc ?_ _)); refine blk_put (cs := #[.int .i64 x428000_1]) ?_ 0 _ rfl; (with_reducible repeat (first | refine blk_drewN ?_ _ | refine blk_drew ?_ | refine blk_alloc ?_ _)); refine blk_far ?_ NB427_426.out _; (with_reducible repeat (first | refine blk_drewN ?_ _ | refine blk_drew ?_ | refine blk_alloc ?_ _)); exact BK427.out⟩, ⟨bS⟩⟩
      rw [if_pos c105] at H
      have c105b0 : ((rd l0 x17_1) == 1585) = true := beq_iff_eq.mpr c105
      have c105b1 : ((rd l0 x17_1) != 1585) = false := bne_eq_false_iff_eq.mpr c105
      clear c105
      by_cases c106 : t430 = 9
      rotate_left
      ·rw [if_neg c106] at H
       have c106b0 : (t430 == 9) = false := beq_eq_false_iff_ne.mpr c106
       have c106b1 : (t430 != 9) = true := bne_iff_ne.mpr c106
       have H' := am H
       clear H
       have hnb121 := NB431_425.out
       have hnc121 := NB425_431.out
       have hnb122 := NB431_426.out
       have hnc122 := NB426_431.out
       have hnb123 := NB431_427.out
       have hnc123 := NB427_431.out
       have hnb124 := NB431_429.out
       have hnc124 := NB429_431.out
       have hcz125_0 := bc BK431.out 0 (.int .i64 t430)
       have hfz125_0 := blk_frozen BK431.out 0
       have hnb126 := NB429_425.out
       have hnc126 := NB425_429.out
       have hnb127 := NB429_426.out
       have hnc127 := NB426_429.out
       have hnb128 := NB429_427.out
       have hnc128 := NB427_429.out
       have hcz129_0 := bc BK429.out 0 (.int .i64 (rd l0 x17_1))
       have hfz129_0 := blk_frozen BK429.out 0
       have hnb130 := NB426_425.out
       have hnc130 := NB425_426.out
       have hnb131 := NB426_427.out
       have hnc131 := NB427_426.out
       have hcz132_0 := bc BK426.out 0 (.bool x427000_1)
       have hfz132_0 := blk_frozen BK426.out 0
       have hnb133 := NB427_425.out
       have hnc133 := NB425_427.out
       have hcz134_0 := bc BK427.out 0 (.int .i64 x428000_1)
       have hfz134_0 := blk_frozen BK427.out 0
       go_wp2
       go_roundg kj18
       case measure => have := HK1.out; have := HJ18.out; omega
       case rel => exact ⟨(x3_18), (wrap64 (x17_1 + 1)), (x426000_1), (x427000_1), (0), sr, H', ⟨kl⟩, ⟨kR (Kd.R_mono (Kd.R_far (p := ⟨gb427, 0, none⟩) (Kd.R_far (p := ⟨gb426, 0, none⟩) (Kd.R_types (Kd.R_mono HO_3.out (fun k_ hk => (⟨hk, hk.2⟩ : _ ∧ k_ ≠ gb426))) BK427.out (by decide)) (fun _ hk => hk.1.2) (.bool x427000_1)) (fun _ hk => hk.2) (.int .i64 0)) (fun _ hk => ⟨hk.1.1.1, hk.1.1.2⟩))⟩, ⟨by (with_reducible repeat (first | refine blk_drewN ?_ _ | refine blk_drew ?_ | refine blk_alloc ?_ _)); refine blk_far ?_ NB425_427.out _; (with_reducible repeat (first | refine blk_drewN ?_ _ | refine blk_drew ?_ | refine blk_alloc ?_ _)); refine blk_far ?_ NB425_426.out _; (with_reducible repeat (first | refine blk_drewN ?_ _ | refine blk_drew ?_ | refine blk_alloc ?_ _)); exact BK425.out⟩, ⟨by (with_reducible repeat (first | refine blk_drewN ?_ _ | refine blk_drew ?_ | refine blk_alloc ?_ _)); refine blk_far ?_ NB426_427.out _; (with_reducible repeat (first | refine blk_drewN ?_ _ | refine blk_drew ?_ | refine blk_alloc ?_ _)); refine blk_put (cs := #[.bool x427000_1]) ?_ 0 _ rfl; (with_reducible repeat (first | refine blk_drewN ?_ _ | refine blk_drew ?_ | refine blk_alloc ?_ _)); exact BK426.out⟩, ⟨by (with_reducible repeat (first | refine blk_drewN ?_ _ | refine blk_drew ?_ | refine blk_alloc ?_ _)); refine blk_put (cs := #[.int .i64 x428000_1]) ?_ 0 _ rfl; (with_reducible repeat (first | refine blk_drewN ?_ _ | refine blk_drew ?_ | refine blk_alloc ?_ _)); refine blk_far ?_ NB427_426.out _; (with_reducible repeat (first | refine blk_drewN ?_ _ | refine blk_drew ?_ | refine blk_alloc ?_ _)); exact BK427.out⟩, ⟨bS⟩⟩
      rw [if_pos c106] at H
      have c106b0 : (t430 == 9) = true := beq_iff_eq.mpr c106
      have c106b1 : (t430 != 9) = false := bne_eq_false_iff_eq.mpr c106
      clear c106
      have H' := am H
      clear H
      have hnb107 := NB431_425.out
      have hnc107 := NB425_431.out
      have hnb108 := NB431_426.out
      have hnc108 := NB426_431.out
      have hnb109 := NB431_427.out
      have hnc109 := NB427_431.out
      have hnb110 := NB431_429.out
      have hnc110 := NB429_431.out
      have hcz111_0 := bc BK431.out 0 (.int .i64 t430)
      have hfz111_0 := blk_frozen BK431.out 0
      have hnb112 := NB429_425.out
      have hnc112 := NB425_429.out
      have hnb113 := NB429_426.out
      have hnc113 := NB426_429.out
      have hnb114 := NB429_427.out
      have hnc114 := NB427_429.out
      have hcz115_0 := bc BK429.out 0 (.int .i64 (rd l0 x17_1))
      have hfz115_0 := blk_frozen BK429.out 0
      have hnb116 := NB426_425.out
      have hnc116 := NB425_426.out
      have hnb117 := NB426_427.out
      have hnc117 := NB427_426.out
      have hcz118_0 := bc BK426.out 0 (.bool x427000_1)
      have hfz118_0 := blk_frozen BK426.out 0
      have hnb119 := NB427_425.out
      have hnc119 := NB425_427.out
      have hcz120_0 := bc BK427.out 0 (.int .i64 x428000_1)
      have hfz120_0 := blk_frozen BK427.out 0
      go_wp2
      go_roundg kj18
      case measure => have := HK1.out; have := HJ18.out; omega
      case rel => exact ⟨(x3_18), (wrap64 (x17_1 + 1)), (x426000_1), (x427000_1), (wrap64 (x428000_1 + 1)), sr, H', ⟨kl⟩, ⟨kR (Kd.R_mono (Kd.R_far (p := ⟨gb427, 0, none⟩) (Kd.R_far (p := ⟨gb426, 0, none⟩) (Kd.R_types (Kd.R_mono HO_3.out (fun k_ hk => (⟨hk, hk.2⟩ : _ ∧ k_ ≠ gb426))) BK427.out (by decide)) (fun _ hk => hk.1.2) (.bool x427000_1)) (fun _ hk => hk.2) (.int .i64 (wrap64 (x428000_1 + 1)))) (fun _ hk => ⟨hk.1.1.1, hk.1.1.2⟩))⟩, ⟨by (with_reducible repeat (first | refine blk_drewN ?_ _ | refine blk_drew ?_ | refine blk_alloc ?_ _)); refine blk_far ?_ NB425_427.out _; (with_reducible repeat (first | refine blk_drewN ?_ _ | refine blk_drew ?_ | refine blk_alloc ?_ _)); refine blk_far ?_ NB425_426.out _; (with_reducible repeat (first | refine blk_drewN ?_ _ | refine blk_drew ?_ | refine blk_alloc ?_ _)); exact BK425.out⟩, ⟨by (with_reducible repeat (first | refine blk_drewN ?_ _ | refine blk_drew ?_ | refine blk_alloc ?_ _)); refine blk_far ?_ NB426_427.out _; (with_reducible repeat (first | refine blk_drewN ?_ _ | refine blk_drew ?_ | refine blk_alloc ?_ _)); refine blk_put (cs := #[.bool x427000_1]) ?_ 0 _ rfl; (with_reducible repeat (first | refine blk_drewN ?_ _ | refine blk_drew ?_ | refine blk_alloc ?_ _)); exact BK426.out⟩, ⟨by (with_reducible repeat (first | refine blk_drewN ?_ _ | refine blk_drew ?_ | refine blk_alloc ?_ _)); refine blk_put (cs := #[.int .i64 x428000_1]) ?_ 0 _ rfl; (with_reducible repeat (first | refine blk_drewN ?_ _ | refine blk_drew ?_ | refine blk_alloc ?_ _)); refine blk_far ?_ NB427_426.out _; (with_reducible repeat (first | refine blk_drewN ?_ _ | refine blk_drew ?_ | refine blk_alloc ?_ _)); exact BK427.out⟩, ⟨bS⟩⟩
     rw [if_neg c74] at H
     have c74b0 : (t430 == 2) = false := beq_eq_false_iff_ne.mpr c74
     have c74b1 : (t430 != 2) = true := bne_iff_ne.mpr c74
     by_cases c164 : (rd l0 x17_1) = 1584
     ·rw [if_pos c164] at H
      have c164b0 : ((rd l0 x17_1) == 1584) = true := beq_iff_eq.mpr c164
      have c164b1 : ((rd l0 x17_1) != 1584) = false := bne_eq_false_iff_eq.mpr c164
      clear c164
      by_cases c165 : t430 = 9
      rotate_left
      ·rw [if_neg c165] at H
       have c165b0 : (t430 == 9) = false := beq_eq_false_iff_ne.mpr c165
       have c165b1 : (t430 != 9) = true := bne_iff_ne.mpr c165
       have H' := am H
       clear H
       have hnb181 := NB431_425.out
       have hnc181 := NB425_431.out
       have hnb182 := NB431_426.out
       have hnc182 := NB426_431.out
       have hnb183 := NB431_427.out
       have hnc183 := NB427_431.out
       have hnb184 := NB431_429.out
       have hnc184 := NB429_431.out
       have hcz185_0 := bc BK431.out 0 (.int .i64 t430)
       have hfz185_0 := blk_frozen BK431.out 0
       have hnb186 := NB425_426.out
       have hnc186 := NB426_425.out
       have hnb187 := NB425_427.out
       have hnc187 := NB427_425.out
       have hnb188 := NB425_429.out
       have hnc188 := NB429_425.out
       have hcz189_0 := bc BK425.out 0 (.bool x426000_1)
       have hfz189_0 := blk_frozen BK425.out 0
       have hnb190 := NB429_426.out
       have hnc190 := NB426_429.out
       have hnb191 := NB429_427.out
       have hnc191 := NB427_429.out
       have hcz192_0 := bc BK429.out 0 (.int .i64 (rd l0 x17_1))
       have hfz192_0 := blk_frozen BK429.out 0
       have hnb193 := NB426_427.out
       have hnc193 := NB427_426.out
       have hcz194_0 := bc BK426.out 0 (.bool x427000_1)
       have hfz194_0 := blk_frozen BK426.out 0
       have hcz195_0 := bc BK427.out 0 (.int .i64 x428000_1)
       have hfz195_0 := blk_frozen BK427.out 0
       go_wp2
       go_roundg kj18
       case measure => have := HK1.out; have := HJ18.out; omega
       case rel => exact ⟨(x3_18), (wrap64 (x17_1 + 1)), ((t430 == 8)), (true), (0), sr, H', ⟨kl⟩, ⟨kR (Kd.R_mono (Kd.R_far (p := ⟨gb427, 0, none⟩) (Kd.R_far (p := ⟨gb426, 0, none⟩) (Kd.R_far (p := ⟨gb425, 0, none⟩) (Kd.R_types (Kd.R_mono (Kd.R_mono HO_3.out (fun k_ hk => (⟨hk, hk.1⟩ : _ ∧ k_ ≠ gb425))) (fun k_ hk => (⟨hk, hk.1.2⟩ : _ ∧ k_ ≠ gb426))) BK427.out (by decide)) (fun _ hk => hk.1.1.2) (.bool (t430 == 8))) (fun _ hk => hk.1.2) (.bool true)) (fun _ hk => hk.2) (.int .i64 0)) (fun _ hk => ⟨hk.1.1.1.1, hk.1.1.1.2⟩))⟩, ⟨by (with_reducible repeat (first | refine blk_drewN ?_ _ | refine blk_drew ?_ | refine blk_alloc ?_ _)); refine blk_far ?_ NB425_427.out _; (with_reducible repeat (first | refine blk_drewN ?_ _ | refine blk_drew ?_ | refine blk_alloc ?_ _)); refine blk_far ?_ NB425_426.out _; (with_reducible repeat (first | refine blk_drewN ?_ _ | refine blk_drew ?_ | refine blk_alloc ?_ _)); refine blk_put (cs := #[.bool x426000_1]) ?_ 0 _ rfl; (with_reducible repeat (first | refine blk_drewN ?_ _ | refine blk_drew ?_ | refine blk_alloc ?_ _)); exact BK425.out⟩, ⟨by (with_reducible repeat (first | refine blk_drewN ?_ _ | refine blk_drew ?_ | refine blk_alloc ?_ _)); refine blk_far ?_ NB426_427.out _; (with_reducible repeat (first | refine blk_drewN ?_ _ | refine blk_drew ?_ | refine blk_alloc ?_ _)); refine blk_put (cs := #[.bool x427000_1]) ?_ 0 _ rfl; (with_reducible repeat (first | refine blk_drewN ?_ _ | refine blk_drew ?_ | refine blk_alloc ?_ _)); refine blk_far ?_ NB426_425.out _; (with_reducible repeat (first | refine blk_drewN ?_ _ | refine blk_drew ?_ | refine blk_alloc ?_ _)); exact BK426.out⟩, ⟨by (with_reducible repeat (first | refine blk_drewN ?_ _ | refine blk_drew ?_ | refine blk_alloc ?_ _)); refine blk_put (cs := #[.int .i64 x428000_1]) ?_ 0 _ rfl; (with_reducible repeat (first | refine blk_drewN ?_ _ | refine blk_drew ?_ | refine blk_alloc ?_ _)); refine blk_far ?_ NB427_426.out _; (with_reducible repeat (first | refine blk_drewN ?_ _ | refine blk_drew ?_ | refine blk_alloc ?_ _)); refine blk_far ?_ NB427_425.out _; (with_reducible repeat (first | refine blk_drewN ?_ _ | refine blk_drew ?_ | refine blk_alloc ?_ _)); exact BK427.out⟩, ⟨bS⟩⟩
      rw [if_pos c165] at H
      have c165b0 : (t430 == 9) = true := beq_iff_eq.mpr c165
      have c165b1 : (t430 != 9) = false := bne_eq_false_iff_eq.mpr c165
      clear c165
      have H' := am H
      clear H
      have hnb166 := NB431_425.out
      have hnc166 := NB425_431.out
      have hnb167 := NB431_426.out
      have hnc167 := NB426_431.out
      have hnb168 := NB431_427.out
      have hnc168 := NB427_431.out
      have hnb169 := NB431_429.out
      have hnc169 := NB429_431.out
      have hcz170_0 := bc BK431.out 0 (.int .i64 t430)
      have hfz170_0 := blk_frozen BK431.out 0
      have hnb171 := NB425_426.out
      have hnc171 := NB426_425.out
      have hnb172 := NB425_427.out
      have hnc172 := NB427_425.out
      have hnb173 := NB425_429.out
      have hnc173 := NB429_425.out
      have hcz174_0 := bc BK425.out 0 (.bool x426000_1)
      have hfz174_0 := blk_frozen BK425.out 0
      have hnb175 := NB429_426.out
      have hnc175 := NB426_429.out
      have hnb176 := NB429_427.out
      have hnc176 := NB427_429.out
      have hcz177_0 := bc BK429.out 0 (.int .i64 (rd l0 x17_1))
      have hfz177_0 := blk_frozen BK429.out 0
      have hnb178 := NB426_427.out
      have hnc178 := NB427_426.out
      have hcz179_0 := bc BK426.out 0 (.bool x427000_1)
      have hfz179_0 := blk_frozen BK426.out 0
      have hcz180_0 := bc BK427.out 0 (.int .i64 x428000_1)
      have hfz180_0 := blk_frozen BK427.out 0
      go_wp2
      go_roundg kj18
      case measure => have := HK1.out; have := HJ18.out; omega
      case rel => exact ⟨(x3_18), (wrap64 (x17_1 + 1)), ((t430 == 8)), (true), (wrap64 (x428000_1 + 1)), sr, H', ⟨kl⟩, ⟨kR (Kd.R_mono (Kd.R_far (p := ⟨gb427, 0, none⟩) (Kd.R_far (p := ⟨gb426, 0, none⟩) (Kd.R_far (p := ⟨gb425, 0, none⟩) (Kd.R_types (Kd.R_mono (Kd.R_mono HO_3.out (fun k_ hk => (⟨hk, hk.1⟩ : _ ∧ k_ ≠ gb425))) (fun k_ hk => (⟨hk, hk.1.2⟩ : _ ∧ k_ ≠ gb426))) BK427.out (by decide)) (fun _ hk => hk.1.1.2) (.bool (t430 == 8))) (fun _ hk => hk.1.2) (.bool true)) (fun _ hk => hk.2) (.int .i64 (wrap64 (x428000_1 + 1)))) (fun _ hk => ⟨hk.1.1.1.1, hk.1.1.1.2⟩))⟩, ⟨by (with_reducible repeat (first | refine blk_drewN ?_ _ | refine blk_drew ?_ | refine blk_alloc ?_ _)); refine blk_far ?_ NB425_427.out _; (with_reducible repeat (first | refine blk_drewN ?_ _ | refine blk_drew ?_ | refine blk_alloc ?_ _)); refine blk_far ?_ NB425_426.out _; (with_reducible repeat (first | refine blk_drewN ?_ _ | refine blk_drew ?_ | refine blk_alloc ?_ _)); refine blk_put (cs := #[.bool x426000_1]) ?_ 0 _ rfl; (with_reducible repeat (first | refine blk_drewN ?_ _ | refine blk_drew ?_ | refine blk_alloc ?_ _)); exact BK425.out⟩, ⟨by (with_reducible repeat (first | refine blk_drewN ?_ _ | refine blk_drew ?_ | refine blk_alloc ?_ _)); refine blk_far ?_ NB426_427.out _; (with_reducible repeat (first | refine blk_drewN ?_ _ | refine blk_drew ?_ | refine blk_alloc ?_ _)); refine blk_put (cs := #[.bool x427000_1]) ?_ 0 _ rfl; (with_reducible repeat (first | refine blk_drewN ?_ _ | refine blk_drew ?_ | refine blk_alloc ?_ _)); refine blk_far ?_ NB426_425.out _; (with_reducible repeat (first | refine blk_drewN ?_ _ | refine blk_drew ?_ | refine blk_alloc ?_ _)); exact BK426.out⟩, ⟨by (with_reducible repeat (first | refine blk_drewN ?_ _ | refine blk_drew ?_ | refine blk_alloc ?_ _)); refine blk_put (cs := #[.int .i64 x428000_1]) ?_ 0 _ rfl; (with_reducible repeat (first | refine blk_drewN ?_ _ | refine blk_drew ?_ | refine blk_alloc ?_ _)); refine blk_far ?_ NB427_426.out _; (with_reducible repeat (first | refine blk_drewN ?_ _ | refine blk_drew ?_ | refine blk_alloc ?_ _)); refine blk_far ?_ NB427_425.out _; (with_reducible repeat (first | refine blk_drewN ?_ _ | refine blk_drew ?_ | refine blk_alloc ?_ _)); exact BK427.out⟩, ⟨bS⟩⟩
     rw [if_neg c164] at H
     have c164b0 : ((rd l0 x17_1) == 1584) = false := beq_eq_false_iff_ne.mpr c164
     have c164b1 : ((rd l0 x17_1) != 1584) = true := bne_iff_ne.mpr c164
     by_cases c196 : (rd l0 x17_1) = 1585
     rotate_left
     ·rw [if_neg c196] at H
      have c196b0 : ((rd l0 x17_1) == 1585) = false := beq_eq_false_iff_ne.mpr c196
      have c196b1 : ((rd l0 x17_1) != 1585) = true := bne_iff_ne.mpr c196
      by_cases c228 : t430 = 9
      rotate_left
      ·rw [if_neg c228] at H
       have c228b0 : (t430 == 9) = false := beq_eq_false_iff_ne.mpr c228
       have c228b1 : (t430 != 9) = true := bne_iff_ne.mpr c228
       have H' := am H
       clear H
       have hnb244 := NB431_425.out
       have hnc244 := NB425_431.out
       have hnb245 := NB431_426.out
       have hnc245 := NB426_431.out
       have hnb246 := NB431_427.out
       have hnc246 := NB427_431.out
       have hnb247 := NB431_429.out
       have hnc247 := NB429_431.out
       have hcz248_0 := bc BK431.out 0 (.int .i64 t430)
       have hfz248_0 := blk_frozen BK431.out 0
       have hnb249 := NB425_426.out
       have hnc249 := NB426_425.out
       have hnb250 := NB425_427.out
       have hnc250 := NB427_425.out
       have hnb251 := NB425_429.out
       have hnc251 := NB429_425.out
       have hcz252_0 := bc BK425.out 0 (.bool x426000_1)
       have hfz252_0 := blk_frozen BK425.out 0
       have hnb253 := NB429_426.out
       have hnc253 := NB426_429.out
       have hnb254 := NB429_427.out
       have hnc254 := NB427_429.out
       have hcz255_0 := bc BK429.out 0 (.int .i64 (rd l0 x17_1))
       have hfz255_0 := blk_frozen BK429.out 0
       have hnb256 := NB426_427.out
       have hnc256 := NB427_426.out
       have hcz257_0 := bc BK426.out 0 (.bool x427000_1)
       have hfz257_0 := blk_frozen BK426.out 0
       have hcz258_0 := bc BK427.out 0 (.int .i64 x428000_1)
       have hfz258_0 := blk_frozen BK427.out 0
       go_wp2
       go_roundg kj18
       case measure => have := HK1.out; have := HJ18.out; omega
       case rel => exact ⟨(x3_18), (wrap64 (x17_1 + 1)), ((t430 == 8)), (false), (0), sr, H', ⟨kl⟩, ⟨kR (Kd.R_mono (Kd.R_far (p := ⟨gb427, 0, none⟩) (Kd.R_far (p := ⟨gb426, 0, none⟩) (Kd.R_far (p := ⟨gb425, 0, none⟩) (Kd.R_types (Kd.R_mono (Kd.R_mono HO_3.out (fun k_ hk => (⟨hk, hk.1⟩ : _ ∧ k_ ≠ gb425))) (fun k_ hk => (⟨hk, hk.1.2⟩ : _ ∧ k_ ≠ gb426))) BK427.out (by decide)) (fun _ hk => hk.1.1.2) (.bool (t430 == 8))) (fun _ hk => hk.1.2) (.bool false)) (fun _ hk => hk.2) (.int .i64 0)) (fun _ hk => ⟨hk.1.1.1.1, hk.1.1.1.2⟩))⟩, ⟨by (with_reducible repeat (first | refine blk_drewN ?_ _ | refine blk_drew ?_ | refine blk_alloc ?_ _)); refine blk_far ?_ NB425_427.out _; (with_reducible repeat (first | refine blk_drewN ?_ _ | refine blk_drew ?_ | refine blk_alloc ?_ _)); refine blk_far ?_ NB425_426.out _; (with_reducible repeat (first | refine blk_drewN ?_ _ | refine blk_drew ?_ | refine blk_alloc ?_ _)); refine blk_put (cs := #[.bool x426000_1]) ?_ 0 _ rfl; (with_reducible repeat (first | refine blk_drewN ?_ _ | refine blk_drew ?_ | refine blk_alloc ?_ _)); exact BK425.out⟩, ⟨by (with_reducible repeat (first | refine blk_drewN ?_ _ | refine blk_drew ?_ | refine blk_alloc ?_ _)); refine blk_far ?_ NB426_427.out _; (with_reducible repeat (first | refine blk_drewN ?_ _ | refine blk_drew ?_ | refine blk_alloc ?_ _)); refine blk_put (cs := #[.bool x427000_1]) ?_ 0 _ rfl; (with_reducible repeat (first | refine blk_drewN ?_ _ | refine blk_drew ?_ | refine blk_alloc ?_ _)); refine blk_far ?_ NB426_425.out _; (with_reducible repeat (first | refine blk_drewN ?_ _ | refine blk_drew ?_ | refine blk_alloc ?_ _)); exact BK426.out⟩, ⟨by (with_reducible repeat (first | refine blk_drewN ?_ _ | refine blk_drew ?_ | refine blk_alloc ?_ _)); refine blk_put (cs := #[.int .i64 x428000_1]) ?_ 0 _ rfl; (with_reducible repeat (first | refine blk_drewN ?_ _ | refine blk_drew ?_ | refine blk_alloc ?_ _)); refine blk_far ?_ NB427_426.out _; (with_reducible repeat (first | refine blk_drewN ?_ _ | refine blk_drew ?_ | refine blk_alloc ?_ _)); refine blk_far ?_ NB427_425.out _; (with_reducible repeat (first | refine blk_drewN ?_ _ | refine blk_drew ?_ | refine blk_alloc ?_ _)); exact BK427.out⟩, ⟨bS⟩⟩
      rw [if_pos c228] at H
      have c228b0 : (t430 == 9) = true := beq_iff_eq.mpr c228
      have c228b1 : (t430 != 9) = false := bne_eq_false_iff_eq.mpr c228
      clear c228
      have H' := am H
      clear H
      have hnb229 := NB431_425.out
      have hnc229 := NB425_431.out
      have hnb230 := NB431_426.out
      have hnc230 := NB426_431.out
      have hnb231 := NB431_427.out
      have hnc231 := NB427_431.out
      have hnb232 := NB431_429.out
      have hnc232 := NB429_431.out
      have hcz233_0 := bc BK431.out 0 (.int .i64 t430)
      have hfz233_0 := blk_frozen BK431.out 0
      have hnb234 := NB425_426.out
      have hnc234 := NB426_425.out
      have hnb235 := NB425_427.out
      have hnc235 := NB427_425.out
      have hnb236 := NB425_429.out
      have hnc236 := NB429_425.out
      have hcz237_0 := bc BK425.out 0 (.bool x426000_1)
      have hfz237_0 := blk_frozen BK425.out 0
      have hnb238 := NB429_426.out
      have hnc238 := NB426_429.out
      have hnb239 := NB429_427.out
      have hnc239 := NB427_429.out
      have hcz240_0 := bc BK429.out 0 (.int .i64 (rd l0 x17_1))
      have hfz240_0 := blk_frozen BK429.out 0
      have hnb241 := NB426_427.out
      have hnc241 := NB427_426.out
      have hcz242_0 := bc BK426.out 0 (.bool x427000_1)
      have hfz242_0 := blk_frozen BK426.out 0
      have hcz243_0 := bc BK427.out 0 (.int .i64 x428000_1)
      have hfz243_0 := blk_frozen BK427.out 0
      go_wp2
      go_roundg kj18
      case measure => have := HK1.out; have := HJ18.out; omega
      case rel => exact ⟨(x3_18), (wrap64 (x17_1 + 1)), ((t430 == 8)), (false), (wrap64 (x428000_1 + 1)), sr, H', ⟨kl⟩, ⟨kR (Kd.R_mono (Kd.R_far (p := ⟨gb427, 0, none⟩) (Kd.R_far (p := ⟨gb426, 0, none⟩) (Kd.R_far (p := ⟨gb425, 0, none⟩) (Kd.R_types (Kd.R_mono (Kd.R_mono HO_3.out (fun k_ hk => (⟨hk, hk.1⟩ : _ ∧ k_ ≠ gb425))) (fun k_ hk => (⟨hk, hk.1.2⟩ : _ ∧ k_ ≠ gb426))) BK427.out (by decide)) (fun _ hk => hk.1.1.2) (.bool (t430 == 8))) (fun _ hk => hk.1.2) (.bool false)) (fun _ hk => hk.2) (.int .i64 (wrap64 (x428000_1 + 1)))) (fun _ hk => ⟨hk.1.1.1.1, hk.1.1.1.2⟩))⟩, ⟨by (with_reducible repeat (first | refine blk_drewN ?_ _ | refine blk_drew ?_ | refine blk_alloc ?_ _)); refine blk_far ?_ NB425_427.out _; (with_reducible repeat (first | refine blk_drewN ?_ _ | refine blk_drew ?_ | refine blk_alloc ?_ _)); refine blk_far ?_ NB425_426.out _; (with_reducible repeat (first | refine blk_drewN ?_ _ | refine blk_drew ?_ | refine blk_alloc ?_ _)); refine blk_put (cs := #[.bool x426000_1]) ?_ 0 _ rfl; (with_reducible repeat (first | refine blk_drewN ?_ _ | refine blk_drew ?_ | refine blk_alloc ?_ _)); exact BK425.out⟩, ⟨by (with_reducible repeat (first | refine blk_drewN ?_ _ | refine blk_drew ?_ | refine blk_alloc ?_ _)); refine blk_far ?_ NB426_427.out _; (with_reducible repeat (first | refine blk_drewN ?_ _ | refine blk_drew ?_ | refine blk_alloc ?_ _)); refine blk_put (cs := #[.bool x427000_1]) ?_ 0 _ rfl; (with_reducible repeat (first | refine blk_drewN ?_ _ | refine blk_drew ?_ | refine blk_alloc ?_ _)); refine blk_far ?_ NB426_425.out _; (with_reducible repeat (first | refine blk_drewN ?_ _ | refine blk_drew ?_ | refine blk_alloc ?_ _)); exact BK426.out⟩, ⟨by (with_reducible repeat (first | refine blk_drewN ?_ _ | refine blk_drew ?_ | refine blk_alloc ?_ _)); refine blk_put (cs := #[.int .i64 x428000_1]) ?_ 0 _ rfl; (with_reducible repeat (first | refine blk_drewN ?_ _ | refine blk_drew ?_ | refine blk_alloc ?_ _)); refine blk_far ?_ NB427_426.out _; (with_reducible repeat (first | refine blk_drewN ?_ _ | refine blk_drew ?_ | refine blk_alloc ?_ _)); refine blk_far ?_ NB427_425.out _; (with_reducible repeat (first | refine blk_drewN ?_ _ | refine blk_drew ?_ | refine blk_alloc ?_ _)); exact BK427.out⟩, ⟨bS⟩⟩
     rw [if_pos c196] at H
     have c196b0 : ((rd l0 x17_1) == 1585) = true := beq_iff_eq.mpr c196
     have c196b1 : ((rd l0 x17_1) != 1585) = false := bne_eq_false_iff_eq.mpr c196
     clear c196
     by_cases c197 : t430 = 9
     rotate_left
     ·rw [if_neg c197] at H
      have c197b0 : (t430 == 9) = false := beq_eq_false_iff_ne.mpr c197
      have c197b1 : (t430 != 9) = true := bne_iff_ne.mpr c197
      have H' := am H
      clear H
      have hnb213 := NB431_425.out
      have hnc213 := NB425_431.out
      have hnb214 := NB431_426.out
      have hnc214 := NB426_431.out
      have hnb215 := NB431_427.out
      have hnc215 := NB427_431.out
      have hnb216 := NB431_429.out
      have hnc216 := NB429_431.out
      have hcz217_0 := bc BK431.out 0 (.int .i64 t430)
      have hfz217_0 := blk_frozen BK431.out 0
      have hnb218 := NB425_426.out
      have hnc218 := NB426_425.out
      have hnb219 := NB425_427.out
      have hnc219 := NB427_425.out
      have hnb220 := NB425_429.out
      have hnc220 := NB429_425.out
      have hcz221_0 := bc BK425.out 0 (.bool x426000_1)
      have hfz221_0 := blk_frozen BK425.out 0
      have hnb222 := NB429_426.out
      have hnc222 := NB426_429.out
      have hnb223 := NB429_427.out
      have hnc223 := NB427_429.out
      have hcz224_0 := bc BK429.out 0 (.int .i64 (rd l0 x17_1))
      have hfz224_0 := blk_frozen BK429.out 0
      have hnb225 := NB426_427.out
      have hnc225 := NB427_426.out
      have hcz226_0 := bc BK426.out 0 (.bool x427000_1)
      have hfz226_0 := blk_frozen BK426.out 0
      have hcz227_0 := bc BK427.out 0 (.int .i64 x428000_1)
      have hfz227_0 := blk_frozen BK427.out 0
      go_wp2
      go_roundg kj18
      case measure => have := HK1.out; have := HJ18.out; omega
      case rel => exact ⟨(x3_18), (wrap64 (x17_1 + 1)), ((t430 == 8)), (x427000_1), (0), sr, H', ⟨kl⟩, ⟨kR (Kd.R_mono (Kd.R_far (p := ⟨gb427, 0, none⟩) (Kd.R_far (p := ⟨gb426, 0, none⟩) (Kd.R_far (p := ⟨gb425, 0, none⟩) (Kd.R_types (Kd.R_mono (Kd.R_mono HO_3.out (fun k_ hk => (⟨hk, hk.1⟩ : _ ∧ k_ ≠ gb425))) (fun k_ hk => (⟨hk, hk.1.2⟩ : _ ∧ k_ ≠ gb426))) BK427.out (by decide)) (fun _ hk => hk.1.1.2) (.bool (t430 == 8))) (fun _ hk => hk.1.2) (.bool x427000_1)) (fun _ hk => hk.2) (.int .i64 0)) (fun _ hk => ⟨hk.1.1.1.1, hk.1.1.1.2⟩))⟩, ⟨by (with_reducible repeat (first | refine blk_drewN ?_ _ | refine blk_drew ?_ | refine blk_alloc ?_ _)); refine blk_far ?_ NB425_427.out _; (with_reducible repeat (first | refine blk_drewN ?_ _ | refine blk_drew ?_ | refine blk_alloc ?_ _)); refine blk_far ?_ NB425_426.out _; (with_reducible repeat (first | refine blk_drewN ?_ _ | refine blk_drew ?_ | refine blk_alloc ?_ _)); refine blk_put (cs := #[.bool x426000_1]) ?_ 0 _ rfl; (with_reducible repeat (first | refine blk_drewN ?_ _ | refine blk_drew ?_ | refine blk_alloc ?_ _)); exact BK425.out⟩, ⟨by (with_reducible repeat (first | refine blk_drewN ?_ _ | refine blk_drew ?_ | refine blk_alloc ?_ _)); refine blk_far ?_ NB426_427.out _; (with_reducible repeat (first | refine blk_drewN ?_ _ | refine blk_drew ?_ | refine blk_alloc ?_ _)); refine blk_put (cs := #[.bool x427000_1]) ?_ 0 _ rfl; (with_reducible repeat (first | refine blk_drewN ?_ _ | refine blk_drew ?_ | refine blk_alloc ?_ _)); refine blk_far ?_ NB426_425.out _; (with_reducible repeat (first | refine blk_drewN ?_ _ | refine blk_drew ?_ | refine blk_alloc ?_ _)); exact BK426.out⟩, ⟨by (with_reducible repeat (first | refine blk_drewN ?_ _ | refine blk_drew ?_ | refine blk_alloc ?_ _)); refine blk_put (cs := #[.int .i64 x428000_1]) ?_ 0 _ rfl; (with_reducible repeat (first | refine blk_drewN ?_ _ | refine blk_drew ?_ | refine blk_alloc ?_ _)); refine blk_far ?_ NB427_426.out _; (with_reducible repeat (first | refine blk_drewN ?_ _ | refine blk_drew ?_ | refine blk_alloc ?_ _)); refine blk_far ?_ NB427_425.out _; (with_reducible repeat (first | refine blk_drewN ?_ _ | refine blk_drew ?_ | refine blk_alloc ?_ _)); exact BK427.out⟩, ⟨bS⟩⟩
     rw [if_pos c197] at H
     have c197b0 : (t430 == 9) = true := beq_iff_eq.mpr c197
     have c197b1 : (t430 != 9) = false := bne_eq_false_iff_eq.mpr c197
     clear c197
     have H' := am H
     clear H
     have hnb198 := NB431_425.out
     have hnc198 := NB425_431.out
     have hnb199 := NB431_426.out
     have hnc199 := NB426_431.out
     have hnb200 := NB431_427.out
     have hnc200 := NB427_431.out
     have hnb201 := NB431_429.out
     have hnc201 := NB429_431.out
     have hcz202_0 := bc BK431.out 0 (.int .i64 t430)
     have hfz202_0 := blk_frozen BK431.out 0
     have hnb203 := NB425_426.out
     have hnc203 := NB426_425.out
     have hnb204 := NB425_427.out
     have hnc204 := NB427_425.out
     have hnb205 := NB425_429.out
     have hnc205 := NB429_425.out
     have hcz206_0 := bc BK425.out 0 (.bool x426000_1)
     have hfz206_0 := blk_frozen BK425.out 0
     have hnb207 := NB429_426.out
     have hnc207 := NB426_429.out
     have hnb208 := NB429_427.out
     have hnc208 := NB427_429.out
     have hcz209_0 := bc BK429.out 0 (.int .i64 (rd l0 x17_1))
     have hfz209_0 := blk_frozen BK429.out 0
     have hnb210 := NB426_427.out
     have hnc210 := NB427_426.out
     have hcz211_0 := bc BK426.out 0 (.bool x427000_1)
     have hfz211_0 := blk_frozen BK426.out 0
     have hcz212_0 := bc BK427.out 0 (.int .i64 x428000_1)
     have hfz212_0 := blk_frozen BK427.out 0
     go_wp2
     go_roundg kj18
     case measure => have := HK1.out; have := HJ18.out; omega
     case rel => exact ⟨(x3_18), (wrap64 (x17_1 + 1)), ((t430 == 8)), (x427000_1), (wrap64 (x428000_1 + 1)), sr, H', ⟨kl⟩, ⟨kR (Kd.R_mono (Kd.R_far (p := ⟨gb427, 0, none⟩) (Kd.R_far (p := ⟨gb426, 0, none⟩) (Kd.R_far (p := ⟨gb425, 0, none⟩) (Kd.R_types (Kd.R_mono (Kd.R_mono HO_3.out (fun k_ hk => (⟨hk, hk.1⟩ : _ ∧ k_ ≠ gb425))) (fun k_ hk => (⟨hk, hk.1.2⟩ : _ ∧ k_ ≠ gb426))) BK427.out (by decide)) (fun _ hk => hk.1.1.2) (.bool (t430 == 8))) (fun _ hk => hk.1.2) (.bool x427000_1)) (fun _ hk => hk.2) (.int .i64 (wrap64 (x428000_1 + 1)))) (fun _ hk => ⟨hk.1.1.1.1, hk.1.1.1.2⟩))⟩, ⟨by (with_reducible repeat (first | refine blk_drewN ?_ _ | refine blk_drew ?_ | refine blk_alloc ?_ _)); refine blk_far ?_ NB425_427.out _; (with_reducible repeat (first | refine blk_drewN ?_ _ | refine blk_drew ?_ | refine blk_alloc ?_ _)); refine blk_far ?_ NB425_426.out _; (with_reducible repeat (first | refine blk_drewN ?_ _ | refine blk_drew ?_ | refine blk_alloc ?_ _)); refine blk_put (cs := #[.bool x426000_1]) ?_ 0 _ rfl; (with_reducible repeat (first | refine blk_drewN ?_ _ | refine blk_drew ?_ | refine blk_alloc ?_ _)); exact BK425.out⟩, ⟨by (with_reducible repeat (first | refine blk_drewN ?_ _ | refine blk_drew ?_ | refine blk_alloc ?_ _)); refine blk_far ?_ NB426_427.out _; (with_reducible repeat (first | refine blk_drewN ?_ _ | refine blk_drew ?_ | refine blk_alloc ?_ _)); refine blk_put (cs := #[.bool x427000_1]) ?_ 0 _ rfl; (with_reducible repeat (first | refine blk_drewN ?_ _ | refine blk_drew ?_ | refine blk_alloc ?_ _)); refine blk_far ?_ NB426_425.out _; (with_reducible repeat (first | refine blk_drewN ?_ _ | refine blk_drew ?_ | refine blk_alloc ?_ _)); exact BK426.out⟩, ⟨by (with_reducible repeat (first | refine blk_drewN ?_ _ | refine blk_drew ?_ | refine blk_alloc ?_ _)); refine blk_put (cs := #[.int .i64 x428000_1]) ?_ 0 _ rfl; (with_reducible repeat (first | refine blk_drewN ?_ _ | refine blk_drew ?_ | refine blk_alloc ?_ _)); refine blk_far ?_ NB427_426.out _; (with_reducible repeat (first | refine blk_drewN ?_ _ | refine blk_drew ?_ | refine blk_alloc ?_ _)); refine blk_far ?_ NB427_425.out _; (with_reducible repeat (first | refine blk_drewN ?_ _ | refine blk_drew ?_ | refine blk_alloc ?_ _)); exact BK427.out⟩, ⟨bS⟩⟩
end Go.Proofs.YtmlhnpggjkoinaaDoor.PFnExactWords

-- Written by a program of this session (wip/tools/myprint.py) that runs the kit's print with hooks of its own. Lean checks it.
import Derived.Test.YtmlhnpggjkoinaaDoorPFnExactWordsx0
import Derived.Test.YtmlhnpggjkoinaaDoorSlimStep
import Derived.Test.YtmlhnpggjkoinaaDoorSlimMore
import Derived.Test.YtmlhnpggjkoinaaDoorPFnExactWordsx12
import Derived.Test.YtmlhnpggjkoinaaDoorPFnExactWordsx13
import Derived.Test.YtmlhnpggjkoinaaDoorPFnExactWordsx20
namespace Go.Proofs.YtmlhnpggjkoinaaDoor.PFnExactWords
open Go.RowKit Go.Proofs.YtmlhnpggjkoinaaDoorW.PrintWords Go.Proofs.YtmlhnpggjkoinaaDoorW.PrintLast Go.Proofs.YtmlhnpggjkoinaaDoorW.PrintMore
attribute [local go_sem] max2_int min2_int max_two min_two max_three min_three max_four min_four   -- for this text's walks alone
set_option linter.unusedVariables false
set_option linter.unusedSimpArgs false

/-! ### impl_onlyPoints: function 59 -/
def impl_onlyPoints.l0 : Nat → List Int → List (S74) → Int → Int → Option (List Int)
 | 0, _, _, _, _ => none
 | k + 1, x3, x9, x10, x11 => if x11 < x10 then (if 0 ≤ x11 then (if x11 < (x9.length : Int) then (if x11 < (x3.length : Int) then (impl_onlyPoints.l0 k (x3.set (x11 : Int).toNat ((rd_T74 x9 x11).f0)) x9 x10 (wrap64 (x11 + 1))) else (none)) else (none)) else (none)) else (some x3)
def impl_onlyPoints.f (k : Nat) (l0 : List (S74)) : Option (List Int) := if 0 ≤ (l0.length : Int) then (if ((l0.length : Int) : Int).toNat ≤ 35184372088832 then (impl_onlyPoints.l0 k (List.replicate ((l0.length : Int) : Int).toNat 0) l0 (l0.length : Int) 0) else (none)) else (none)
set_option maxHeartbeats 8000000 in
set_option maxRecDepth 100000 in
theorem impl_onlyPoints.calls (k : Nat) (A0 : Option Addr) (c0 : Nat) (l0 : List (S74)) (r : List Int) (w : World) (hr0 : Kd.C k74 w A0 l0.length l0) (hc0 : l0.length ≤ c0) (h : impl_onlyPoints.f k l0 = some r) :
  Calls Tryd.prog 59 #[.slice A0 l0.length c0] w fun e w' => ∃ v0_ : Value, e = .returned (v0_) ∧ Kd.R (Kd.int .i64) 2 w' w.heap.size (fun _ => True) v0_ r ∧ Below w.heap.size w w' := by
 have hu74 := Tryd.underlying74
 have HR0 := am hr0
 have HC0 := am hc0
 clear hr0 hc0
 have HB := am (Below.refl w.heap.size w)
 have H : (if 0 ≤ (l0.length : Int) then (if ((l0.length : Int) : Int).toNat ≤ 35184372088832 then (impl_onlyPoints.l0 k (List.replicate ((l0.length : Int) : Int).toNat 0) l0 (l0.length : Int) 0) else (none)) else (none)) = some r := h
 clear h
 replace H := iteN H
 obtain ⟨c2, H⟩ := H
 have c2b0 := eq_true c2
 have c2b1 := decide_eq_true c2
 clear c2
 replace H := iteN H
 obtain ⟨c3, H⟩ := H
 have c3b0 := eq_true c3
 have c3b1 := decide_eq_true c3
 clear c3
 obtain ⟨y536, hy536⟩ : ∃ y_ : List Int, y_ = (List.replicate ((l0.length : Int) : Int).toNat 0) := ⟨_, rfl⟩
 replace H : (impl_onlyPoints.l0 k y536 l0 (l0.length : Int) 0) = some r := rY hy536
 have Ny536 := am hy536
 clear hy536
 have H' := am H
 clear H
 go_enter Tryd.func59, Tryd.ntmps59
 go_wp2_with (first | ((with_reducible refine gate_dst (N := 8) rfl ?_); refine Kd.R_make (Kd.int .i64) _ 2 rfl (N := 8) rfl 22 _ _ rfl (l0.length : Int) rfl rfl Tryd.underlying22 (.int .i64 0) 8 info2 rfl (by decide) (by omega) 0 (ok := fun _ => True) (okp := fun _ => True) rfl (fun _ hk => hk) trivial (od) (Nat.le_trans (Nat.mul_le_mul_right _ (od : (l0.length : Int).toNat ≤ 35184372088832)) (by omega)) (Below.refl _ _) (Nat.le_refl _) ?_; intro v537 w4 ho5 hb hg_ hnew_; clear hg_ hnew_; (first | rw [← Ny536.out] at ho5 | (simp only [Int.reduceToNat] at ho5; rw [← Ny536.out] at ho5)); have HO538 := am (Kd.R_lower ho5 (below_size bB)); replace HB := am (below_step bB hb); clear hb ho5))
 go_loopg [11] k (fun kq v11 w' => ∃ (x3_1 : List Int) (x11_1 : Int), v11 = .int .i64 x11_1 ∧ Aside0 (impl_onlyPoints.l0 kq x3_1 l0 (l0.length : Int) x11_1 = some r) ∧ Aside0 (kq ≤ k) ∧ Aside0 (Kd.R (Kd.int .i64) 2 w' w.heap.size (fun _ => True) v537 x3_1) ∧ Aside0 (Below w.heap.size w w'))
 case atStart => exact ⟨(y536), (0), sr, H', ⟨Nat.le_refl _⟩, ⟨kR HO538.out⟩, ⟨bB⟩⟩
 case round =>
  clear H'
  try clear c2b0
  try clear c2b1
  try clear c3b0
  try clear c3b1
  obtain ⟨x3_1, x11_1, rfl, HA, HK1, HO_3, HB⟩ := hrel
  cases gk with
  | zero => exact absurd HA.out (by simp [impl_onlyPoints.l0])
  | succ k1 =>
   have H := HA.out
   clear HA
   simp only [impl_onlyPoints.l0] at H
   by_cases c6 : x11_1 < (l0.length : Int)
   rotate_left
   ·rw [if_neg c6] at H
    have c6b0 := decide_eq_false c6
    clear c6
    obtain rfl := Option.some.inj H
    go_wp2
    go_ret
    exact ⟨_, rv, kR HO_3.out, bB⟩
   rw [if_pos c6] at H
   have c6b0 := decide_eq_true c6
   clear c6
   replace H := iteN H
   obtain ⟨c7, H⟩ := H
   have c7b0 := decide_eq_true c7
   clear c7
   replace H := iteN H
   obtain ⟨c8, H⟩ := H
   have c8b0 := decide_eq_true c8
   clear c8
   replace H := iteN H
   obtain ⟨c9, H⟩ := H
   have c9b0 := decide_eq_true c9
   clear c9
   obtain ⟨y541, hy541⟩ : ∃ y_ : List Int, y_ = (x3_1.set (x11_1 : Int).toNat ((rd_T74 l0 x11_1).f0)) := ⟨_, rfl⟩
   replace H : (impl_onlyPoints.l0 k1 y541 l0 (l0.length : Int) (wrap64 (x11_1 + 1))) = some r := rY hy541
   have Ny541 := am hy541
   clear hy541
   have H' := am H
   clear H
   have p539 : 0 ≤ (x11_1 : Int) := od
   have q539 : x11_1 < (l0.length : Int) := od
   obtain ⟨ad539, e539, hx539_0, hx539_1, hx539_2, hx539_3⟩ := at_T74 HR0.out x11_1 p539 q539
   cases e539
   replace hx539_0 := cl HB hx539_0
   replace hx539_1 := cl HB hx539_1
   replace hx539_2 := cl HB hx539_2
   replace hx539_3 := cl HB hx539_3
   replace p539 := eq_true p539; replace q539 := eq_true q539
   go_wp2_with (first | ((with_reducible refine gate_dst (N := 5) rfl ?_); refine bx 5 #[.int .i64 0, .int .i64 0, .int .i64 0, .bool false] 74 ?_; intro gb540 hg w11 hbox hb; replace HO_3 := am (Kd.R_below (kR HO_3.out) hb); have BK540 := am (hbox); have GW540 := am ((by rw [hg]; exact (below_size bB) : w.heap.size ≤ gb540)); have GE540 := am ((by rw [hg]; exact (below_size bB) : w.heap.size ≤ gb540)); replace HB := am (below_step bB hb); clear hb hbox hg; have hcz12_0 := bc BK540.out 0 (.int .i64 0); have hcz12_1 := bc BK540.out 1 (.int .i64 0); have hcz12_2 := bc BK540.out 2 (.int .i64 0); have hcz12_3 := bc BK540.out 3 (.bool false); have hfz12_0 := blk_frozen BK540.out 0; have hfz12_1 := blk_frozen BK540.out 1; have hfz12_2 := blk_frozen BK540.out 2; have hfz12_3 := blk_frozen BK540.out 3) | ((with_reducible refine gate_store (t := 74) (p := 5) rfl ?_); refine store_event (t := 74) (p := 5) (v := ?vo_w13) (w1 := ((((w11.setCell ⟨gb540, 0, none⟩ (.int .i64 ((rd_T74 l0 x11_1).f0))).setCell ⟨gb540, 1, none⟩ (.int .i64 ((rd_T74 l0 x11_1).f1))).setCell ⟨gb540, 2, none⟩ (.int .i64 ((rd_T74 l0 x11_1).f2))).setCell ⟨gb540, 3, none⟩ (.bool ((rd_T74 l0 x11_1).f3)))) ?hg ?ho ?hn ?hr ?_; (case ho => rfl); (case hg => rfl); (case hn => rfl); (case hr => first | (go_simp; done) | (go_simp; rfl)); intro w13 hw; have n0_ : Aside0 (Kd.R (Kd.int .i64) 2 w13 w.heap.size (fun _ => True) v537 x3_1) := ⟨(by rw [hw]; exact (kR (Kd.R_mono (Kd.R_far (p := ⟨gb540, 3, none⟩) (Kd.R_far (p := ⟨gb540, 2, none⟩) (Kd.R_far (p := ⟨gb540, 1, none⟩) (Kd.R_far (p := ⟨gb540, 0, none⟩) (Kd.R_types HO_3.out BK540.out (by decide)) (fun _ hk => hk.2) (.int .i64 ((rd_T74 l0 x11_1).f0))) (fun _ hk => hk.2) (.int .i64 ((rd_T74 l0 x11_1).f1))) (fun _ hk => hk.2) (.int .i64 ((rd_T74 l0 x11_1).f2))) (fun _ hk => hk.2) (.bool ((rd_T74 l0 x11_1).f3))) (fun _ hk => trivial))))⟩; have n1_ : Aside0 (w13.heap[gb540]? = some (.cells #[.int .i64 ((rd_T74 l0 x11_1).f0), .int .i64 ((rd_T74 l0 x11_1).f1), .int .i64 ((rd_T74 l0 x11_1).f2), .bool ((rd_T74 l0 x11_1).f3)] 74 (0, 0))) := ⟨(by rw [hw]; exact (by (with_reducible repeat (first | refine blk_drewN ?_ _ | refine blk_drew ?_ | refine blk_alloc ?_ _)); refine blk_put (cs := #[.int .i64 ((rd_T74 l0 x11_1).f0), .int .i64 ((rd_T74 l0 x11_1).f1), .int .i64 ((rd_T74 l0 x11_1).f2), .bool false]) ?_ 3 _ rfl; (with_reducible repeat (first | refine blk_drewN ?_ _ | refine blk_drew ?_ | refine blk_alloc ?_ _)); refine blk_put (cs := #[.int .i64 ((rd_T74 l0 x11_1).f0), .int .i64 ((rd_T74 l0 x11_1).f1), .int .i64 0, .bool false]) ?_ 2 _ rfl; (with_reducible repeat (first | refine blk_drewN ?_ _ | refine blk_drew ?_ | refine blk_alloc ?_ _)); refine blk_put (cs := #[.int .i64 ((rd_T74 l0 x11_1).f0), .int .i64 0, .int .i64 0, .bool false]) ?_ 1 _ rfl; (with_reducible repeat (first | refine blk_drewN ?_ _ | refine blk_drew ?_ | refine blk_alloc ?_ _)); refine blk_put (cs := #[.int .i64 0, .int .i64 0, .int .i64 0, .bool false]) ?_ 0 _ rfl; (with_reducible repeat (first | refine blk_drewN ?_ _ | refine blk_drew ?_ | refine blk_alloc ?_ _)); exact BK540.out))⟩; have n2_ : Aside0 (Below w.heap.size w w13) := ⟨(by rw [hw]; exact bS)⟩; clear hw; clear HO_3; clear BK540; clear HB; have HO_3 := n0_; have BK540 := n1_; have HB := n2_; clear n0_ n1_ n2_; have hcz14_0 := bc BK540.out 0 (.int .i64 ((rd_T74 l0 x11_1).f0)); have hcz14_1 := bc BK540.out 1 (.int .i64 ((rd_T74 l0 x11_1).f1)); have hcz14_2 := bc BK540.out 2 (.int .i64 ((rd_T74 l0 x11_1).f2)); have hcz14_3 := bc BK540.out 3 (.bool ((rd_T74 l0 x11_1).f3)); have hfz14_0 := blk_frozen BK540.out 0; have hfz14_1 := blk_frozen BK540.out 1; have hfz14_2 := blk_frozen BK540.out 2; have hfz14_3 := blk_frozen BK540.out 3; have p10 : 0 ≤ (x11_1 : Int) := od; have q10 : (x11_1 : Int) < ((x3_1.length : Int) : Int) := od; obtain ⟨go10, co10, eo10, gb10, gl10, cl10, HG10⟩ := Kd.R_form HO_3.out (by omega); (first | cases eo10 | (injection eo10 with ea_ en_ ec_; (first | subst ea_ | (injection ea_ with ea_; subst ea_)); subst ec_; clear en_)); have GB10 := am gb10; have GG10 := am HG10; clear gb10 gl10 HG10; obtain ⟨hx10_0, hf10_0⟩ := Kd.R_celln 0 HO_3.out (x11_1 : Int) p10 q10; replace p10 := eq_true p10; replace q10 := eq_true q10; obtain ⟨hy15_, hz15_⟩ := Kd.R_celln 0 HO_3.out (x11_1 : Int) (od) (od); have HP15 := Kd.R_putg HO_3.out (x11_1 : Int) ((rd_T74 l0 x11_1).f0)) | ((with_reducible refine gate_store (t := 2) (p := 20) rfl ?_); refine store_event (t := 2) (p := 20) (v := ?vo_w16) (w1 := (w13.setCell ⟨go10, (x11_1 : Int).toNat, none⟩ (.int .i64 ((rd_T74 l0 x11_1).f0)))) ?hg ?ho ?hn ?hr ?_; (case ho => rfl); (case hg => rfl); (case hn => rfl); (case hr => first | (go_simp; done) | (go_simp; rfl)); intro w16 hw; have hg : w13.grownBy w16 (some go10) := (by rw [hw]; exact HP15.2); have hp_ : Kd.R (Kd.int .i64) 2 w16 w.heap.size (fun _ => True) (.slice (some ⟨go10, 0, none⟩) x3_1.length co10) y541 := (by rw [hw, Ny541.out]; exact HP15.1); clear HP15; replace BK540 := am (blk_grown (g := gb540) (o := .cells #[.int .i64 ((rd_T74 l0 x11_1).f0), .int .i64 ((rd_T74 l0 x11_1).f1), .int .i64 ((rd_T74 l0 x11_1).f2), .bool ((rd_T74 l0 x11_1).f3)] 74 (0, 0)) (bk BK540.out) hg (Kd.R_ne HO_3.out BK540.out (by decide))); replace HO_3 := am (hp_); replace HB := am ((by rw [hw]; exact below_set (HB.out) GB10.out : Below w.heap.size w w16)); clear hg hw hp_))
   go_roundg k1
   case measure => have := HK1.out; omega
   case rel => exact ⟨(y541), (wrap64 (x11_1 + 1)), sr, H', ⟨kl⟩, ⟨kR HO_3.out⟩, ⟨bS⟩⟩
/-! ### impl_WordCuts: function 30 -/
def impl_WordCuts.j0 : Nat → ByteArray → List (S54) → Bool → Option (List Int)
 | 0, _, _, _ => none
 | k + 1, x0, x1, x12 => if x12 = true then (some ([] : List Int)) else ((impl_read.f k x0).bind fun t543 => ((impl_onlyPoints.f k t543).bind fun t546 => ((impl_wordCuts.f k t546 x1).bind fun t549 => ((impl_placesOf.f k t543 (x0.size : Int) t549).bind fun t552 => (some t552)))))
def impl_WordCuts.f (k : Nat) (a0 : ByteArray) (l1 : List (S54)) : Option (List Int) := (impl_long.f a0).bind fun t542 => (if t542 = true then (impl_WordCuts.j0 k a0 l1 true) else (impl_WordCuts.j0 k a0 l1 (decide ((l1.length : Int) > 1000))))
set_option maxHeartbeats 8000000 in
set_option maxRecDepth 100000 in
theorem impl_WordCuts.calls (k : Nat) (a0 : ByteArray) (A1 : Option Addr) (c1 : Nat) (l1 : List (S54)) (r : List Int) (w : World) (hr1 : Kd.C k54 w A1 l1.length l1) (hc1 : l1.length ≤ c1) (hG : GL w) (h : impl_WordCuts.f k a0 l1 = some r) :
  Calls Tryd.prog 30 #[.string a0, .slice A1 l1.length c1] w fun e w' => ∃ v0_ : Value, e = .returned (v0_) ∧ Kd.R (Kd.int .i64) 2 w' w.heap.size (fun _ => True) v0_ r ∧ Below w.heap.size w w' := by
 have HR1 := am hr1
 have HC1 := am hc1
 clear hr1 hc1
 have HGL := am hG
 clear hG
 have HB := am (Below.refl w.heap.size w)
 have H : ((impl_long.f a0).bind fun t542 => (if t542 = true then (impl_WordCuts.j0 k a0 l1 true) else (impl_WordCuts.j0 k a0 l1 (decide ((l1.length : Int) > 1000))))) = some r := h
 clear h
 have HC3 := am H
 clear H
 go_enter Tryd.func30, Tryd.ntmps30
 go_upto_region 1 with (fail)
 go_cut [12] (fun v12 wc => ∃ (kq : Nat) (x12_2 : Bool), v12 = .bool x12_2 ∧ Aside0 (impl_WordCuts.j0 kq a0 l1 x12_2 = some r) ∧ Aside0 (kq ≤ k) ∧ Aside0 (Below w.heap.size w wc))
 case first =>
  have H := HC3.out
  clear HC3
  obtain ⟨t542, A4, H⟩ := bb H
  by_cases c5 : t542 = true
  ·subst c5
   replace H := iT H
   have H' := am H
   clear H
   go_wp2_with (first | ((with_reducible refine gate_callee (f := 49) rfl ?_); refine gq 7 Tryd.func49 (impl_long.calls a0 true _ A4.out) fun nd => ?_))
   go_meet
   case rel => exact ⟨_, (true), sr, H', ⟨kl⟩, ⟨bB⟩⟩
  replace c5 := Bool.eq_false_iff.mpr c5
  subst c5
  replace H := iF H
  have H' := am H
  clear H
  go_wp2_with (first | ((with_reducible refine gate_callee (f := 49) rfl ?_); refine gq 7 Tryd.func49 (impl_long.calls a0 false _ A4.out) fun nd => ?_))
  go_meet
  case rel => exact ⟨_, (decide ((l1.length : Int) > 1000)), sr, H', ⟨kl⟩, ⟨bB⟩⟩
 case rest =>
  clear HC3
  try clear c1
  obtain ⟨kq, x12_2, rfl, HA, HJ2, HB⟩ := hcut
  cases kq with
  | zero => exact absurd HA.out (by simp [impl_WordCuts.j0])
  | succ kj2 =>
   have H := HA.out
   clear HA
   simp only [impl_WordCuts.j0] at H
   by_cases c6 : x12_2 = true
   ·subst c6
    replace H := iT H
    obtain rfl := Option.some.inj H
    go_wp2
    go_ret
    exact ⟨_, rv, by first | exact Kd.R_nil _ _ _ _ _ | exact Kd.N_nil _ _ _ _ _ | exact Kd.V_nil _ _ _ _ _ | exact Kd.Q_nil _ _ _ _ _ | exact Kd.S_nil _ _ _ _ _, bB⟩
   replace c6 := Bool.eq_false_iff.mpr c6
   subst c6
   replace H := iF H
   obtain ⟨t543, A7, H⟩ := bb H
   obtain ⟨t546, A8, H⟩ := bb H
   obtain ⟨t549, A9, H⟩ := bb H
   obtain ⟨t552, A10, H⟩ := bb H
   obtain rfl := Option.some.inj H
   go_wp2_with (first | ((with_reducible refine gate_callee (f := 56) rfl ?_); refine gl 14 Tryd.func56 #[.string a0] ?_; (with_reducible refine (impl_read.calls kj2 a0 t543 _ ?side1 A7.out).mono ?_); (case side1 => first | exact HGL.out | exact GL_below HGL.out bB); rintro e w11 ⟨v544, rfl, ho0, hb⟩; refine ⟨_, rfl, ?_⟩; have HO545 := am (Kd.R_lower ho0 (below_size bB)); replace HB := am (below_step bB hb); (try clear hb); (try clear ho0); obtain ⟨Ao12, co12, eo12⟩ := Kd.R_slice HO545.out; subst eo12) | ((with_reducible refine gate_callee (f := 59) rfl ?_); refine gl 19 Tryd.func59 #[.slice Ao12 t543.length co12] ?_; (with_reducible refine (impl_onlyPoints.calls kj2 _ _ t543 t546 _ ?side1 ?side2 A8.out).mono ?_); (case side1 => repeat (first | exact (Kd.R_reads' HO545.out).2.2 | (with_reducible refine Kd.C_alloc ?_ _) | (with_reducible refine Kd.C_drewN ?_ _) | (with_reducible refine Kd.C_drew ?_))); (case side2 => exact (Kd.R_reads' HO545.out).2.1); rintro e w13 ⟨v547, rfl, ho0, hb⟩; refine ⟨_, rfl, ?_⟩; replace HO545 := am (Kd.R_below (kR HO545.out) hb); have HO548 := am (Kd.R_lower ho0 (below_size bB)); replace HB := am (below_step bB hb); (try clear hb); (try clear ho0); obtain ⟨Ao14, co14, eo14⟩ := Kd.R_slice HO548.out; subst eo14) | ((with_reducible refine gate_callee (f := 58) rfl ?_); refine gl 21 Tryd.func58 #[.slice Ao14 t546.length co14, .slice A1 l1.length c1] ?_; (with_reducible refine (impl_wordCuts.calls kj2 _ _ t546 _ _ l1 t549 _ ?side1 ?side2 ?side3 ?side4 A9.out).mono ?_); (case side1 => repeat (first | exact (Kd.R_reads' HO548.out).2.2 | (with_reducible refine Kd.C_alloc ?_ _) | (with_reducible refine Kd.C_drewN ?_ _) | (with_reducible refine Kd.C_drew ?_))); (case side2 => exact (Kd.R_reads' HO548.out).2.1); (case side3 => exact cC (Kd.C_below HR1.out HB.out)); (case side4 => exact HC1.out); rintro e w15 ⟨v550, rfl, ho0, hb⟩; refine ⟨_, rfl, ?_⟩; replace HO545 := am (Kd.R_below (kR HO545.out) hb); replace HO548 := am (Kd.R_below (kR HO548.out) hb); have HO551 := am (Kd.R_lower ho0 (below_size bB)); replace HB := am (below_step bB hb); (try clear hb); (try clear ho0); obtain ⟨Ao16, co16, eo16⟩ := Kd.R_slice HO551.out; subst eo16) | ((with_reducible refine gate_callee (f := 57) rfl ?_); refine gl 22 Tryd.func57 #[.slice Ao12 t543.length co12, .int .i64 (a0.size : Int), .slice Ao16 t549.length co16] ?_; (with_reducible refine (impl_placesOf.calls kj2 _ _ t543 (a0.size : Int) _ _ t549 t552 _ ?side1 ?side2 ?side3 ?side4 A10.out).mono ?_); (case side1 => repeat (first | exact (Kd.R_reads' HO545.out).2.2 | (with_reducible refine Kd.C_alloc ?_ _) | (with_reducible refine Kd.C_drewN ?_ _) | (with_reducible refine Kd.C_drew ?_))); (case side2 => exact (Kd.R_reads' HO545.out).2.1); (case side3 => repeat (first | exact (Kd.R_reads' HO551.out).2.2 | (with_reducible refine Kd.C_alloc ?_ _) | (with_reducible refine Kd.C_drewN ?_ _) | (with_reducible refine Kd.C_drew ?_))); (case side4 => exact (Kd.R_reads' HO551.out).2.1); rintro e w17 ⟨v553, rfl, ho0, hb⟩; refine ⟨_, rfl, ?_⟩; replace HO545 := am (Kd.R_below (kR HO545.out) hb); replace HO551 := am (Kd.R_below (kR HO551.out) hb); have HO554 := am (Kd.R_lower (Kd.R_new' ho0 (Kd.R_lt (kR HO548.out))) (below_size bB)); replace HO548 := am (Kd.R_elder' (kR HO548.out) (Kd.R_base ho0) hb); replace HB := am (below_step bB hb); (try clear hb); (try clear ho0)))
   go_ret
   exact ⟨_, rv, by (with_reducible repeat (first | apply Kd.R_alloc | apply Kd.R_drewN | apply Kd.R_drew)); exact Kd.R_mono HO554.out (fun _ hk => trivial), bB⟩
/-! ### impl_piecesOf: function 64 -/
def impl_piecesOf.l0 : Nat → ByteArray → List Int → List ByteArray → Int → Option (List ByteArray)
 | 0, _, _, _, _ => none
 | k + 1, x0, x1, x5, x6 => if x6 < (x1.length : Int) then (if 0 ≤ (wrap64 (x6 - 1)) then (if (wrap64 (x6 - 1)) < (x1.length : Int) then (if 0 ≤ x6 then (if 0 ≤ (rd x1 (wrap64 (x6 - 1))) then (if (rd x1 (wrap64 (x6 - 1))) ≤ (rd x1 x6) then (if (rd x1 x6) ≤ (x0.size : Int) then (if x5.length < 8796093022208 then (impl_piecesOf.l0 k x0 x1 (x5 ++ [x0.extract ((rd x1 (wrap64 (x6 - 1))) : Int).toNat ((rd x1 x6) : Int).toNat]) (wrap64 (x6 + 1))) else (none)) else (none)) else (none)) else (none)) else (none)) else (none)) else (none)) else (some x5)
def impl_piecesOf.f (k : Nat) (a0 : ByteArray) (l1 : List Int) : Option (List ByteArray) := impl_piecesOf.l0 k a0 l1 ([] : List ByteArray) 1
def impl_piecesOf.T5 : Bool × List (List Nat × List Nat) := (true, [([], []), ([], []), ([], []), ([], []), ([3], [3]), ([2, 4], [2, 4]), ([5], [5]), ([], []), ([], []), ([7, 8], [7, 8]), ([9], [9]), ([1, 6, 10], [1, 6, 10]), ([11], [11]), ([0, 12], [0, 12]), ([13, 13, 0, 1, 2, 3, 4, 5, 6, 7, 8, 9, 10, 11, 12, 13], [0, 13])])
def impl_piecesOf.B5 : List Nat := [0, 0, 0, 0, 8, 28, 60, 0, 0, 384, 896, 2046, 4094, 8191, 16383]
theorem impl_piecesOf.tab5 : rtab .any (opsOf Tryd.f64 5) = impl_piecesOf.T5 := by kernel_rfl
theorem impl_piecesOf.bits5 : waitsOk impl_piecesOf.T5.2 impl_piecesOf.B5 = true := by kernel_rfl
set_option maxHeartbeats 8000000 in
set_option maxRecDepth 100000 in
theorem impl_piecesOf.calls (k : Nat) (a0 : ByteArray) (A1 : Option Addr) (c1 : Nat) (l1 : List Int) (r : List ByteArray) (w : World) (hr1 : Kd.C (Kd.int .i64) w A1 l1.length l1) (hc1 : l1.length ≤ c1) (h : impl_piecesOf.f k a0 l1 = some r) :
  Calls Tryd.prog 64 #[.string a0, .slice A1 l1.length c1] w fun e w' => ∃ v0_ : Value, e = .returned (v0_) ∧ Kd.R Kd.string 9 w' w.heap.size (fun _ => True) v0_ r ∧ Below w.heap.size w w' := by
 have HR1 := am hr1
 have HC1 := am hc1
 clear hr1 hc1
 have HB := am (Below.refl w.heap.size w)
 have H : (impl_piecesOf.l0 k a0 l1 ([] : List ByteArray) 1) = some r := h
 clear h
 have H' := am H
 clear H
 go_enter Tryd.func64, Tryd.ntmps64
 go_wp2
 go_loopg [5, 6] k (fun kq v5 v6 w' => ∃ (x5_1 : List ByteArray) (x6_1 : Int), v6 = .int .i64 x6_1 ∧ Aside0 (impl_piecesOf.l0 kq a0 l1 x5_1 x6_1 = some r) ∧ Aside0 (kq ≤ k) ∧ Aside0 (Kd.R Kd.string 9 w' w.heap.size (fun _ => True) v5 x5_1) ∧ Aside0 (Below w.heap.size w w'))
 case atStart => exact ⟨(([] : List ByteArray)), (1), sr, H', ⟨Nat.le_refl _⟩, ⟨by first | exact Kd.R_nil _ _ _ _ _ | exact Kd.N_nil _ _ _ _ _ | exact Kd.V_nil _ _ _ _ _ | exact Kd.Q_nil _ _ _ _ _ | exact Kd.S_nil _ _ _ _ _⟩, ⟨bB⟩⟩
 case round =>
  clear H'
  try clear c1
  obtain ⟨x5_1, x6_1, rfl, HA, HK1, HO_5, HB⟩ := hrel
  cases gk with
  | zero => exact absurd HA.out (by simp [impl_piecesOf.l0])
  | succ k1 =>
   have H := HA.out
   clear HA
   simp only [impl_piecesOf.l0] at H
   by_cases c3 : x6_1 < (l1.length : Int)
   rotate_left
   ·rw [if_neg c3] at H
    have c3b0 := decide_eq_false c3
    clear c3
    obtain rfl := Option.some.inj H
    go_wp2
    go_ret
    exact ⟨_, rv, kR HO_5.out, bB⟩
   rw [if_pos c3] at H
   have c3b0 := decide_eq_true c3
   clear c3
   obtain ⟨ji4, hji4⟩ : ∃ j_ : Int, (wrap64 (x6_1 - 1)) = j_ := ⟨_, rfl⟩
   replace H : (if 0 ≤ (ji4) then (if (ji4) < (l1.length : Int) then (if 0 ≤ x6_1 then (if 0 ≤ (rd l1 (ji4)) then (if (rd l1 (ji4)) ≤ (rd l1 x6_1) then (if (rd l1 x6_1) ≤ (a0.size : Int) then (if x5_1.length < 8796093022208 then (impl_piecesOf.l0 k1 a0 l1 (x5_1 ++ [a0.extract ((rd l1 (ji4)) : Int).toNat ((rd l1 x6_1) : Int).toNat]) (wrap64 (x6_1 + 1))) else (none)) else (none)) else (none)) else (none)) else (none)) else (none)) else (none)) = some r := by first | (rw [hji4] at H; exact H) | (simp only [hji4] at H ⊢; exact H)
   have hji4w : (IntKind.i64.wrap (x6_1 - 1)) = ji4 := (i64_w _).trans hji4
   replace H := iteN H
   obtain ⟨c5, H⟩ := H
   have c5b0 := decide_eq_true c5
   clear c5
   replace H := iteN H
   obtain ⟨c6, H⟩ := H
   have c6b0 := decide_eq_true c6
   clear c6
   replace H := iteN H
   obtain ⟨c7, H⟩ := H
   have c7b0 := decide_eq_true c7
   clear c7
   replace H := iteN H
   obtain ⟨c8, H⟩ := H
   have c8b0 := eq_true c8
   have c8b1 := decide_eq_true c8
   clear c8
   replace H := iteN H
   obtain ⟨c9, H⟩ := H
   have c9b0 := eq_true c9
   have c9b1 := decide_eq_true c9
   clear c9
   replace H := iteN H
   obtain ⟨c10, H⟩ := H
   have c10b0 := eq_true c10
   have c10b1 := decide_eq_true c10
   clear c10
   replace H := iteN H
   obtain ⟨c11, H⟩ := H
   have LMc11 := am c11
   clear c11
   obtain ⟨y557, hy557⟩ : ∃ y_ : List ByteArray, y_ = (x5_1 ++ [a0.extract ((rd l1 (ji4)) : Int).toNat ((rd l1 x6_1) : Int).toNat]) := ⟨_, rfl⟩
   replace H : (impl_piecesOf.l0 k1 a0 l1 y557 (wrap64 (x6_1 + 1))) = some r := rY hy557
   have Ny557 := am hy557
   clear hy557
   have H' := am H
   clear H
   try go_wp2
   replace HO_5 := am (Kd.R_drew HO_5.out)
   replace HB := am (below_drew1 HB.out)
   have p555 : 0 ≤ ((ji4) : Int) := od
   have q555 : (ji4) < (l1.length : Int) := od
   obtain ⟨ad555, e555, hx555_0⟩ := Kd.at_int HR1.out (ji4) p555 q555
   have hw555_0 := hx555_0
   cases e555
   replace hx555_0 := cl HB hx555_0
   replace p555 := eq_true p555; replace q555 := eq_true q555
   have p556 : 0 ≤ (x6_1 : Int) := od
   have q556 : x6_1 < (l1.length : Int) := od
   obtain ⟨ad556, e556, hx556_0⟩ := Kd.at_int HR1.out x6_1 p556 q556
   have hw556_0 := hx556_0
   obtain rfl : ad555 = ad556 := (by injection e556)
   replace hx556_0 := cl HB hx556_0
   replace p556 := eq_true p556; replace q556 := eq_true q556
   refine start_ (n := 15) (S := fun w' => w'.cell? (ad555.add ((ji4)).toNat) = some (.int .i64 (rd l1 (ji4))) ∧ w'.cell? (ad555.add (x6_1).toNat) = some (.int .i64 (rd l1 x6_1))) (ds := []) #[false, false, false, false, false, false, false, false, false, false, false, false, false, false, false] (by kernel_rfl) rfl rfl ⟨((HB.out.cell (World.block_lt_of_cell? w _ hw555_0)).trans hw555_0), ((HB.out.cell (World.block_lt_of_cell? w _ hw556_0)).trans hw556_0)⟩ (fun hHeld => ?_); refine with_tabW impl_piecesOf.tab5 impl_piecesOf.bits5 (fun HT_ HW_ => ?_)
   generalize wr.drew = w12 at HO_5 HB hx555_0 hx556_0 hHeld ⊢
   refine pq 0 13 HT_.out ?_
   refine pq 1 14 HT_.out ?_
   refine pq 2 15 HT_.out ?_
   refine pq 3 16 HT_.out ?_
   refine pq 4 17 HT_.out ?_
   refine pq 5 18 HT_.out ?_
   refine pq 7 20 HT_.out ?_
   refine pq 8 21 HT_.out ?_
   refine pq 9 22 HT_.out ?_
   refine take_ (i := 6) (N := some 19) (v := ?_) (a' := ?_) #[true, true, true, true, true, true, true, true, true, true, false, false, false, false, false] rfl rfl (take_ofW HT_.out HW_.out (by kernel_rfl)) (fun _ _ _ h => h) (Or.inl ⟨by rfl, ?_⟩) hHeld ?_ ?_
   rotate_left
   ·rintro w' ⟨s0, s1⟩
    go_simp
    with_reducible rfl
   rotate_left
   ·simp only [Act.put, List.setIfInBounds_toArray, List.set_cons_zero, List.set_cons_succ, i64_w, i32_w]
    rfl
   refine take_ (i := 10) (N := some 23) (v := ?_) (a' := ?_) #[true, true, true, true, true, true, true, true, true, true, true, false, false, false, false] rfl rfl (take_ofW HT_.out HW_.out (by kernel_rfl)) (fun _ _ _ h => h) (Or.inl ⟨by rfl, ?_⟩) hHeld ?_ ?_
   rotate_left
   ·rintro w' ⟨s0, s1⟩
    go_simp
    with_reducible rfl
   rotate_left
   ·simp only [Act.put, List.setIfInBounds_toArray, List.set_cons_zero, List.set_cons_succ, i64_w, i32_w]
    rfl
   refine pq 11 24 HT_.out ?_
   refine one_ (i := 12) (N := some 25) #[true, true, true, true, true, true, true, true, true, true, true, true, true, false, false] rfl rfl (one_of HT_.out (by kernel_rfl)) (by decide) (fun K hK => ?_)
   refine value_ (w1 := ?_) (v := ?_) (by rfl) rfl ?_ ?_
   rotate_left 2
   ·go_simp
    constructor
    ·rfl
    ·rfl
   refine hK.out _ _ ⟨(World.cell?_alloc_lt _ _ _ (World.block_lt_of_cell? _ _ (((HB.out.cell (World.block_lt_of_cell? w _ hw555_0)).trans hw555_0)))).trans (((HB.out.cell (World.block_lt_of_cell? w _ hw555_0)).trans hw555_0)), (World.cell?_alloc_lt _ _ _ (World.block_lt_of_cell? _ _ (((HB.out.cell (World.block_lt_of_cell? w _ hw556_0)).trans hw556_0)))).trans (((HB.out.cell (World.block_lt_of_cell? w _ hw556_0)).trans hw556_0))⟩ (fun hHeld => ?_)
   clear hK K
   refine norm_ (a' := ?_) ?_ ?_
   rotate_left
   ·show Act.put _ (some 25) _ = _
    simp only [Act.put, List.setIfInBounds_toArray, List.set_cons_zero, List.set_cons_succ, i64_w, i32_w]
    rfl
   refine one_ (i := 13) (N := some 26) #[true, true, true, true, true, true, true, true, true, true, true, true, true, true, false] rfl rfl (one_of HT_.out (by kernel_rfl)) (by decide) (fun K hK => ?_)
   refine Kd.R_append_step Kd.string (w0 := w) w.heap.size (by rfl) (.tmp 13) (.tmp 25) 27 9 (.string ⟨#[]⟩) 16 rfl Tryd.underlying27 info9 rfl (by decide) (by omega) u5 x5_1 (a0.extract ((rd l1 (ji4)) : Int).toNat ((rd l1 x6_1) : Int).toNat) [.string (a0.extract ((rd l1 (ji4)) : Int).toNat ((rd l1 x6_1) : Int).toNat)] (fun _ => True) (fun _ => False) rfl rfl ?aP (fun _ hk => hk.elim) ?aF ?aO ?aB ?aS ?aL ?_
   (case aP => exact rfl)
   (case aB => exact bB)
   (case aF => exact (fun _ _ => trivial))
   (case aO => exact (kR HO_5.out))
   (case aS => exact (below_size bB))
   (case aL => have := LMc11.out; omega)
   intro v558 w13 ho hb hg hat
   rw [← Ny557.out] at ho
   replace HB := am (hb)
   have HO559 := am (ho)
   clear HO_5
   clear ho hb hg hat
   refine hK.out _ _ ⟨((HB.out.cell (World.block_lt_of_cell? w _ hw555_0)).trans hw555_0), ((HB.out.cell (World.block_lt_of_cell? w _ hw556_0)).trans hw556_0)⟩ (fun hHeld => ?_)
   clear hK K
   refine norm_ (a' := ?_) ?_ ?_
   rotate_left
   ·show Act.put _ (some 26) _ = _
    simp only [Act.put, List.setIfInBounds_toArray, List.set_cons_zero, List.set_cons_succ, i64_w, i32_w]
    rfl
   refine pq 14 5 HT_.out ?_
   refine done_ (done_of HT_.out (by kernel_rfl)) ?_
   try go_wp2
   go_roundg k1
   case measure => have := HK1.out; omega
   case rel => exact ⟨(y557), (wrap64 (x6_1 + 1)), sr, H', ⟨kl⟩, ⟨kR HO559.out⟩, ⟨bB⟩⟩
/-! ### impl_points: function 65 -/
def impl_points.l0 : Nat → List Int → List (S74) → Int → Int → Option (List Int)
 | 0, _, _, _, _ => none
 | k + 1, x3, x7, x8, x9 => if x9 < x8 then (if 0 ≤ x9 then (if x9 < (x7.length : Int) then (if x3.length < 17592186044416 then (impl_points.l0 k (x3 ++ [(rd_T74 x7 x9).f0]) x7 x8 (wrap64 (x9 + 1))) else (none)) else (none)) else (none)) else (some x3)
def impl_points.f (k : Nat) (a0 : ByteArray) : Option (List Int) := (impl_read.f k a0).bind fun t560 => (impl_points.l0 k ([] : List Int) t560 (t560.length : Int) 0)
set_option maxHeartbeats 8000000 in
set_option maxRecDepth 100000 in
theorem impl_points.calls (k : Nat) (a0 : ByteArray) (r : List Int) (w : World) (hG : GL w) (h : impl_points.f k a0 = some r) :
  Calls Tryd.prog 65 #[.string a0] w fun e w' => ∃ v0_ : Value, e = .returned (v0_) ∧ Kd.R (Kd.int .i64) 2 w' w.heap.size (fun _ => True) v0_ r ∧ Below w.heap.size w w' := by
 have hu74 := Tryd.underlying74
 have HGL := am hG
 clear hG
 have HB := am (Below.refl w.heap.size w)
 have H : ((impl_read.f k a0).bind fun t560 => (impl_points.l0 k ([] : List Int) t560 (t560.length : Int) 0)) = some r := h
 clear h
 obtain ⟨t560, A2, H⟩ := bb H
 have H' := am H
 clear H
 go_enter Tryd.func65, Tryd.ntmps65
 go_wp2_with (first | ((with_reducible refine gate_callee (f := 56) rfl ?_); refine gl 7 Tryd.func56 #[.string a0] ?_; (with_reducible refine (impl_read.calls k a0 t560 _ ?side1 A2.out).mono ?_); (case side1 => first | exact HGL.out | exact GL_below HGL.out bB); rintro e w3 ⟨v561, rfl, ho0, hb⟩; refine ⟨_, rfl, ?_⟩; have HO562 := am (Kd.R_lower ho0 (below_size bB)); replace HB := am (below_step bB hb); (try clear hb); (try clear ho0); obtain ⟨Ao4, co4, eo4⟩ := Kd.R_slice HO562.out; subst eo4))
 go_loopg [3, 9] k (fun kq v3 v9 w' => ∃ (x3_1 : List Int) (x9_1 : Int), v9 = .int .i64 x9_1 ∧ Aside0 (impl_points.l0 kq x3_1 t560 (t560.length : Int) x9_1 = some r) ∧ Aside0 (kq ≤ k) ∧ Aside0 (Kd.R (Kd.int .i64) 2 w' w.heap.size (fun _ => True) v3 x3_1) ∧ Aside0 (Kd.R k74 74 w' w.heap.size (fun _ => True) (.slice Ao4 t560.length co4) t560) ∧ Aside0 (Below w.heap.size w w'))
 case atStart => exact ⟨(([] : List Int)), (0), sr, H', ⟨Nat.le_refl _⟩, ⟨by first | exact Kd.R_nil _ _ _ _ _ | exact Kd.N_nil _ _ _ _ _ | exact Kd.V_nil _ _ _ _ _ | exact Kd.Q_nil _ _ _ _ _ | exact Kd.S_nil _ _ _ _ _⟩, ⟨kR HO562.out⟩, ⟨bB⟩⟩
 case round =>
  clear H'
  obtain ⟨x3_1, x9_1, rfl, HA, HK1, HO_3, HO_7, HB⟩ := hrel
  cases gk with
  | zero => exact absurd HA.out (by simp [impl_points.l0])
  | succ k1 =>
   have H := HA.out
   clear HA
   simp only [impl_points.l0] at H
   by_cases c5 : x9_1 < (t560.length : Int)
   rotate_left
   ·rw [if_neg c5] at H
    have c5b0 := decide_eq_false c5
    clear c5
    obtain rfl := Option.some.inj H
    go_wp2
    go_ret
    exact ⟨_, rv, kR HO_3.out, bB⟩
   rw [if_pos c5] at H
   have c5b0 := decide_eq_true c5
   clear c5
   replace H := iteN H
   obtain ⟨c6, H⟩ := H
   have c6b0 := decide_eq_true c6
   clear c6
   replace H := iteN H
   obtain ⟨c7, H⟩ := H
   have c7b0 := decide_eq_true c7
   clear c7
   replace H := iteN H
   obtain ⟨c8, H⟩ := H
   have LMc8 := am c8
   clear c8
   obtain ⟨y565, hy565⟩ : ∃ y_ : List Int, y_ = (x3_1 ++ [(rd_T74 t560 x9_1).f0]) := ⟨_, rfl⟩
   replace H : (impl_points.l0 k1 y565 t560 (t560.length : Int) (wrap64 (x9_1 + 1))) = some r := rY hy565
   have Ny565 := am hy565
   clear hy565
   have H' := am H
   clear H
   have p563 : 0 ≤ (x9_1 : Int) := od
   have q563 : x9_1 < (t560.length : Int) := od
   obtain ⟨ad563, e563, hx563_0, hx563_1, hx563_2, hx563_3⟩ := at_T74 (Kd.R_reads' HO_7.out).2.2 x9_1 p563 q563
   cases e563
   replace p563 := eq_true p563; replace q563 := eq_true q563
   go_wp2_with (first | ((with_reducible refine gate_dst (N := 5) rfl ?_); refine bx 5 #[.int .i64 0, .int .i64 0, .int .i64 0, .bool false] 74 ?_; intro gb564 hg w9 hbox hb; replace HO_3 := am (Kd.R_below (kR HO_3.out) hb); replace HO_7 := am (Kd.R_below (Kd.R_elderB (kR HO_7.out) gb564 (Nat.le_of_eq hg.symm)) hb); have BK564 := am (hbox); have GW564 := am ((by rw [hg]; exact (below_size bB) : w.heap.size ≤ gb564)); have GE564 := am ((by rw [hg]; exact (below_size bB) : w.heap.size ≤ gb564)); replace HB := am (below_step bB hb); clear hb hbox hg; have hcz10_0 := bc BK564.out 0 (.int .i64 0); have hcz10_1 := bc BK564.out 1 (.int .i64 0); have hcz10_2 := bc BK564.out 2 (.int .i64 0); have hcz10_3 := bc BK564.out 3 (.bool false); have hfz10_0 := blk_frozen BK564.out 0; have hfz10_1 := blk_frozen BK564.out 1; have hfz10_2 := blk_frozen BK564.out 2; have hfz10_3 := blk_frozen BK564.out 3) | ((with_reducible refine gate_builtin (b := .append) (xs := #[.tmp 13, .tmp 16]) rfl ?_); at_builtin; refine Kd.R_append (Kd.int .i64) (w0 := w) w.heap.size rfl (.tmp 13) (.tmp 16) 22 2 (.int .i64 0) 8 rfl Tryd.underlying22 info2 rfl (by decide) (by omega) u3 x3_1 ((rd_T74 t560 x9_1).f0) [.int .i64 ((rd_T74 t560 x9_1).f0)] (fun _ => True) (fun _ => False) rfl (by first | (go_simp; done) | (go_simp; rfl)) ?aP (fun _ hk => hk.elim) ?aF ?aO ?aB ?aS ?aL ?_; (case aP => exact rfl); (case aB => exact bS); (case aF => exact (fun _ _ => trivial)); (case aO => exact (kR (Kd.R_mono (Kd.R_far (p := ⟨gb564, 3, none⟩) (Kd.R_far (p := ⟨gb564, 2, none⟩) (Kd.R_far (p := ⟨gb564, 1, none⟩) (Kd.R_far (p := ⟨gb564, 0, none⟩) (Kd.R_types HO_3.out BK564.out (by decide)) (fun _ hk => hk.2) (.int .i64 ((rd_T74 t560 x9_1).f0))) (fun _ hk => hk.2) (.int .i64 ((rd_T74 t560 x9_1).f1))) (fun _ hk => hk.2) (.int .i64 ((rd_T74 t560 x9_1).f2))) (fun _ hk => hk.2) (.bool ((rd_T74 t560 x9_1).f3))) (fun _ hk => trivial)))); (case aS => exact (below_size bS)); (case aL => have := LMc8.out; omega); intro v566 w11 ho hb hg hat; rw [← Ny565.out] at ho; replace HO_7 := am (Kd.R_over' (kR ((Kd.R_mono (Kd.R_far (p := ⟨gb564, 3, none⟩) (Kd.R_far (p := ⟨gb564, 2, none⟩) (Kd.R_far (p := ⟨gb564, 1, none⟩) (Kd.R_far (p := ⟨gb564, 0, none⟩) (Kd.R_mono HO_7.out (fun k_ hk => (⟨hk, hk.2⟩ : _ ∧ k_ ≠ gb564))) (fun _ hk => hk.2) (.int .i64 ((rd_T74 t560 x9_1).f0))) (fun _ hk => hk.2) (.int .i64 ((rd_T74 t560 x9_1).f1))) (fun _ hk => hk.2) (.int .i64 ((rd_T74 t560 x9_1).f2))) (fun _ hk => hk.2) (.bool ((rd_T74 t560 x9_1).f3))) (fun _ h_ => h_.1)))) (Kd.R_typed (kR ((Kd.R_mono (Kd.R_far (p := ⟨gb564, 3, none⟩) (Kd.R_far (p := ⟨gb564, 2, none⟩) (Kd.R_far (p := ⟨gb564, 1, none⟩) (Kd.R_far (p := ⟨gb564, 0, none⟩) (Kd.R_types HO_3.out BK564.out (by decide)) (fun _ hk => hk.2) (.int .i64 ((rd_T74 t560 x9_1).f0))) (fun _ hk => hk.2) (.int .i64 ((rd_T74 t560 x9_1).f1))) (fun _ hk => hk.2) (.int .i64 ((rd_T74 t560 x9_1).f2))) (fun _ hk => hk.2) (.bool ((rd_T74 t560 x9_1).f3))) (fun _ h_ => h_.1))))) (by decide) hg); replace BK564 := am (blk_grown (g := gb564) (o := .cells #[.int .i64 ((rd_T74 t560 x9_1).f0), .int .i64 ((rd_T74 t560 x9_1).f1), .int .i64 ((rd_T74 t560 x9_1).f2), .bool ((rd_T74 t560 x9_1).f3)] 74 (0, 0)) (by (with_reducible repeat (first | refine blk_drewN ?_ _ | refine blk_drew ?_ | refine blk_alloc ?_ _)); refine blk_put (cs := #[.int .i64 ((rd_T74 t560 x9_1).f0), .int .i64 ((rd_T74 t560 x9_1).f1), .int .i64 ((rd_T74 t560 x9_1).f2), .bool false]) ?_ 3 _ rfl; (with_reducible repeat (first | refine blk_drewN ?_ _ | refine blk_drew ?_ | refine blk_alloc ?_ _)); refine blk_put (cs := #[.int .i64 ((rd_T74 t560 x9_1).f0), .int .i64 ((rd_T74 t560 x9_1).f1), .int .i64 0, .bool false]) ?_ 2 _ rfl; (with_reducible repeat (first | refine blk_drewN ?_ _ | refine blk_drew ?_ | refine blk_alloc ?_ _)); refine blk_put (cs := #[.int .i64 ((rd_T74 t560 x9_1).f0), .int .i64 0, .int .i64 0, .bool false]) ?_ 1 _ rfl; (with_reducible repeat (first | refine blk_drewN ?_ _ | refine blk_drew ?_ | refine blk_alloc ?_ _)); refine blk_put (cs := #[.int .i64 0, .int .i64 0, .int .i64 0, .bool false]) ?_ 0 _ rfl; (with_reducible repeat (first | refine blk_drewN ?_ _ | refine blk_drew ?_ | refine blk_alloc ?_ _)); exact BK564.out) hg (Kd.R_ne HO_3.out BK564.out (by decide))); replace HB := am (hb); have HO567 := am (ho); clear HO_3; clear ho hb hg hat))
   go_roundg k1
   case measure => have := HK1.out; omega
   case rel => exact ⟨(y565), (wrap64 (x9_1 + 1)), sr, H', ⟨kl⟩, ⟨kR HO567.out⟩, ⟨kR (Kd.R_mono HO_7.out (fun _ hk => trivial))⟩, ⟨bS⟩⟩
end Go.Proofs.YtmlhnpggjkoinaaDoor.PFnExactWords

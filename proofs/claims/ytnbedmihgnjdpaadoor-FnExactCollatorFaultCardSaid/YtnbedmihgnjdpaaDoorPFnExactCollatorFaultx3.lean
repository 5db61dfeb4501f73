-- Written by a program of this session: what the printed functions compute.
import Derived.Test.YtnbedmihgnjdpaaDoorPFnExactCollatorFaultx0
import Derived.Test.YtnbedmihgnjdpaaDoorSlimMore
import Derived.Test.YtnbedmihgnjdpaaDoorPFnExactCollatorFaultx2
namespace Go.Proofs.YtnbedmihgnjdpaaDoor.PFnExactCollatorFault
open Go.RowKit Go.Proofs.YtnbedmihgnjdpaaDoorW.PrintWords Go.Proofs.YtnbedmihgnjdpaaDoorW.PrintLast Go.Proofs.YtnbedmihgnjdpaaDoorW.PrintMore
attribute [local go_sem] max2_int min2_int max_two min_two max_three min_three max_four min_four
set_option linter.unusedVariables false
set_option linter.unusedSimpArgs false
mutual
def spec_l05All.l0 : Nat → Bool → List Int → List Int → Int → Option (List Int)
 | 0, _, _, _, _ => none
 | k + 1, x1, x5, x6, x7 => if x7 < (x5.length : Int) then (if 0 ≤ x7 then ((spec_l05All.f k (rd x5 x7) x1).bind fun t182 => (if x6.length + t182.length < 17592186044416 then (spec_l05All.l0 k x1 x5 (x6 ++ t182) (wrap64 (x7 + 1))) else (none))) else (none)) else (some x6)
def spec_l05All.f : Nat → Int → Bool → Option (List Int)
 | 0, _, _ => none
 | k + 1, a0, a1 => (spec_l05Parts.f k a0 a1).bind fun t172 => (if (t172.length : Int) = 0 then (some (([a0] : List Int))) else (spec_l05All.l0 k a1 t172 (([] : List Int)) 0))
end
set_option maxHeartbeats 8000000 in
set_option maxRecDepth 100000 in
theorem spec_l05All.calls (k : Nat) : ∀ (a0 : Int) (a1 : Bool) (r : List Int) (w : World) (h : spec_l05All.f k a0 a1 = some r),
  Calls Tryd.prog 72 #[.int .i64 a0, .bool a1] w fun e w' => ∃ v0_ : Value, e = .returned (v0_) ∧ Kd.R (Kd.int .i64) 2 w' w.heap.size (fun _ => True) v0_ r ∧ Below w.heap.size w w' := by
 induction k using Nat.strongRecOn with
 | _ k ih =>
 intro a0 a1 r w h
 cases k with
 | zero => exact absurd h (by simp [spec_l05All.f])
 | succ k =>
 simp only [spec_l05All.f] at h
 have HB := am (Below.refl w.heap.size w)
 have H : ((spec_l05Parts.f k a0 a1).bind fun t172 => (if (t172.length : Int) = 0 then (some (([a0] : List Int))) else (spec_l05All.l0 k a1 t172 (([] : List Int)) 0))) = some r := h
 clear h
 replace H := Option.bind_eq_some_iff.mp H
 obtain ⟨t172, A30, H⟩ := H
 replace H : (if (t172.length : Int) = 0 then (some (([a0] : List Int))) else (spec_l05All.l0 k a1 t172 (([] : List Int)) 0)) = some r := H
 have A3 := am A30
 clear A30
 by_cases c4 : (t172.length : Int) = 0
 ·rw [if_pos c4] at H
  have c4b0 : ((t172.length : Int) == 0) = true := beq_iff_eq.mpr c4
  have c4b1 : ((t172.length : Int) != 0) = false := bne_eq_false_iff_eq.mpr c4
  clear c4
  obtain ⟨y175, hy175⟩ : ∃ y_ : List Int, y_ = (([a0] : List Int)) := ⟨_, rfl⟩
  replace H : (some y175) = some r := by first | (rw [hy175]; with_reducible exact H) | (have H2_ := (Option.bind_some _ _).symm.trans H; rw [hy175]; with_reducible exact H2_) | (have H2_ := (Option.bind_some _ _).symm.trans H; with_reducible exact H2_) | with_reducible exact H | (rw [hy175]; exact H) | exact H
  have Ny175 := am hy175
  clear hy175
  obtain rfl := Option.some.inj H
  go_enter Tryd.func72, Tryd.ntmps72
  go_wp2_with (first | ((with_reducible refine gate_callee (f := 87) rfl ?_); refine gl 10 Tryd.func87 #[.int .i64 a0, .bool a1] ?_; (with_reducible refine (spec_l05Parts.calls k a0 a1 t172 _ A3.out).mono ?_); rintro e w5 ⟨v173, rfl, ho0, hb⟩; refine ⟨_, rfl, ?_⟩; have HO174 := am (Kd.R_lower ho0 (below_size bB)); replace HB := am (below_step bB hb); (try clear hb); (try clear hb2); (try clear hk); (try clear hi); (try clear ho0); obtain ⟨Ao6, co6, eo6⟩ := Kd.R_slice HO174.out; subst eo6) | ((with_reducible refine gate_dst (N := 15) rfl ?_); refine Kd.R_lit (Kd.int .i64) _ 2 ?hg (N := 15) ?hd (xs := ([a0] : List Int)) (inner := [.int .i64 a0]) (ok := fun _ => True) (okp := fun _ => True) ?hr ?hp (fun _ hk => hk) trivial (Below.refl _ _) (Nat.le_refl _) (by simp) ?_; (case hd => rfl); (case hg => rfl); (case hr => first | (go_simp; done) | (go_simp; rfl)); (case hp => exact (Reps.one (show Kd.M (Kd.int .i64) _ _ _ a0 [.int .i64 a0] from rfl) (Reps.none _ _))); intro v176 w7 ho8 hb hg_ hnew_; clear hg_ hnew_; (first | rw [← Ny175.out] at ho8 | (simp only [Int.reduceToNat] at ho8; rw [← Ny175.out] at ho8)); have HO177 := am (Kd.R_lower (Kd.R_new' ho8 (Kd.R_lt (kR HO174.out))) (below_size bB)); replace HO174 := am (Kd.R_elder' (kR HO174.out) (Kd.R_base ho8) hb); replace HB := am (below_step bB hb); clear hb ho8))
  go_ret
  exact ⟨_, rv, by (with_reducible repeat (first | apply Kd.R_alloc | apply Kd.R_drewN | apply Kd.R_drew)); exact Kd.R_mono HO177.out (fun _ hk => trivial), bB⟩
 ·rw [if_neg c4] at H
  have c4b0 : ((t172.length : Int) == 0) = false := beq_eq_false_iff_ne.mpr c4
  have c4b1 : ((t172.length : Int) != 0) = true := bne_iff_ne.mpr c4
  have c4b2 : ¬ (t172 = []) := fun h_ => c4 (by rw [h_]; rfl)
  obtain ⟨y178, hy178⟩ : ∃ y_ : List Int, y_ = (([] : List Int)) := ⟨_, rfl⟩
  replace H : (spec_l05All.l0 k a1 t172 y178 0) = some r := by first | (rw [hy178]; with_reducible exact H) | (have H2_ := (Option.bind_some _ _).symm.trans H; rw [hy178]; with_reducible exact H2_) | (have H2_ := (Option.bind_some _ _).symm.trans H; with_reducible exact H2_) | with_reducible exact H | (rw [hy178]; exact H) | exact H
  have Ny178 := am hy178
  clear hy178
  have H' := am H
  clear H
  go_enter Tryd.func72, Tryd.ntmps72
  go_wp2_with (first | ((with_reducible refine gate_callee (f := 87) rfl ?_); refine gl 10 Tryd.func87 #[.int .i64 a0, .bool a1] ?_; (with_reducible refine (spec_l05Parts.calls k a0 a1 t172 _ A3.out).mono ?_); rintro e w9 ⟨v173, rfl, ho0, hb⟩; refine ⟨_, rfl, ?_⟩; have HO174 := am (Kd.R_lower ho0 (below_size bB)); replace HB := am (below_step bB hb); (try clear hb); (try clear hb2); (try clear hk); (try clear hi); (try clear ho0); obtain ⟨Ao10, co10, eo10⟩ := Kd.R_slice HO174.out; subst eo10) | ((with_reducible refine gate_dst (N := 16) rfl ?_); refine Kd.R_lit (Kd.int .i64) _ 2 ?hg (N := 16) ?hd (xs := ([] : List Int)) (inner := []) (ok := fun _ => True) (okp := fun _ => True) ?hr ?hp (fun _ hk => hk) trivial (Below.refl _ _) (Nat.le_refl _) (by simp) ?_; (case hd => rfl); (case hg => rfl); (case hr => first | (go_simp; done) | (go_simp; rfl)); (case hp => exact (Reps.none _ _)); intro v179 w11 ho12 hb hg_ hnew_; clear hg_ hnew_; (first | rw [← Ny178.out] at ho12 | (simp only [Int.reduceToNat] at ho12; rw [← Ny178.out] at ho12)); have HO180 := am (Kd.R_lower (Kd.R_new' ho12 (Kd.R_lt (kR HO174.out))) (below_size bB)); replace HO174 := am (Kd.R_elder' (kR HO174.out) (Kd.R_base ho12) hb); replace HB := am (below_step bB hb); clear hb ho12))
  go_loopg [6, 7] k (fun kq v6 v7 w' => ∃ (x6_1 : List Int) (x7_1 : Int), v7 = .int .i64 x7_1 ∧ Aside0 (spec_l05All.l0 kq a1 t172 x6_1 x7_1 = some r) ∧ Aside0 (kq ≤ k) ∧ Aside0 (Kd.R (Kd.int .i64) 2 w' w.heap.size (fun k_ => some k_ ≠ (v6 : Value).ownBlock) (.slice Ao10 t172.length co10) t172) ∧ Aside0 (Kd.R (Kd.int .i64) 2 w' w.heap.size (fun k_ => some k_ ≠ ((.slice Ao10 t172.length co10) : Value).ownBlock) v6 x6_1) ∧ Aside0 (Below w.heap.size w w'))
  case atStart => exact ⟨(y178), (0), (by first | rfl | (simp; done) | (simp [*]; done)), H', ⟨Nat.le_refl _⟩, ⟨kR (Kd.R_mono HO174.out (fun _ hk => hk.2))⟩, ⟨kR (Kd.R_mono HO180.out (fun _ hk => hk.2))⟩, ⟨bB⟩⟩
  case round =>
   clear H'
   try clear p2
   try clear c4
   try clear c4b0
   try clear c4b1
   try clear c4b2
   try clear c7
   try clear c8
   obtain ⟨x6_1, x7_1, rfl, HA, HK1, HO_5, HO_6, HB⟩ := hrel
   cases gk with
   | zero => exact absurd HA.out (by simp [spec_l05All.l0])
   | succ k1 =>
    have H := HA.out
    clear HA
    simp only [spec_l05All.l0] at H
    by_cases c13 : x7_1 < (t172.length : Int)
    ·rw [if_pos c13] at H
     have c13b0 : decide (x7_1 < (t172.length : Int)) = true := decide_eq_true c13
     clear c13
     by_cases c14 : 0 ≤ x7_1
     ·rw [if_pos c14] at H
      have c14b0 : decide (0 ≤ x7_1) = true := decide_eq_true c14
      clear c14
      replace H := Option.bind_eq_some_iff.mp H
      obtain ⟨t182, A150, H⟩ := H
      replace H : (if x6_1.length + t182.length < 17592186044416 then (spec_l05All.l0 k1 a1 t172 (x6_1 ++ t182) (wrap64 (x7_1 + 1))) else (none)) = some r := H
      have A15 := am A150
      clear A150
      by_cases c16 : x6_1.length + t182.length < 17592186044416
      ·rw [if_pos c16] at H
       have LMc16 := am c16
       clear c16
       obtain ⟨y185, hy185⟩ : ∃ y_ : List Int, y_ = (x6_1 ++ t182) := ⟨_, rfl⟩
       replace H : (spec_l05All.l0 k1 a1 t172 y185 (wrap64 (x7_1 + 1))) = some r := by first | (rw [hy185]; with_reducible exact H) | (have H2_ := (Option.bind_some _ _).symm.trans H; rw [hy185]; with_reducible exact H2_) | (have H2_ := (Option.bind_some _ _).symm.trans H; with_reducible exact H2_) | with_reducible exact H | (rw [hy185]; exact H) | exact H
       have Ny185 := am hy185
       clear hy185
       have H' := am H
       clear H
       have p181 : 0 ≤ (x7_1 : Int) := od
       have q181 : x7_1 < (t172.length : Int) := od
       obtain ⟨ad181, e181, hx181_0⟩ := Kd.at_int (Kd.R_reads' HO_5.out).2.2 x7_1 p181 q181
       cases e181
       replace p181 := eq_true p181
       replace q181 := eq_true q181
       go_wp2_with (first | ((with_reducible refine gate_callee (f := 72) rfl ?_); refine gl 29 Tryd.func72 #[.int .i64 (rd t172 x7_1), .bool a1] ?_; (with_reducible refine (ih k1 (by have := HK1.out; omega) (rd t172 x7_1) a1 t182 _ A15.out).mono ?_); rintro e w17 ⟨v183, rfl, ho0, hb⟩; refine ⟨_, rfl, ?_⟩; have HO184 := am (Kd.R_lower (Kd.R_new' (Kd.R_new' ho0 (Kd.R_lt (kR HO_5.out))) (Kd.R_lt (kR HO_6.out))) (below_size bB)); replace HO_5 := am (Kd.R_elder' (kR HO_5.out) (Kd.R_base ho0) hb); replace HO_6 := am (Kd.R_elder' (kR HO_6.out) (Kd.R_base ho0) hb); replace HB := am (below_step bB hb); (try clear hb); (try clear hb2); (try clear hk); (try clear hi); (try clear ho0); obtain ⟨Ao19, co19, eo19⟩ := Kd.R_slice HO184.out; subst eo19) | ((with_reducible refine gate_builtin (b := .append) (xs := #[.tmp 23, .tmp 29]) rfl ?_); at_builtin; refine Kd.R_append_rows (Kd.int .i64) (w0 := w) w.heap.size rfl (.tmp 23) (.tmp 29) 58 2 (.int .i64 0) 8 rfl Tryd.underlying58 info2 rfl (by decide) (by omega) u6 x6_1 t182 _ _ _ (fun k_ => some k_ ≠ (.slice (some ad181) t172.length co10 : Value).ownBlock ∧ some k_ ≠ (.slice Ao19 t182.length co19 : Value).ownBlock) (fun _ => False) rfl rfl ?aO ?aR (fun _ _ h => h) (fun _ h => h.elim) ?aF ?aB ?aS ?aL ?_; (case aR => repeat (first | exact (Kd.R_reads' HO184.out).2.2 | (with_reducible refine Kd.C_alloc ?_ _) | (with_reducible refine Kd.C_drewN ?_ _) | (with_reducible refine Kd.C_drew ?_))); (case aB => exact bB); (case aF => exact (fun k_ hk => ⟨Kd.fresh' (Kd.R_lt (kR HO_5.out)) k_ hk, Kd.fresh' (Kd.R_lt (kR HO184.out)) k_ hk⟩)); (case aO => exact (kR HO_6.out)); (case aS => exact (below_size bB)); (case aL => have := LMc16.out; omega); intro v186 w18 ho hb hg hat; rw [← Ny185.out] at ho; replace HO_5 := am (Kd.R_after (ok := (fun k_ => some k_ ≠ (.slice Ao19 t182.length co19 : Value).ownBlock)) (kR (Kd.R_mono HO_5.out (fun _ hk => ⟨hk.2, hk.1⟩))) hg hat); replace HO184 := am (Kd.R_after (ok := (fun k_ => some k_ ≠ (.slice (some ad181) t172.length co10 : Value).ownBlock)) (kR (Kd.R_mono HO184.out (fun _ hk => ⟨hk.1.2, hk.2⟩))) hg hat); replace HB := am (hb); have HO187 := am (ho); clear HO_6; clear ho hb hg hat))
       go_roundg k1
       case measure => have := HK1.out; omega
       case rel => exact ⟨(y185), (wrap64 (x7_1 + 1)), (by first | rfl | (simp; done) | (simp [*]; done)), H', ⟨by have := HK1.out; omega⟩, ⟨kR (Kd.R_mono HO_5.out (fun _ hk => hk.2))⟩, ⟨kR (Kd.R_mono HO187.out (fun _ hk => hk.1))⟩, ⟨bB⟩⟩
      ·rw [if_neg c16] at H
       exact absurd H (by simp)
     ·rw [if_neg c14] at H
      exact absurd H (by simp)
    ·rw [if_neg c13] at H
     have c13b0 : decide (x7_1 < (t172.length : Int)) = false := decide_eq_false c13
     clear c13
     obtain rfl := Option.some.inj H
     go_wp2
     go_ret
     exact ⟨_, rv, by (with_reducible repeat (first | apply Kd.R_alloc | apply Kd.R_drewN | apply Kd.R_drew)); exact Kd.R_mono HO_6.out (fun _ hk => trivial), bB⟩
def spec_l05K.f (a0 : Int) : Option (Bool) := some (decide (a0 ≥ 3))
set_option maxHeartbeats 8000000 in
set_option maxRecDepth 100000 in
theorem spec_l05K.calls (a0 : Int) (r : Bool) (w : World) (h : spec_l05K.f a0 = some r) :
  Calls Tryd.prog 73 #[.int .i64 a0] w fun e w' => e = .returned (.bool r) ∧ Drawn0 w w' := by
 have H : (some (decide (a0 ≥ 3))) = some r := h
 clear h
 obtain rfl := Option.some.inj H
 go_enter Tryd.func73, Tryd.ntmps73
 go_wp2
 go_ret
 exact rdd
def spec_l01Class.j0 : Nat → Int → Bool → Option (Int)
 | 0, _, _ => none
 | k + 1, x0, x13 => if x13 = true then (some 0) else (if (wrap64 (x0 - 4096)) < 16 then (some 230) else (if (wrap64 (x0 - 4096)) < 32 then (some 220) else (if (wrap64 (x0 - 4096)) < 40 then (some 202) else (if (wrap64 (x0 - 4096)) < 48 then (some 1) else (if (wrap64 (x0 - 4096)) < 56 then (some 232) else (some 0))))))
def spec_l01Class.f (k : Nat) (a0 : Int) : Option (Int) := if a0 = 1584 then (some 9) else (if a0 = 1585 then (some 7) else (if a0 < 4096 then (spec_l01Class.j0 k a0 true) else (spec_l01Class.j0 k a0 (decide (a0 > 4159)))))
set_option maxHeartbeats 8000000 in
set_option maxRecDepth 100000 in
theorem spec_l01Class.calls (k : Nat) (a0 : Int) (r : Int) (w : World) (h : spec_l01Class.f k a0 = some r) :
  Calls Tryd.prog 46 #[.int .i64 a0] w fun e w' => e = .returned (.int .i64 r) ∧ Drawn0 w w' := by
 have H : (if a0 = 1584 then (some 9) else (if a0 = 1585 then (some 7) else (if a0 < 4096 then (spec_l01Class.j0 k a0 true) else (spec_l01Class.j0 k a0 (decide (a0 > 4159)))))) = some r := h
 clear h
 by_cases c2 : a0 = 1584
 ·rw [if_pos c2] at H
  have c2b0 : (a0 == 1584) = true := beq_iff_eq.mpr c2
  have c2b1 : (a0 != 1584) = false := bne_eq_false_iff_eq.mpr c2
  clear c2
  obtain rfl := Option.some.inj H
  go_enter Tryd.func46, Tryd.ntmps46
  go_wp2
  go_ret
  exact rdd
 ·rw [if_neg c2] at H
  have c2b0 : (a0 == 1584) = false := beq_eq_false_iff_ne.mpr c2
  have c2b1 : (a0 != 1584) = true := bne_iff_ne.mpr c2
  by_cases c3 : a0 = 1585
  ·rw [if_pos c3] at H
   have c3b0 : (a0 == 1585) = true := beq_iff_eq.mpr c3
   have c3b1 : (a0 != 1585) = false := bne_eq_false_iff_eq.mpr c3
   clear c3
   obtain rfl := Option.some.inj H
   go_enter Tryd.func46, Tryd.ntmps46
   go_wp2
   go_ret
   exact rdd
  ·rw [if_neg c3] at H
   have c3b0 : (a0 == 1585) = false := beq_eq_false_iff_ne.mpr c3
   have c3b1 : (a0 != 1585) = true := bne_iff_ne.mpr c3
   have HC4 := am H
   clear H
   go_enter Tryd.func46, Tryd.ntmps46
   go_upto_region 5 with (fail)
   go_cut [13] (fun v13 wc => ∃ (kq : Nat) (x13_3 : Bool), v13 = .bool x13_3 ∧ Aside0 (spec_l01Class.j0 kq a0 x13_3 = some r) ∧ Aside0 (kq ≤ k) ∧ Drawn0 w wc)
   case first =>
    have H := HC4.out
    clear HC4
    by_cases c5 : a0 < 4096
    ·rw [if_pos c5] at H
     have c5b0 : decide (a0 < 4096) = true := decide_eq_true c5
     clear c5
     (first | rw [c5b0] | (simp only [i64_w, i32_w]; rw [c5b0]) | skip)
     have H' := am H
     clear H
     go_wp2
     go_meet
     case rel => exact ⟨_, (true), (by first | rfl | (simp; done) | (simp [*]; done)), H', ⟨by first | omega | exact Nat.le_refl _⟩, by repeat (first | exact Drawn0.refl _ | apply Drawn0.step)⟩
    ·rw [if_neg c5] at H
     have c5b0 : decide (a0 < 4096) = false := decide_eq_false c5
     clear c5
     (first | rw [c5b0] | (simp only [i64_w, i32_w]; rw [c5b0]) | skip)
     have H' := am H
     clear H
     go_wp2
     go_meet
     case rel => exact ⟨_, (decide (a0 > 4159)), (by first | rfl | (simp; done) | (simp [*]; done)), H', ⟨by first | omega | exact Nat.le_refl _⟩, by repeat (first | exact Drawn0.refl _ | apply Drawn0.step)⟩
   case rest =>
    clear HC4
    try clear c2
    try clear c2b0
    try clear c2b1
    try clear p2
    try clear c3
    try clear c3b0
    try clear c3b1
    try clear c4
    try clear c5
    try clear c5b0
    obtain ⟨kq, x13_3, rfl, HA, HJ3, ⟨mc3, rfl⟩⟩ := hcut
    cases kq with
    | zero => exact absurd HA.out (by simp [spec_l01Class.j0])
    | succ kj3 =>
     have H := HA.out
     clear HA
     simp only [spec_l01Class.j0] at H
     by_cases c6 : x13_3 = true
     ·subst c6
      have H1 : (some 0) = some r := by rw [if_pos rfl] at H; exact H
      clear H
      have H := H1
      clear H1
      obtain rfl := Option.some.inj H
      go_wp2
      go_ret
      exact rdd
     ·replace c6 := Bool.eq_false_iff.mpr c6
      subst c6
      have H1 : (if (wrap64 (a0 - 4096)) < 16 then (some 230) else (if (wrap64 (a0 - 4096)) < 32 then (some 220) else (if (wrap64 (a0 - 4096)) < 40 then (some 202) else (if (wrap64 (a0 - 4096)) < 48 then (some 1) else (if (wrap64 (a0 - 4096)) < 56 then (some 232) else (some 0)))))) = some r := by rw [if_neg (show ¬ (false = true) by decide)] at H; exact H
      clear H
      have H := H1
      clear H1
      by_cases c7 : (wrap64 (a0 - 4096)) < 16
      ·rw [if_pos c7] at H
       have c7b0 : decide ((wrap64 (a0 - 4096)) < 16) = true := decide_eq_true c7
       clear c7
       obtain rfl := Option.some.inj H
       go_wp2
       go_ret
       exact rdd
      ·rw [if_neg c7] at H
       have c7b0 : decide ((wrap64 (a0 - 4096)) < 16) = false := decide_eq_false c7
       clear c7
       by_cases c8 : (wrap64 (a0 - 4096)) < 32
       ·rw [if_pos c8] at H
        have c8b0 : decide ((wrap64 (a0 - 4096)) < 32) = true := decide_eq_true c8
        clear c8
        obtain rfl := Option.some.inj H
        go_wp2
        go_ret
        exact rdd
       ·rw [if_neg c8] at H
        have c8b0 : decide ((wrap64 (a0 - 4096)) < 32) = false := decide_eq_false c8
        clear c8
        by_cases c9 : (wrap64 (a0 - 4096)) < 40
        ·rw [if_pos c9] at H
         have c9b0 : decide ((wrap64 (a0 - 4096)) < 40) = true := decide_eq_true c9
         clear c9
         obtain rfl := Option.some.inj H
         go_wp2
         go_ret
         exact rdd
        ·rw [if_neg c9] at H
         have c9b0 : decide ((wrap64 (a0 - 4096)) < 40) = false := decide_eq_false c9
         clear c9
         by_cases c10 : (wrap64 (a0 - 4096)) < 48
         ·rw [if_pos c10] at H
          have c10b0 : decide ((wrap64 (a0 - 4096)) < 48) = true := decide_eq_true c10
          clear c10
          obtain rfl := Option.some.inj H
          go_wp2
          go_ret
          exact rdd
         ·rw [if_neg c10] at H
          have c10b0 : decide ((wrap64 (a0 - 4096)) < 48) = false := decide_eq_false c10
          clear c10
          by_cases c11 : (wrap64 (a0 - 4096)) < 56
          ·rw [if_pos c11] at H
           have c11b0 : decide ((wrap64 (a0 - 4096)) < 56) = true := decide_eq_true c11
           clear c11
           obtain rfl := Option.some.inj H
           go_wp2
           go_ret
           exact rdd
          ·rw [if_neg c11] at H
           have c11b0 : decide ((wrap64 (a0 - 4096)) < 56) = false := decide_eq_false c11
           clear c11
           obtain rfl := Option.some.inj H
           go_wp2
           go_ret
           exact rdd
mutual
def spec_l05Ordered.l0 : Nat → List Int → Int → Option (List Int)
 | 0, _, _ => none
 | k + 1, x3, x4 => if x4 < (x3.length : Int) then (if 0 ≤ x4 then ((spec_l01Class.f k (rd x3 x4)).bind fun t195 => (if t195 = 0 then (spec_l05Ordered.l0 k x3 (wrap64 (x4 + 1))) else (spec_l05Ordered.l1 k x3 x4 x4))) else (none)) else (some x3)
def spec_l05Ordered.l1 : Nat → List Int → Int → Int → Option (List Int)
 | 0, _, _, _ => none
 | k + 1, x3, x4, x5 => if x5 > 0 then (if 0 ≤ (wrap64 (x5 - 1)) then (if (wrap64 (x5 - 1)) < (x3.length : Int) then ((spec_l01Class.f k (rd x3 (wrap64 (x5 - 1)))).bind fun t197 => (if 0 ≤ x5 then (if x5 < (x3.length : Int) then ((spec_l01Class.f k (rd x3 x5)).bind fun t199 => (if t197 > t199 then (spec_l05Ordered.l1 k ((x3.set (x5 : Int).toNat (rd x3 (wrap64 (x5 - 1)))).set ((wrap64 (x5 - 1)) : Int).toNat (rd x3 x5)) x4 (wrap64 (x5 - 1))) else (spec_l05Ordered.l0 k x3 (wrap64 (x4 + 1))))) else (none)) else (none))) else (none)) else (none)) else (spec_l05Ordered.l0 k x3 (wrap64 (x4 + 1)))
end
def spec_l05Ordered.f (k : Nat) (l0 : List Int) : Option (List Int) := (some (([] : List Int) : List Int)).bind fun y188 => (if y188.length + l0.length < 17592186044416 then (spec_l05Ordered.l0 k (y188 ++ l0) 0) else (none))
set_option maxHeartbeats 8000000 in
set_option maxRecDepth 100000 in
theorem spec_l05Ordered.calls (k : Nat) (A0 : Option Addr) (c0 : Nat) (l0 : List Int) (r : List Int) (w : World) (hr0 : Kd.C (Kd.int .i64) w A0 l0.length l0) (hc0 : l0.length ≤ c0) (h : spec_l05Ordered.f k l0 = some r) :
  Calls Tryd.prog 74 #[.slice A0 l0.length c0] w fun e w' => ∃ v0_ : Value, e = .returned (v0_) ∧ Kd.R (Kd.int .i64) 2 w' w.heap.size (fun _ => True) v0_ r ∧ Below w.heap.size w w' := by
 have HR0 := am hr0
 have HC0 := am hc0
 clear hr0 hc0
 have HB := am (Below.refl w.heap.size w)
 have H : ((some (([] : List Int) : List Int)).bind fun y188 => (if y188.length + l0.length < 17592186044416 then (spec_l05Ordered.l0 k (y188 ++ l0) 0) else (none))) = some r := h
 clear h
 obtain ⟨y188, hy188⟩ : ∃ y_ : List Int, y_ = (([] : List Int)) := ⟨_, rfl⟩
 replace H : (if y188.length + l0.length < 17592186044416 then (spec_l05Ordered.l0 k (y188 ++ l0) 0) else (none)) = some r := by first | (rw [hy188]; with_reducible exact H) | (have H2_ := (Option.bind_some _ _).symm.trans H; rw [hy188]; with_reducible exact H2_) | (have H2_ := (Option.bind_some _ _).symm.trans H; with_reducible exact H2_) | with_reducible exact H | (rw [hy188]; exact H) | exact H
 have Ny188 := am hy188
 clear hy188
 by_cases c2 : y188.length + l0.length < 17592186044416
 ·rw [if_pos c2] at H
  have LMc2 := am c2
  clear c2
  obtain ⟨y191, hy191⟩ : ∃ y_ : List Int, y_ = (y188 ++ l0) := ⟨_, rfl⟩
  replace H : (spec_l05Ordered.l0 k y191 0) = some r := by first | (rw [hy191]; with_reducible exact H) | (have H2_ := (Option.bind_some _ _).symm.trans H; rw [hy191]; with_reducible exact H2_) | (have H2_ := (Option.bind_some _ _).symm.trans H; with_reducible exact H2_) | with_reducible exact H | (rw [hy191]; exact H) | exact H
  have Ny191 := am hy191
  clear hy191
  have H' := am H
  clear H
  go_enter Tryd.func74, Tryd.ntmps74
  go_wp2_with (first | ((with_reducible refine gate_dst (N := 7) rfl ?_); refine Kd.R_lit (Kd.int .i64) _ 2 ?hg (N := 7) ?hd (xs := ([] : List Int)) (inner := []) (ok := fun _ => True) (okp := fun _ => True) ?hr ?hp (fun _ hk => hk) trivial (Below.refl _ _) (Nat.le_refl _) (by simp) ?_; (case hd => rfl); (case hg => rfl); (case hr => first | (go_simp; done) | (go_simp; rfl)); (case hp => exact (Reps.none _ _)); intro v189 w3 ho4 hb hg_ hnew_; clear hg_ hnew_; (first | rw [← Ny188.out] at ho4 | (simp only [Int.reduceToNat] at ho4; rw [← Ny188.out] at ho4)); have HO190 := am (Kd.R_lower ho4 (below_size bB)); replace HB := am (below_step bB hb); clear hb ho4) | ((with_reducible refine gate_builtin (b := .append) (xs := #[.tmp 7, .tmp 8]) rfl ?_); at_builtin; refine Kd.R_append_rows (Kd.int .i64) (w0 := w) w.heap.size rfl (.tmp 7) (.tmp 8) 58 2 (.int .i64 0) 8 rfl Tryd.underlying58 info2 rfl (by decide) (by omega) v189 y188 l0 _ _ _ (fun _ => True) (fun _ => False) rfl rfl ?aO ?aR (fun _ _ h => h) (fun _ h => h.elim) ?aF ?aB ?aS ?aL ?_; (case aR => exact cC (Kd.C_below HR0.out HB.out)); (case aB => exact bB); (case aF => exact (fun _ _ => trivial)); (case aO => exact (kR HO190.out)); (case aS => exact (below_size bB)); (case aL => have := LMc2.out; omega); intro v192 w5 ho hb hg hat; rw [← Ny191.out] at ho; replace HB := am (hb); have HO193 := am (ho); clear HO190; clear ho hb hg hat))
  repeat (go_quiet (first | ((with_reducible refine gate_dst (N := 7) rfl ?_); refine Kd.R_lit (Kd.int .i64) _ 2 ?hg (N := 7) ?hd (xs := ([] : List Int)) (inner := []) (ok := fun _ => True) (okp := fun _ => True) ?hr ?hp (fun _ hk => hk) trivial (Below.refl _ _) (Nat.le_refl _) (by simp) ?_; (case hd => rfl); (case hg => rfl); (case hr => first | (go_simp; done) | (go_simp; rfl)); (case hp => exact (Reps.none _ _)); intro v189 w3 ho4 hb hg_ hnew_; clear hg_ hnew_; (first | rw [← Ny188.out] at ho4 | (simp only [Int.reduceToNat] at ho4; rw [← Ny188.out] at ho4)); have HO190 := am (Kd.R_lower ho4 (below_size bB)); replace HB := am (below_step bB hb); clear hb ho4) | ((with_reducible refine gate_builtin (b := .append) (xs := #[.tmp 7, .tmp 8]) rfl ?_); at_builtin; refine Kd.R_append_rows (Kd.int .i64) (w0 := w) w.heap.size rfl (.tmp 7) (.tmp 8) 58 2 (.int .i64 0) 8 rfl Tryd.underlying58 info2 rfl (by decide) (by omega) v189 y188 l0 _ _ _ (fun _ => True) (fun _ => False) rfl rfl ?aO ?aR (fun _ _ h => h) (fun _ h => h.elim) ?aF ?aB ?aS ?aL ?_; (case aR => exact cC (Kd.C_below HR0.out HB.out)); (case aB => exact bB); (case aF => exact (fun _ _ => trivial)); (case aO => exact (kR HO190.out)); (case aS => exact (below_size bB)); (case aL => have := LMc2.out; omega); intro v192 w5 ho hb hg hat; rw [← Ny191.out] at ho; replace HB := am (hb); have HO193 := am (ho); clear HO190; clear ho hb hg hat)); try go_wp2_with (first | ((with_reducible refine gate_dst (N := 7) rfl ?_); refine Kd.R_lit (Kd.int .i64) _ 2 ?hg (N := 7) ?hd (xs := ([] : List Int)) (inner := []) (ok := fun _ => True) (okp := fun _ => True) ?hr ?hp (fun _ hk => hk) trivial (Below.refl _ _) (Nat.le_refl _) (by simp) ?_; (case hd => rfl); (case hg => rfl); (case hr => first | (go_simp; done) | (go_simp; rfl)); (case hp => exact (Reps.none _ _)); intro v189 w3 ho4 hb hg_ hnew_; clear hg_ hnew_; (first | rw [← Ny188.out] at ho4 | (simp only [Int.reduceToNat] at ho4; rw [← Ny188.out] at ho4)); have HO190 := am (Kd.R_lower ho4 (below_size bB)); replace HB := am (below_step bB hb); clear hb ho4) | ((with_reducible refine gate_builtin (b := .append) (xs := #[.tmp 7, .tmp 8]) rfl ?_); at_builtin; refine Kd.R_append_rows (Kd.int .i64) (w0 := w) w.heap.size rfl (.tmp 7) (.tmp 8) 58 2 (.int .i64 0) 8 rfl Tryd.underlying58 info2 rfl (by decide) (by omega) v189 y188 l0 _ _ _ (fun _ => True) (fun _ => False) rfl rfl ?aO ?aR (fun _ _ h => h) (fun _ h => h.elim) ?aF ?aB ?aS ?aL ?_; (case aR => exact cC (Kd.C_below HR0.out HB.out)); (case aB => exact bB); (case aF => exact (fun _ _ => trivial)); (case aO => exact (kR HO190.out)); (case aS => exact (below_size bB)); (case aL => have := LMc2.out; omega); intro v192 w5 ho hb hg hat; rw [← Ny191.out] at ho; replace HB := am (hb); have HO193 := am (ho); clear HO190; clear ho hb hg hat)))
  go_loopg [4] k (fun kq v4 w' => ∃ (x3_1 : List Int) (x4_1 : Int), v4 = .int .i64 x4_1 ∧ Aside0 (spec_l05Ordered.l0 kq x3_1 x4_1 = some r) ∧ Aside0 (kq ≤ k) ∧ Aside0 (Kd.R (Kd.int .i64) 2 w' w.heap.size (fun _ => True) v192 x3_1) ∧ Aside0 (Below w.heap.size w w'))
  case atStart => exact ⟨(y191), (0), (by first | rfl | (simp; done) | (simp [*]; done)), H', ⟨Nat.le_refl _⟩, ⟨kR HO193.out⟩, ⟨bB⟩⟩
  case round =>
   clear H'
   try clear c2
   try clear p2
   obtain ⟨x3_1, x4_1, rfl, HA, HK1, HO_3, HB⟩ := hrel
   cases gk with
   | zero => exact absurd HA.out (by simp [spec_l05Ordered.l0])
   | succ k1 =>
    have H := HA.out
    clear HA
    simp only [spec_l05Ordered.l0] at H
    by_cases c6 : x4_1 < (x3_1.length : Int)
    ·rw [if_pos c6] at H
     have c6b0 : decide (x4_1 < (x3_1.length : Int)) = true := decide_eq_true c6
     clear c6
     by_cases c7 : 0 ≤ x4_1
     ·rw [if_pos c7] at H
      have c7b0 : decide (0 ≤ x4_1) = true := decide_eq_true c7
      clear c7
      replace H := Option.bind_eq_some_iff.mp H
      obtain ⟨t195, A80, H⟩ := H
      replace H : (if t195 = 0 then (spec_l05Ordered.l0 k1 x3_1 (wrap64 (x4_1 + 1))) else (spec_l05Ordered.l1 k1 x3_1 x4_1 x4_1)) = some r := H
      have A8 := am A80
      clear A80
      by_cases c9 : t195 = 0
      ·rw [if_pos c9] at H
       have c9b0 : (t195 == 0) = true := beq_iff_eq.mpr c9
       have c9b1 : (t195 != 0) = false := bne_eq_false_iff_eq.mpr c9
       clear c9
       have H' := am H
       clear H
       obtain ⟨Ao10, co10, eo10⟩ := Kd.R_slice HO_3.out
       subst eo10
       have p194 : 0 ≤ (x4_1 : Int) := od
       have q194 : x4_1 < (x3_1.length : Int) := od
       obtain ⟨ad194, e194, hx194_0⟩ := Kd.at_int (Kd.R_reads' HO_3.out).2.2 x4_1 p194 q194
       cases e194
       replace p194 := eq_true p194
       replace q194 := eq_true q194
       go_wp2_with (first | (go_at_call 46; (with_reducible refine (spec_l01Class.calls k1 (rd x3_1 x4_1) t195 _ A8.out).mono ?_); rintro e w' ⟨rfl, ⟨nd, rfl⟩⟩; (try first | exact ⟨rfl, _, World.drewN_drewN _ _ _⟩ | exact ⟨rfl, _, Eq.trans (World.drewN_drewN _ _ _) (congrArg (World.drewN _) (Nat.add_assoc _ _ _))⟩)))
       repeat (go_quiet (first | (go_at_call 46; (with_reducible refine (spec_l01Class.calls k1 (rd x3_1 x4_1) t195 _ A8.out).mono ?_); rintro e w' ⟨rfl, ⟨nd, rfl⟩⟩; (try first | exact ⟨rfl, _, World.drewN_drewN _ _ _⟩ | exact ⟨rfl, _, Eq.trans (World.drewN_drewN _ _ _) (congrArg (World.drewN _) (Nat.add_assoc _ _ _))⟩))); try go_wp2_with (first | (go_at_call 46; (with_reducible refine (spec_l01Class.calls k1 (rd x3_1 x4_1) t195 _ A8.out).mono ?_); rintro e w' ⟨rfl, ⟨nd, rfl⟩⟩; (try first | exact ⟨rfl, _, World.drewN_drewN _ _ _⟩ | exact ⟨rfl, _, Eq.trans (World.drewN_drewN _ _ _) (congrArg (World.drewN _) (Nat.add_assoc _ _ _))⟩))))
       go_roundg k1
       case measure => have := HK1.out; omega
       case rel => exact ⟨(x3_1), (wrap64 (x4_1 + 1)), (by first | rfl | (simp; done) | (simp [*]; done)), H', ⟨by have := HK1.out; omega⟩, ⟨kR HO_3.out⟩, ⟨bB⟩⟩
      ·rw [if_neg c9] at H
       have c9b0 : (t195 == 0) = false := beq_eq_false_iff_ne.mpr c9
       have c9b1 : (t195 != 0) = true := bne_iff_ne.mpr c9
       have H' := am H
       clear H
       obtain ⟨Ao11, co11, eo11⟩ := Kd.R_slice HO_3.out
       subst eo11
       have p194 : 0 ≤ (x4_1 : Int) := od
       have q194 : x4_1 < (x3_1.length : Int) := od
       obtain ⟨ad194, e194, hx194_0⟩ := Kd.at_int (Kd.R_reads' HO_3.out).2.2 x4_1 p194 q194
       cases e194
       replace p194 := eq_true p194
       replace q194 := eq_true q194
       go_wp2_with (first | (go_at_call 46; (with_reducible refine (spec_l01Class.calls k1 (rd x3_1 x4_1) t195 _ A8.out).mono ?_); rintro e w' ⟨rfl, ⟨nd, rfl⟩⟩; (try first | exact ⟨rfl, _, World.drewN_drewN _ _ _⟩ | exact ⟨rfl, _, Eq.trans (World.drewN_drewN _ _ _) (congrArg (World.drewN _) (Nat.add_assoc _ _ _))⟩)))
       repeat (go_quiet (first | (go_at_call 46; (with_reducible refine (spec_l01Class.calls k1 (rd x3_1 x4_1) t195 _ A8.out).mono ?_); rintro e w' ⟨rfl, ⟨nd, rfl⟩⟩; (try first | exact ⟨rfl, _, World.drewN_drewN _ _ _⟩ | exact ⟨rfl, _, Eq.trans (World.drewN_drewN _ _ _) (congrArg (World.drewN _) (Nat.add_assoc _ _ _))⟩))); try go_wp2_with (first | (go_at_call 46; (with_reducible refine (spec_l01Class.calls k1 (rd x3_1 x4_1) t195 _ A8.out).mono ?_); rintro e w' ⟨rfl, ⟨nd, rfl⟩⟩; (try first | exact ⟨rfl, _, World.drewN_drewN _ _ _⟩ | exact ⟨rfl, _, Eq.trans (World.drewN_drewN _ _ _) (congrArg (World.drewN _) (Nat.add_assoc _ _ _))⟩))))
       go_loopg [5] k1 (fun kq v5 w' => ∃ (x3_2 : List Int) (x5_2 : Int), v5 = .int .i64 x5_2 ∧ Aside0 (spec_l05Ordered.l1 kq x3_2 x4_1 x5_2 = some r) ∧ Aside0 (kq ≤ k1) ∧ Aside0 (Kd.R (Kd.int .i64) 2 w' w.heap.size (fun _ => True) (.slice (some ad194) x3_1.length co11) x3_2) ∧ Aside0 (Below w.heap.size w w'))
       case atStart => exact ⟨(x3_1), (x4_1), (by first | rfl | (simp; done) | (simp [*]; done)), H', ⟨Nat.le_refl _⟩, ⟨kR HO_3.out⟩, ⟨bB⟩⟩
       case round =>
        clear H'
        try clear p1
        try clear q1
        try clear hx1
        try clear c2
        try clear p2
        try clear c6
        try clear c6b0
        try clear p6
        try clear c7
        try clear c7b0
        try clear c9
        try clear c9b0
        try clear c9b1
        try clear hx194_0
        try clear p194
        try clear p2
        try clear q194
        obtain ⟨x3_2, x5_2, rfl, HA, HK2, HO_3, HB⟩ := hrel
        have hl3_2 := (Kd.R_reads' HO_3.out).1
        rw [hl3_2] at HO_3
        (try simp only [hl3_2])
        cases gk with
        | zero => exact absurd HA.out (by simp [spec_l05Ordered.l1])
        | succ k2 =>
         have H := HA.out
         clear HA
         simp only [spec_l05Ordered.l1] at H
         by_cases c12 : x5_2 > 0
         ·rw [if_pos c12] at H
          have c12b0 : decide (0 < x5_2) = true := decide_eq_true c12
          clear c12
          obtain ⟨ji13, hji13⟩ : ∃ j_ : Int, (wrap64 (x5_2 - 1)) = j_ := ⟨_, rfl⟩
          replace H : (if 0 ≤ (ji13) then (if (ji13) < (x3_2.length : Int) then ((spec_l01Class.f k2 (rd x3_2 (ji13))).bind fun t197 => (if 0 ≤ x5_2 then (if x5_2 < (x3_2.length : Int) then ((spec_l01Class.f k2 (rd x3_2 x5_2)).bind fun t199 => (if t197 > t199 then (spec_l05Ordered.l1 k2 ((x3_2.set (x5_2 : Int).toNat (rd x3_2 (ji13))).set ((ji13) : Int).toNat (rd x3_2 x5_2)) x4_1 ji13) else (spec_l05Ordered.l0 k2 x3_2 (wrap64 (x4_1 + 1))))) else (none)) else (none))) else (none)) else (none)) = some r := by first | (rw [hji13] at H; exact H) | (simp only [hji13] at H ⊢; exact H)
          have hji13w : (IntKind.i64.wrap (x5_2 - 1)) = ji13 := (i64_w _).trans hji13
          by_cases c14 : 0 ≤ (ji13)
          ·rw [if_pos c14] at H
           have c14b0 : decide (0 ≤ (ji13)) = true := decide_eq_true c14
           clear c14
           by_cases c15 : (ji13) < (x3_2.length : Int)
           ·rw [if_pos c15] at H
            have c15b0 : decide ((ji13) < (x3_2.length : Int)) = true := decide_eq_true c15
            clear c15
            replace H := Option.bind_eq_some_iff.mp H
            obtain ⟨t197, A160, H⟩ := H
            replace H : (if 0 ≤ x5_2 then (if x5_2 < (x3_2.length : Int) then ((spec_l01Class.f k2 (rd x3_2 x5_2)).bind fun t199 => (if t197 > t199 then (spec_l05Ordered.l1 k2 ((x3_2.set (x5_2 : Int).toNat (rd x3_2 (ji13))).set ((ji13) : Int).toNat (rd x3_2 x5_2)) x4_1 ji13) else (spec_l05Ordered.l0 k2 x3_2 (wrap64 (x4_1 + 1))))) else (none)) else (none)) = some r := H
            have A16 := am A160
            clear A160
            by_cases c17 : 0 ≤ x5_2
            ·rw [if_pos c17] at H
             have c17b0 : decide (0 ≤ x5_2) = true := decide_eq_true c17
             clear c17
             by_cases c18 : x5_2 < (x3_2.length : Int)
             ·rw [if_pos c18] at H
              have c18b0 : decide (x5_2 < (x3_2.length : Int)) = true := decide_eq_true c18
              clear c18
              replace H := Option.bind_eq_some_iff.mp H
              obtain ⟨t199, A190, H⟩ := H
              replace H : (if t197 > t199 then (spec_l05Ordered.l1 k2 ((x3_2.set (x5_2 : Int).toNat (rd x3_2 (ji13))).set ((ji13) : Int).toNat (rd x3_2 x5_2)) x4_1 ji13) else (spec_l05Ordered.l0 k2 x3_2 (wrap64 (x4_1 + 1)))) = some r := H
              have A19 := am A190
              clear A190
              by_cases c20 : t197 > t199
              ·rw [if_pos c20] at H
               have c20b0 : decide (t199 < t197) = true := decide_eq_true c20
               clear c20
               obtain ⟨y202, hy202⟩ : ∃ y_ : List Int, y_ = (x3_2.set (x5_2 : Int).toNat (rd x3_2 (ji13))) := ⟨_, rfl⟩
               replace H : (spec_l05Ordered.l1 k2 (y202.set ((ji13) : Int).toNat (rd x3_2 x5_2)) x4_1 ji13) = some r := by first | (rw [hy202]; with_reducible exact H) | (have H2_ := (Option.bind_some _ _).symm.trans H; rw [hy202]; with_reducible exact H2_) | (have H2_ := (Option.bind_some _ _).symm.trans H; with_reducible exact H2_) | with_reducible exact H | (rw [hy202]; exact H) | exact H
               have Ny202 := am hy202
               clear hy202
               obtain ⟨y203, hy203⟩ : ∃ y_ : List Int, y_ = (y202.set ((ji13) : Int).toNat (rd x3_2 x5_2)) := ⟨_, rfl⟩
               replace H : (spec_l05Ordered.l1 k2 y203 x4_1 ji13) = some r := by first | (rw [hy203]; with_reducible exact H) | (have H2_ := (Option.bind_some _ _).symm.trans H; rw [hy203]; with_reducible exact H2_) | (have H2_ := (Option.bind_some _ _).symm.trans H; with_reducible exact H2_) | with_reducible exact H | (rw [hy203]; exact H) | exact H
               have Ny203 := am hy203
               clear hy203
               have H' := am H
               clear H
               have p196 : 0 ≤ ((ji13) : Int) := od
               have q196 : (ji13) < (x3_2.length : Int) := od
               obtain ⟨ad196, e196, hx196_0⟩ := Kd.at_int (Kd.R_reads' HO_3.out).2.2 (ji13) p196 q196
               obtain rfl : ad194 = ad196 := (by injection e196)
               replace p196 := eq_true p196
               replace q196 := eq_true q196
               go_wp2_with (first | (go_at_call 46; (with_reducible refine (spec_l01Class.calls k2 (rd x3_2 (ji13)) t197 _ A16.out).mono ?_); rintro e w' ⟨rfl, ⟨nd, rfl⟩⟩; (try first | exact ⟨rfl, _, World.drewN_drewN _ _ _⟩ | exact ⟨rfl, _, Eq.trans (World.drewN_drewN _ _ _) (congrArg (World.drewN _) (Nat.add_assoc _ _ _))⟩); have p198 : 0 ≤ (x5_2 : Int) := od; have q198 : x5_2 < (x3_2.length : Int) := od; obtain ⟨ad198, e198, hx198_0⟩ := Kd.at_int (Kd.R_reads' HO_3.out).2.2 x5_2 p198 q198; obtain rfl : ad194 = ad198 := (by injection e198); replace p198 := eq_true p198; replace q198 := eq_true q198) | (go_at_call 46; (with_reducible refine (spec_l01Class.calls k2 (rd x3_2 x5_2) t199 _ A19.out).mono ?_); rintro e w' ⟨rfl, ⟨nd, rfl⟩⟩; (try first | exact ⟨rfl, _, World.drewN_drewN _ _ _⟩ | exact ⟨rfl, _, Eq.trans (World.drewN_drewN _ _ _) (congrArg (World.drewN _) (Nat.add_assoc _ _ _))⟩); have p200 : 0 ≤ (x5_2 : Int) := od; have q200 : x5_2 < (x3_2.length : Int) := od; obtain ⟨ad200, e200, hx200_0⟩ := Kd.at_int (Kd.R_reads' HO_3.out).2.2 x5_2 p200 q200; obtain rfl : ad194 = ad200 := (by injection e200); replace p200 := eq_true p200; replace q200 := eq_true q200; have p201 : 0 ≤ ((ji13) : Int) := od; have q201 : (ji13) < (x3_2.length : Int) := od; obtain ⟨ad201, e201, hx201_0⟩ := Kd.at_int (Kd.R_reads' HO_3.out).2.2 (ji13) p201 q201; obtain rfl : ad194 = ad201 := (by injection e201); replace p201 := eq_true p201; replace q201 := eq_true q201; have p21 : 0 ≤ (x5_2 : Int) := od; have q21 : (x5_2 : Int) < ((x3_2.length : Int) : Int) := od; obtain ⟨go21, co21, eo21, gb21, gl21, cl21, HG21⟩ := Kd.R_form HO_3.out (by omega); (first | cases eo21 | (injection eo21 with ea_ en_ ec_; (first | subst ea_ | (injection ea_ with ea_; subst ea_)); subst ec_; clear en_)); have GB21 := am gb21; have GG21 := am HG21; clear gb21 gl21 HG21; (try simp only [add_plain] at *); (first | simp only [add_plain] at hx194_0 | skip); (first | simp only [add_plain] at hx196_0 | skip); (first | simp only [add_plain] at hx198_0 | skip); (first | simp only [add_plain] at hx200_0 | skip); (first | simp only [add_plain] at hx201_0 | skip); obtain ⟨hx21_0, hf21_0⟩ := Kd.R_celln 0 HO_3.out (x5_2 : Int) p21 q21; replace p21 := eq_true p21; replace q21 := eq_true q21; obtain ⟨hy23_, hz23_⟩ := Kd.R_celln 0 HO_3.out (x5_2 : Int) (od) (od); have HP23 := Kd.R_putg HO_3.out (x5_2 : Int) (rd x3_2 (ji13))) | ((with_reducible refine gate_store (t := 2) (p := 50) rfl ?_); (try (rw [drewN_self wr]; generalize hq_ : World.drewN wr _ = wr; have n0_ := am (Kd.R_at hq_ HO_3.out); have n1_ := am (below_at hq_ HB.out); clear hq_ HO_3 HB; have HO_3 := n0_; have HB := n1_; clear n0_ n1_; (try (obtain ⟨hy23_, hz23_⟩ := Kd.R_celln 0 HO_3.out (x5_2 : Int) (od) (od))); (try (have HP23 := Kd.R_putg HO_3.out (x5_2 : Int) (rd x3_2 (ji13)))))); refine store_event (t := 2) (p := 50) (v := ?vo_w24) (w1 := (wr.setCell ⟨go21, (x5_2 : Int).toNat, none⟩ (.int .i64 (rd x3_2 (ji13))))) ?hg ?ho ?hn ?hr ?_; (case ho => rfl); (case hg => rfl); (case hn => rfl); (case hr => first | (go_simp; done) | (go_simp; rfl)); intro w24 hw; have hg : wr.grownBy w24 (some go21) := (by rw [hw]; exact HP23.2); have hp_ : Kd.R (Kd.int .i64) 2 w24 w.heap.size (fun _ => True) (.slice (some ⟨go21, 0, none⟩) x3_2.length co11) y202 := (by rw [hw, Ny202.out]; exact HP23.1); clear HP23; replace HO_3 := am (hp_); replace HB := am ((by rw [hw]; exact below_set (HB.out) GB21.out : Below w.heap.size w w24)); clear hg hw hp_; have p22 : 0 ≤ ((ji13) : Int) := od; have q22 : ((ji13) : Int) < ((x3_2.length : Int) : Int) := od; obtain ⟨hx22_0, hf22_0⟩ := Kd.R_celln 0 HO_3.out ((ji13) : Int) p22 q22; replace p22 := eq_true p22; replace q22 := eq_true q22; obtain ⟨hy25_, hz25_⟩ := Kd.R_celln 0 HO_3.out ((ji13) : Int) (od) (od); have HP25 := Kd.R_putg HO_3.out ((ji13) : Int) (rd x3_2 x5_2)) | ((with_reducible refine gate_store (t := 2) (p := 55) rfl ?_); (try (rw [drewN_self w24]; generalize hq_ : World.drewN w24 _ = w24; have n0_ := am (Kd.R_at hq_ HO_3.out); have n1_ := am (below_at hq_ HB.out); clear hq_ HO_3 HB; have HO_3 := n0_; have HB := n1_; clear n0_ n1_; (try (obtain ⟨hy25_, hz25_⟩ := Kd.R_celln 0 HO_3.out ((ji13) : Int) (od) (od))); (try (have HP25 := Kd.R_putg HO_3.out ((ji13) : Int) (rd x3_2 x5_2))))); refine store_event (t := 2) (p := 55) (v := ?vo_w26) (w1 := (w24.setCell ⟨go21, ((ji13) : Int).toNat, none⟩ (.int .i64 (rd x3_2 x5_2)))) ?hg ?ho ?hn ?hr ?_; (case ho => rfl); (case hg => rfl); (case hn => rfl); (case hr => first | (go_simp; done) | (go_simp; rfl)); intro w26 hw; have hg : w24.grownBy w26 (some go21) := (by rw [hw]; exact HP25.2); have hp_ : Kd.R (Kd.int .i64) 2 w26 w.heap.size (fun _ => True) (.slice (some ⟨go21, 0, none⟩) x3_2.length co11) y203 := (by rw [hw, Ny203.out]; exact HP25.1); clear HP25; replace HO_3 := am (hp_); replace HB := am ((by rw [hw]; exact below_set (HB.out) GB21.out : Below w.heap.size w w26)); clear hg hw hp_))
               repeat (go_quiet (first | (go_at_call 46; (with_reducible refine (spec_l01Class.calls k2 (rd x3_2 (ji13)) t197 _ A16.out).mono ?_); rintro e w' ⟨rfl, ⟨nd, rfl⟩⟩; (try first | exact ⟨rfl, _, World.drewN_drewN _ _ _⟩ | exact ⟨rfl, _, Eq.trans (World.drewN_drewN _ _ _) (congrArg (World.drewN _) (Nat.add_assoc _ _ _))⟩); have p198 : 0 ≤ (x5_2 : Int) := od; have q198 : x5_2 < (x3_2.length : Int) := od; obtain ⟨ad198, e198, hx198_0⟩ := Kd.at_int (Kd.R_reads' HO_3.out).2.2 x5_2 p198 q198; obtain rfl : ad194 = ad198 := (by injection e198); replace p198 := eq_true p198; replace q198 := eq_true q198) | (go_at_call 46; (with_reducible refine (spec_l01Class.calls k2 (rd x3_2 x5_2) t199 _ A19.out).mono ?_); rintro e w' ⟨rfl, ⟨nd, rfl⟩⟩; (try first | exact ⟨rfl, _, World.drewN_drewN _ _ _⟩ | exact ⟨rfl, _, Eq.trans (World.drewN_drewN _ _ _) (congrArg (World.drewN _) (Nat.add_assoc _ _ _))⟩); have p200 : 0 ≤ (x5_2 : Int) := od; have q200 : x5_2 < (x3_2.length : Int) := od; obtain ⟨ad200, e200, hx200_0⟩ := Kd.at_int (Kd.R_reads' HO_3.out).2.2 x5_2 p200 q200; obtain rfl : ad194 = ad200 := (by injection e200); replace p200 := eq_true p200; replace q200 := eq_true q200; have p201 : 0 ≤ ((ji13) : Int) := od; have q201 : (ji13) < (x3_2.length : Int) := od; obtain ⟨ad201, e201, hx201_0⟩ := Kd.at_int (Kd.R_reads' HO_3.out).2.2 (ji13) p201 q201; obtain rfl : ad194 = ad201 := (by injection e201); replace p201 := eq_true p201; replace q201 := eq_true q201; have p21 : 0 ≤ (x5_2 : Int) := od; have q21 : (x5_2 : Int) < ((x3_2.length : Int) : Int) := od; obtain ⟨go21, co21, eo21, gb21, gl21, cl21, HG21⟩ := Kd.R_form HO_3.out (by omega); (first | cases eo21 | (injection eo21 with ea_ en_ ec_; (first | subst ea_ | (injection ea_ with ea_; subst ea_)); subst ec_; clear en_)); have GB21 := am gb21; have GG21 := am HG21; clear gb21 gl21 HG21; (try simp only [add_plain] at *); (first | simp only [add_plain] at hx194_0 | skip); (first | simp only [add_plain] at hx196_0 | skip); (first | simp only [add_plain] at hx198_0 | skip); (first | simp only [add_plain] at hx200_0 | skip); (first | simp only [add_plain] at hx201_0 | skip); obtain ⟨hx21_0, hf21_0⟩ := Kd.R_celln 0 HO_3.out (x5_2 : Int) p21 q21; replace p21 := eq_true p21; replace q21 := eq_true q21; obtain ⟨hy23_, hz23_⟩ := Kd.R_celln 0 HO_3.out (x5_2 : Int) (od) (od); have HP23 := Kd.R_putg HO_3.out (x5_2 : Int) (rd x3_2 (ji13))) | ((with_reducible refine gate_store (t := 2) (p := 50) rfl ?_); (try (rw [drewN_self wr]; generalize hq_ : World.drewN wr _ = wr; have n0_ := am (Kd.R_at hq_ HO_3.out); have n1_ := am (below_at hq_ HB.out); clear hq_ HO_3 HB; have HO_3 := n0_; have HB := n1_; clear n0_ n1_; (try (obtain ⟨hy23_, hz23_⟩ := Kd.R_celln 0 HO_3.out (x5_2 : Int) (od) (od))); (try (have HP23 := Kd.R_putg HO_3.out (x5_2 : Int) (rd x3_2 (ji13)))))); refine store_event (t := 2) (p := 50) (v := ?vo_w24) (w1 := (wr.setCell ⟨go21, (x5_2 : Int).toNat, none⟩ (.int .i64 (rd x3_2 (ji13))))) ?hg ?ho ?hn ?hr ?_; (case ho => rfl); (case hg => rfl); (case hn => rfl); (case hr => first | (go_simp; done) | (go_simp; rfl)); intro w24 hw; have hg : wr.grownBy w24 (some go21) := (by rw [hw]; exact HP23.2); have hp_ : Kd.R (Kd.int .i64) 2 w24 w.heap.size (fun _ => True) (.slice (some ⟨go21, 0, none⟩) x3_2.length co11) y202 := (by rw [hw, Ny202.out]; exact HP23.1); clear HP23; replace HO_3 := am (hp_); replace HB := am ((by rw [hw]; exact below_set (HB.out) GB21.out : Below w.heap.size w w24)); clear hg hw hp_; have p22 : 0 ≤ ((ji13) : Int) := od; have q22 : ((ji13) : Int) < ((x3_2.length : Int) : Int) := od; obtain ⟨hx22_0, hf22_0⟩ := Kd.R_celln 0 HO_3.out ((ji13) : Int) p22 q22; replace p22 := eq_true p22; replace q22 := eq_true q22; obtain ⟨hy25_, hz25_⟩ := Kd.R_celln 0 HO_3.out ((ji13) : Int) (od) (od); have HP25 := Kd.R_putg HO_3.out ((ji13) : Int) (rd x3_2 x5_2)) | ((with_reducible refine gate_store (t := 2) (p := 55) rfl ?_); (try (rw [drewN_self w24]; generalize hq_ : World.drewN w24 _ = w24; have n0_ := am (Kd.R_at hq_ HO_3.out); have n1_ := am (below_at hq_ HB.out); clear hq_ HO_3 HB; have HO_3 := n0_; have HB := n1_; clear n0_ n1_; (try (obtain ⟨hy25_, hz25_⟩ := Kd.R_celln 0 HO_3.out ((ji13) : Int) (od) (od))); (try (have HP25 := Kd.R_putg HO_3.out ((ji13) : Int) (rd x3_2 x5_2))))); refine store_event (t := 2) (p := 55) (v := ?vo_w26) (w1 := (w24.setCell ⟨go21, ((ji13) : Int).toNat, none⟩ (.int .i64 (rd x3_2 x5_2)))) ?hg ?ho ?hn ?hr ?_; (case ho => rfl); (case hg => rfl); (case hn => rfl); (case hr => first | (go_simp; done) | (go_simp; rfl)); intro w26 hw; have hg : w24.grownBy w26 (some go21) := (by rw [hw]; exact HP25.2); have hp_ : Kd.R (Kd.int .i64) 2 w26 w.heap.size (fun _ => True) (.slice (some ⟨go21, 0, none⟩) x3_2.length co11) y203 := (by rw [hw, Ny203.out]; exact HP25.1); clear HP25; replace HO_3 := am (hp_); replace HB := am ((by rw [hw]; exact below_set (HB.out) GB21.out : Below w.heap.size w w26)); clear hg hw hp_)); try go_wp2_with (first | (go_at_call 46; (with_reducible refine (spec_l01Class.calls k2 (rd x3_2 (ji13)) t197 _ A16.out).mono ?_); rintro e w' ⟨rfl, ⟨nd, rfl⟩⟩; (try first | exact ⟨rfl, _, World.drewN_drewN _ _ _⟩ | exact ⟨rfl, _, Eq.trans (World.drewN_drewN _ _ _) (congrArg (World.drewN _) (Nat.add_assoc _ _ _))⟩); have p198 : 0 ≤ (x5_2 : Int) := od; have q198 : x5_2 < (x3_2.length : Int) := od; obtain ⟨ad198, e198, hx198_0⟩ := Kd.at_int (Kd.R_reads' HO_3.out).2.2 x5_2 p198 q198; obtain rfl : ad194 = ad198 := (by injection e198); replace p198 := eq_true p198; replace q198 := eq_true q198) | (go_at_call 46; (with_reducible refine (spec_l01Class.calls k2 (rd x3_2 x5_2) t199 _ A19.out).mono ?_); rintro e w' ⟨rfl, ⟨nd, rfl⟩⟩; (try first | exact ⟨rfl, _, World.drewN_drewN _ _ _⟩ | exact ⟨rfl, _, Eq.trans (World.drewN_drewN _ _ _) (congrArg (World.drewN _) (Nat.add_assoc _ _ _))⟩); have p200 : 0 ≤ (x5_2 : Int) := od; have q200 : x5_2 < (x3_2.length : Int) := od; obtain ⟨ad200, e200, hx200_0⟩ := Kd.at_int (Kd.R_reads' HO_3.out).2.2 x5_2 p200 q200; obtain rfl : ad194 = ad200 := (by injection e200); replace p200 := eq_true p200; replace q200 := eq_true q200; have p201 : 0 ≤ ((ji13) : Int) := od; have q201 : (ji13) < (x3_2.length : Int) := od; obtain ⟨ad201, e201, hx201_0⟩ := Kd.at_int (Kd.R_reads' HO_3.out).2.2 (ji13) p201 q201; obtain rfl : ad194 = ad201 := (by injection e201); replace p201 := eq_true p201; replace q201 := eq_true q201; have p21 : 0 ≤ (x5_2 : Int) := od; have q21 : (x5_2 : Int) < ((x3_2.length : Int) : Int) := od; obtain ⟨go21, co21, eo21, gb21, gl21, cl21, HG21⟩ := Kd.R_form HO_3.out (by omega); (first | cases eo21 | (injection eo21 with ea_ en_ ec_; (first | subst ea_ | (injection ea_ with ea_; subst ea_)); subst ec_; clear en_)); have GB21 := am gb21; have GG21 := am HG21; clear gb21 gl21 HG21; (try simp only [add_plain] at *); (first | simp only [add_plain] at hx194_0 | skip); (first | simp only [add_plain] at hx196_0 | skip); (first | simp only [add_plain] at hx198_0 | skip); (first | simp only [add_plain] at hx200_0 | skip); (first | simp only [add_plain] at hx201_0 | skip); obtain ⟨hx21_0, hf21_0⟩ := Kd.R_celln 0 HO_3.out (x5_2 : Int) p21 q21; replace p21 := eq_true p21; replace q21 := eq_true q21; obtain ⟨hy23_, hz23_⟩ := Kd.R_celln 0 HO_3.out (x5_2 : Int) (od) (od); have HP23 := Kd.R_putg HO_3.out (x5_2 : Int) (rd x3_2 (ji13))) | ((with_reducible refine gate_store (t := 2) (p := 50) rfl ?_); (try (rw [drewN_self wr]; generalize hq_ : World.drewN wr _ = wr; have n0_ := am (Kd.R_at hq_ HO_3.out); have n1_ := am (below_at hq_ HB.out); clear hq_ HO_3 HB; have HO_3 := n0_; have HB := n1_; clear n0_ n1_; (try (obtain ⟨hy23_, hz23_⟩ := Kd.R_celln 0 HO_3.out (x5_2 : Int) (od) (od))); (try (have HP23 := Kd.R_putg HO_3.out (x5_2 : Int) (rd x3_2 (ji13)))))); refine store_event (t := 2) (p := 50) (v := ?vo_w24) (w1 := (wr.setCell ⟨go21, (x5_2 : Int).toNat, none⟩ (.int .i64 (rd x3_2 (ji13))))) ?hg ?ho ?hn ?hr ?_; (case ho => rfl); (case hg => rfl); (case hn => rfl); (case hr => first | (go_simp; done) | (go_simp; rfl)); intro w24 hw; have hg : wr.grownBy w24 (some go21) := (by rw [hw]; exact HP23.2); have hp_ : Kd.R (Kd.int .i64) 2 w24 w.heap.size (fun _ => True) (.slice (some ⟨go21, 0, none⟩) x3_2.length co11) y202 := (by rw [hw, Ny202.out]; exact HP23.1); clear HP23; replace HO_3 := am (hp_); replace HB := am ((by rw [hw]; exact below_set (HB.out) GB21.out : Below w.heap.size w w24)); clear hg hw hp_; have p22 : 0 ≤ ((ji13) : Int) := od; have q22 : ((ji13) : Int) < ((x3_2.length : Int) : Int) := od; obtain ⟨hx22_0, hf22_0⟩ := Kd.R_celln 0 HO_3.out ((ji13) : Int) p22 q22; replace p22 := eq_true p22; replace q22 := eq_true q22; obtain ⟨hy25_, hz25_⟩ := Kd.R_celln 0 HO_3.out ((ji13) : Int) (od) (od); have HP25 := Kd.R_putg HO_3.out ((ji13) : Int) (rd x3_2 x5_2)) | ((with_reducible refine gate_store (t := 2) (p := 55) rfl ?_); (try (rw [drewN_self w24]; generalize hq_ : World.drewN w24 _ = w24; have n0_ := am (Kd.R_at hq_ HO_3.out); have n1_ := am (below_at hq_ HB.out); clear hq_ HO_3 HB; have HO_3 := n0_; have HB := n1_; clear n0_ n1_; (try (obtain ⟨hy25_, hz25_⟩ := Kd.R_celln 0 HO_3.out ((ji13) : Int) (od) (od))); (try (have HP25 := Kd.R_putg HO_3.out ((ji13) : Int) (rd x3_2 x5_2))))); refine store_event (t := 2) (p := 55) (v := ?vo_w26) (w1 := (w24.setCell ⟨go21, ((ji13) : Int).toNat, none⟩ (.int .i64 (rd x3_2 x5_2)))) ?hg ?ho ?hn ?hr ?_; (case ho => rfl); (case hg => rfl); (case hn => rfl); (case hr => first | (go_simp; done) | (go_simp; rfl)); intro w26 hw; have hg : w24.grownBy w26 (some go21) := (by rw [hw]; exact HP25.2); have hp_ : Kd.R (Kd.int .i64) 2 w26 w.heap.size (fun _ => True) (.slice (some ⟨go21, 0, none⟩) x3_2.length co11) y203 := (by rw [hw, Ny203.out]; exact HP25.1); clear HP25; replace HO_3 := am (hp_); replace HB := am ((by rw [hw]; exact below_set (HB.out) GB21.out : Below w.heap.size w w26)); clear hg hw hp_)))
               (try simp only [← hl3_2])
               go_roundg k2
               case measure => have := HK1.out; have := HK2.out; omega
               case rel => exact ⟨(y203), (ji13), (by first | rfl | (simp; done) | (simp only [← hji13] <;> (first | rfl | simp)) | (simp [*]; done)), H', ⟨by have := HK1.out; have := HK2.out; omega⟩, ⟨by (try simp only [hl3_2]); (with_reducible repeat (first | apply Kd.R_alloc | apply Kd.R_drewN | apply Kd.R_drew)); exact HO_3.out⟩, ⟨bB⟩⟩
              ·rw [if_neg c20] at H
               have c20b0 : decide (t199 < t197) = false := decide_eq_false c20
               clear c20
               have H' := am H
               clear H
               have p196 : 0 ≤ ((ji13) : Int) := od
               have q196 : (ji13) < (x3_2.length : Int) := od
               obtain ⟨ad196, e196, hx196_0⟩ := Kd.at_int (Kd.R_reads' HO_3.out).2.2 (ji13) p196 q196
               obtain rfl : ad194 = ad196 := (by injection e196)
               replace p196 := eq_true p196
               replace q196 := eq_true q196
               go_wp2_with (first | (go_at_call 46; (with_reducible refine (spec_l01Class.calls k2 (rd x3_2 (ji13)) t197 _ A16.out).mono ?_); rintro e w' ⟨rfl, ⟨nd, rfl⟩⟩; (try first | exact ⟨rfl, _, World.drewN_drewN _ _ _⟩ | exact ⟨rfl, _, Eq.trans (World.drewN_drewN _ _ _) (congrArg (World.drewN _) (Nat.add_assoc _ _ _))⟩); have p198 : 0 ≤ (x5_2 : Int) := od; have q198 : x5_2 < (x3_2.length : Int) := od; obtain ⟨ad198, e198, hx198_0⟩ := Kd.at_int (Kd.R_reads' HO_3.out).2.2 x5_2 p198 q198; obtain rfl : ad194 = ad198 := (by injection e198); replace p198 := eq_true p198; replace q198 := eq_true q198) | (go_at_call 46; (with_reducible refine (spec_l01Class.calls k2 (rd x3_2 x5_2) t199 _ A19.out).mono ?_); rintro e w' ⟨rfl, ⟨nd, rfl⟩⟩; (try first | exact ⟨rfl, _, World.drewN_drewN _ _ _⟩ | exact ⟨rfl, _, Eq.trans (World.drewN_drewN _ _ _) (congrArg (World.drewN _) (Nat.add_assoc _ _ _))⟩)))
               repeat (go_quiet (first | (go_at_call 46; (with_reducible refine (spec_l01Class.calls k2 (rd x3_2 (ji13)) t197 _ A16.out).mono ?_); rintro e w' ⟨rfl, ⟨nd, rfl⟩⟩; (try first | exact ⟨rfl, _, World.drewN_drewN _ _ _⟩ | exact ⟨rfl, _, Eq.trans (World.drewN_drewN _ _ _) (congrArg (World.drewN _) (Nat.add_assoc _ _ _))⟩); have p198 : 0 ≤ (x5_2 : Int) := od; have q198 : x5_2 < (x3_2.length : Int) := od; obtain ⟨ad198, e198, hx198_0⟩ := Kd.at_int (Kd.R_reads' HO_3.out).2.2 x5_2 p198 q198; obtain rfl : ad194 = ad198 := (by injection e198); replace p198 := eq_true p198; replace q198 := eq_true q198) | (go_at_call 46; (with_reducible refine (spec_l01Class.calls k2 (rd x3_2 x5_2) t199 _ A19.out).mono ?_); rintro e w' ⟨rfl, ⟨nd, rfl⟩⟩; (try first | exact ⟨rfl, _, World.drewN_drewN _ _ _⟩ | exact ⟨rfl, _, Eq.trans (World.drewN_drewN _ _ _) (congrArg (World.drewN _) (Nat.add_assoc _ _ _))⟩))); try go_wp2_with (first | (go_at_call 46; (with_reducible refine (spec_l01Class.calls k2 (rd x3_2 (ji13)) t197 _ A16.out).mono ?_); rintro e w' ⟨rfl, ⟨nd, rfl⟩⟩; (try first | exact ⟨rfl, _, World.drewN_drewN _ _ _⟩ | exact ⟨rfl, _, Eq.trans (World.drewN_drewN _ _ _) (congrArg (World.drewN _) (Nat.add_assoc _ _ _))⟩); have p198 : 0 ≤ (x5_2 : Int) := od; have q198 : x5_2 < (x3_2.length : Int) := od; obtain ⟨ad198, e198, hx198_0⟩ := Kd.at_int (Kd.R_reads' HO_3.out).2.2 x5_2 p198 q198; obtain rfl : ad194 = ad198 := (by injection e198); replace p198 := eq_true p198; replace q198 := eq_true q198) | (go_at_call 46; (with_reducible refine (spec_l01Class.calls k2 (rd x3_2 x5_2) t199 _ A19.out).mono ?_); rintro e w' ⟨rfl, ⟨nd, rfl⟩⟩; (try first | exact ⟨rfl, _, World.drewN_drewN _ _ _⟩ | exact ⟨rfl, _, Eq.trans (World.drewN_drewN _ _ _) (congrArg (World.drewN _) (Nat.add_assoc _ _ _))⟩))))
               (try simp only [← hl3_2])
               go_roundg k2
               case measure => have := HK1.out; have := HK2.out; omega
               case rel => exact ⟨(x3_2), (wrap64 (x4_1 + 1)), (by first | rfl | (simp; done) | (simp [*]; done)), H', ⟨by have := HK1.out; have := HK2.out; omega⟩, ⟨by (try simp only [hl3_2]); (with_reducible repeat (first | apply Kd.R_alloc | apply Kd.R_drewN | apply Kd.R_drew)); exact HO_3.out⟩, ⟨bB⟩⟩
             ·rw [if_neg c18] at H
              exact absurd H (by simp)
            ·rw [if_neg c17] at H
             exact absurd H (by simp)
           ·rw [if_neg c15] at H
            exact absurd H (by simp)
          ·rw [if_neg c14] at H
           exact absurd H (by simp)
         ·rw [if_neg c12] at H
          have c12b0 : decide (0 < x5_2) = false := decide_eq_false c12
          clear c12
          have H' := am H
          clear H
          go_wp2
          repeat (go_quiet (fail); try go_wp2)
          (try simp only [← hl3_2])
          go_roundg k2
          case measure => have := HK1.out; have := HK2.out; omega
          case rel => exact ⟨(x3_2), (wrap64 (x4_1 + 1)), (by first | rfl | (simp; done) | (simp [*]; done)), H', ⟨by have := HK1.out; have := HK2.out; omega⟩, ⟨by (try simp only [hl3_2]); (with_reducible repeat (first | apply Kd.R_alloc | apply Kd.R_drewN | apply Kd.R_drew)); exact HO_3.out⟩, ⟨bB⟩⟩
     ·rw [if_neg c7] at H
      exact absurd H (by simp)
    ·rw [if_neg c6] at H
     have c6b0 : decide (x4_1 < (x3_1.length : Int)) = false := decide_eq_false c6
     clear c6
     obtain rfl := Option.some.inj H
     obtain ⟨Ao27, co27, eo27⟩ := Kd.R_slice HO_3.out
     subst eo27
     go_wp2
     repeat (go_quiet (fail); try go_wp2)
     go_ret
     exact ⟨_, rv, kR HO_3.out, bB⟩
 ·rw [if_neg c2] at H
  exact absurd H (by simp)
def spec_l05LetterAt.j0 : Nat → Int → Bool → Option (Int)
 | 0, _, _ => none
 | k + 1, x0, x3 => if x3 = true then (some (wrap64 (x0 - 65))) else (if x0 ≥ 97 then (if x0 ≤ 122 then (some (wrap64 ((wrap64 (x0 - 97)) + 26))) else (some (-1))) else (some (-1)))
def spec_l05LetterAt.f (k : Nat) (a0 : Int) : Option (Int) := if a0 ≥ 65 then (spec_l05LetterAt.j0 k a0 (decide (a0 ≤ 90))) else (spec_l05LetterAt.j0 k a0 false)
set_option maxHeartbeats 8000000 in
set_option maxRecDepth 100000 in
theorem spec_l05LetterAt.calls (k : Nat) (a0 : Int) (r : Int) (w : World) (h : spec_l05LetterAt.f k a0 = some r) :
  Calls Tryd.prog 99 #[.int .i64 a0] w fun e w' => e = .returned (.int .i64 r) ∧ Drawn0 w w' := by
 have H : (if a0 ≥ 65 then (spec_l05LetterAt.j0 k a0 (decide (a0 ≤ 90))) else (spec_l05LetterAt.j0 k a0 false)) = some r := h
 clear h
 have HC2 := am H
 clear H
 go_enter Tryd.func99, Tryd.ntmps99
 go_upto_region 1 with (fail)
 go_cut [3] (fun v3 wc => ∃ (kq : Nat) (x3_1 : Bool), v3 = .bool x3_1 ∧ Aside0 (spec_l05LetterAt.j0 kq a0 x3_1 = some r) ∧ Aside0 (kq ≤ k) ∧ Drawn0 w wc)
 case first =>
  have H := HC2.out
  clear HC2
  by_cases c3 : a0 ≥ 65
  ·rw [if_pos c3] at H
   have c3b0 : decide (65 ≤ a0) = true := decide_eq_true c3
   clear c3
   (first | rw [c3b0] | (simp only [i64_w, i32_w]; rw [c3b0]) | skip)
   have H' := am H
   clear H
   go_wp2
   go_meet
   case rel => exact ⟨_, (decide (a0 ≤ 90)), (by first | rfl | (simp; done) | (simp [*]; done)), H', ⟨by first | omega | exact Nat.le_refl _⟩, by repeat (first | exact Drawn0.refl _ | apply Drawn0.step)⟩
  ·rw [if_neg c3] at H
   have c3b0 : decide (65 ≤ a0) = false := decide_eq_false c3
   clear c3
   (first | rw [c3b0] | (simp only [i64_w, i32_w]; rw [c3b0]) | skip)
   have H' := am H
   clear H
   go_wp2
   go_meet
   case rel => exact ⟨_, (false), (by first | rfl | (simp; done) | (simp [*]; done)), H', ⟨by first | omega | exact Nat.le_refl _⟩, by repeat (first | exact Drawn0.refl _ | apply Drawn0.step)⟩
 case rest =>
  clear HC2
  try clear p2
  try clear c3
  try clear c3b0
  obtain ⟨kq, x3_1, rfl, HA, HJ1, ⟨mc1, rfl⟩⟩ := hcut
  cases kq with
  | zero => exact absurd HA.out (by simp [spec_l05LetterAt.j0])
  | succ kj1 =>
   have H := HA.out
   clear HA
   simp only [spec_l05LetterAt.j0] at H
   by_cases c4 : x3_1 = true
   ·subst c4
    have H1 : (some (wrap64 (a0 - 65))) = some r := by rw [if_pos rfl] at H; exact H
    clear H
    have H := H1
    clear H1
    obtain rfl := Option.some.inj H
    go_wp2
    go_ret
    exact rdd
   ·replace c4 := Bool.eq_false_iff.mpr c4
    subst c4
    have H1 : (if a0 ≥ 97 then (if a0 ≤ 122 then (some (wrap64 ((wrap64 (a0 - 97)) + 26))) else (some (-1))) else (some (-1))) = some r := by rw [if_neg (show ¬ (false = true) by decide)] at H; exact H
    clear H
    have H := H1
    clear H1
    by_cases c5 : a0 ≥ 97
    ·rw [if_pos c5] at H
     have c5b0 : decide (97 ≤ a0) = true := decide_eq_true c5
     clear c5
     by_cases c6 : a0 ≤ 122
     ·rw [if_pos c6] at H
      have c6b0 : decide (a0 ≤ 122) = true := decide_eq_true c6
      clear c6
      obtain rfl := Option.some.inj H
      go_wp2
      go_ret
      exact rdd
     ·rw [if_neg c6] at H
      have c6b0 : decide (a0 ≤ 122) = false := decide_eq_false c6
      clear c6
      obtain rfl := Option.some.inj H
      go_wp2
      go_ret
      exact rdd
    ·rw [if_neg c5] at H
     have c5b0 : decide (97 ≤ a0) = false := decide_eq_false c5
     clear c5
     obtain rfl := Option.some.inj H
     go_wp2
     go_ret
     exact rdd
end Go.Proofs.YtnbedmihgnjdpaaDoor.PFnExactCollatorFault

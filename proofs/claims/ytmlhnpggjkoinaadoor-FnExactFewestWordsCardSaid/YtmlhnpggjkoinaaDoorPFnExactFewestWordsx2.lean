-- Written by a program of this session (wip/tools/myprint.py) that runs the kit's print with hooks of its own. Lean checks it.
import Derived.Test.YtmlhnpggjkoinaaDoorPFnExactFewestWordsx0
import Derived.Test.YtmlhnpggjkoinaaDoorSlimMore
namespace Go.Proofs.YtmlhnpggjkoinaaDoor.PFnExactFewestWords
open Go.RowKit Go.Proofs.YtmlhnpggjkoinaaDoorW.PrintWords Go.Proofs.YtmlhnpggjkoinaaDoorW.PrintLast Go.Proofs.YtmlhnpggjkoinaaDoorW.PrintMore
attribute [local go_sem] max2_int min2_int max_two min_two max_three min_three max_four min_four   -- for this text's walks alone
set_option linter.unusedVariables false
set_option linter.unusedSimpArgs false

/-! ### spec_l01IsPoint: function 122 -/
def spec_l01IsPoint.f (a0 : Int) : Option (Bool) := if a0 ≥ 0 then (if a0 ≤ 1114111 then (if a0 < 55296 then (some true) else (some (decide (a0 > 57343)))) else (some false)) else (some false)
set_option maxHeartbeats 8000000 in
set_option maxRecDepth 100000 in
theorem spec_l01IsPoint.calls (a0 : Int) (r : Bool) (w : World) (h : spec_l01IsPoint.f a0 = some r) :
    Calls Tryd.prog 122 #[.int .i64 a0] w fun e w' => e = .returned (.bool r) ∧ Drawn0 w w' := by
  have H : (if a0 ≥ 0 then (if a0 ≤ 1114111 then (if a0 < 55296 then (some true) else (some (decide (a0 > 57343)))) else (some false)) else (some false)) = some r := h
  clear h
  by_cases c2 : a0 ≥ 0
  · rw [if_pos c2] at H
    have c2b0 : decide (0 ≤ a0) = true := decide_eq_true c2
    clear c2
    by_cases c3 : a0 ≤ 1114111
    · rw [if_pos c3] at H
      have c3b0 : decide (a0 ≤ 1114111) = true := decide_eq_true c3
      clear c3
      by_cases c4 : a0 < 55296
      · rw [if_pos c4] at H
        have c4b0 : decide (a0 < 55296) = true := decide_eq_true c4
        clear c4
        obtain rfl := Option.some.inj H
        go_enter Tryd.func122, Tryd.ntmps122
        go_wp2
        go_ret
        exact rdd
      · rw [if_neg c4] at H
        have c4b0 : decide (a0 < 55296) = false := decide_eq_false c4
        clear c4
        obtain rfl := Option.some.inj H
        go_enter Tryd.func122, Tryd.ntmps122
        go_wp2
        go_ret
        exact rdd
    · rw [if_neg c3] at H
      have c3b0 : decide (a0 ≤ 1114111) = false := decide_eq_false c3
      clear c3
      obtain rfl := Option.some.inj H
      go_enter Tryd.func122, Tryd.ntmps122
      go_wp2
      go_ret
      exact rdd
  · rw [if_neg c2] at H
    have c2b0 : decide (0 ≤ a0) = false := decide_eq_false c2
    clear c2
    obtain rfl := Option.some.inj H
    go_enter Tryd.func122, Tryd.ntmps122
    go_wp2
    go_ret
    exact rdd

/-! ### spec_l01Write: function 105 -/
def spec_l01Write.j0 : Nat → Int → Option (ByteArray)
  | 0, _ => none
  | k + 1, x0 => if x0 < 128 then (some (strOfNums (([(x0) % 256] : List Int)))) else (if x0 < 2048 then (some (strOfNums (([(wrap64 (192 + (wrap64 (Int.tdiv x0 64)))) % 256, (wrap64 (128 + (Int.tmod x0 64))) % 256] : List Int)))) else (if x0 < 65536 then (some (strOfNums (([(wrap64 (224 + (wrap64 (Int.tdiv x0 4096)))) % 256, (wrap64 (128 + (Int.tmod (wrap64 (Int.tdiv x0 64)) 64))) % 256, (wrap64 (128 + (Int.tmod x0 64))) % 256] : List Int)))) else (some (strOfNums (([(wrap64 (240 + (wrap64 (Int.tdiv x0 262144)))) % 256, (wrap64 (128 + (Int.tmod (wrap64 (Int.tdiv x0 4096)) 64))) % 256, (wrap64 (128 + (Int.tmod (wrap64 (Int.tdiv x0 64)) 64))) % 256, (wrap64 (128 + (Int.tmod x0 64))) % 256] : List Int))))))
def spec_l01Write.f (k : Nat) (a0 : Int) : Option (ByteArray) := (spec_l01IsPoint.f a0).bind fun t116 => (if t116 = true then (spec_l01Write.j0 k a0) else (spec_l01Write.j0 k 65533))
theorem spec_l01Write.mono_l : ∀ k, (∀ y0, LeO (spec_l01Write.j0 k y0) (spec_l01Write.j0 (k + 1) y0))
  | 0 => fun _ r h => by simp [spec_l01Write.j0] at h
  | k + 1 => by
    have ih0 := spec_l01Write.mono_l k
    · intro y0
      unfold spec_l01Write.j0
      repeat' first
      | (with_reducible exact ih0 _)
      | (with_reducible exact LeO.refl _)
      | (with_reducible exact LeO.none _)
      | (with_reducible refine LeO.ite ?_ ?_)
      | (with_reducible refine LeO.bind ?_ (fun _ => ?_))
      | exact ih0 _
      | exact LeO.none _
      | refine LeO.ite ?_ ?_
      | refine LeO.bind ?_ (fun _ => ?_)
theorem spec_l01Write.mono : ∀ a0 k, LeO (spec_l01Write.f k a0) (spec_l01Write.f (k + 1) a0) := by
  intro a0 k
  have ih0 := spec_l01Write.mono_l k
  unfold spec_l01Write.f
  repeat' first
      | (with_reducible exact ih0 _)
      | (with_reducible exact LeO.refl _)
      | (with_reducible exact LeO.none _)
      | (with_reducible refine LeO.ite ?_ ?_)
      | (with_reducible refine LeO.bind ?_ (fun _ => ?_))
      | exact ih0 _
      | exact LeO.none _
      | refine LeO.ite ?_ ?_
      | refine LeO.bind ?_ (fun _ => ?_)
set_option maxHeartbeats 8000000 in
set_option maxRecDepth 100000 in
theorem spec_l01Write.calls (k : Nat) (a0 : Int) (r : ByteArray) (w : World) (h : spec_l01Write.f k a0 = some r) :
    Calls Tryd.prog 105 #[.int .i64 a0] w fun e w' => e = .returned (.string r) ∧ Below w.heap.size w w' := by
  have HB := am (Below.refl w.heap.size w)
  have H : ((spec_l01IsPoint.f a0).bind fun t116 => (if t116 = true then (spec_l01Write.j0 k a0) else (spec_l01Write.j0 k 65533))) = some r := h
  clear h
  replace H := Option.bind_eq_some_iff.mp H
  obtain ⟨t116, A20, H⟩ := H
  replace H : (if t116 = true then (spec_l01Write.j0 k a0) else (spec_l01Write.j0 k 65533)) = some r := H
  have A2 := am A20
  clear A20
  have HC3 := am H
  clear H
  go_enter Tryd.func105, Tryd.ntmps105
  go_upto_if 5 with (first | ((with_reducible refine gate_callee (f := 122) rfl ?_); refine gl 4 Tryd.func122 #[.int .i64 a0] ?_; (with_reducible refine (spec_l01IsPoint.calls a0 t116 _ A2.out).mono ?_); rintro e w' ⟨rfl, ⟨nd, rfl⟩⟩; refine ⟨_, rfl, ?_⟩))
  (try simp only [Act.put, List.setIfInBounds_toArray, List.set_cons_zero, List.set_cons_succ])
  go_cut [0] (fun v0 wc => ∃ (kq : Nat) (x0_2 : Int), v0 = .int .i64 x0_2 ∧ Aside0 (spec_l01Write.j0 kq x0_2 = some r) ∧ Aside0 (kq ≤ k) ∧ Aside0 (Below w.heap.size w wc))
  case first =>
    have H := HC3.out
    clear HC3
    by_cases c4 : t116 = true
    · subst c4
      have H1 : (spec_l01Write.j0 k a0) = some r := by rw [if_pos rfl] at H; exact H
      clear H
      have H := H1
      clear H1
      have H' := am H
      clear H
      go_wp2
      go_meet
      case rel => exact ⟨_, (a0), (by first | rfl | (simp; done) | (simp [*]; done)), H', ⟨by first | omega | exact Nat.le_refl _⟩, ⟨bB⟩⟩
    · replace c4 := Bool.eq_false_iff.mpr c4
      subst c4
      have H1 : (spec_l01Write.j0 k 65533) = some r := by rw [if_neg (show ¬ (false = true) by decide)] at H; exact H
      clear H
      have H := H1
      clear H1
      have H' := am H
      clear H
      go_wp2
      go_meet
      case rel => exact ⟨_, (65533), (by first | rfl | (simp; done) | (simp [*]; done)), H', ⟨by first | omega | exact Nat.le_refl _⟩, ⟨bB⟩⟩
  case rest =>
    clear HC3
    try clear c1
    try clear p2
    try clear c4
    obtain ⟨kq, x0_2, rfl, HA, HJ2, HB⟩ := hcut
    cases kq with
    | zero => exact absurd HA.out (by simp [spec_l01Write.j0])
    | succ kj2 =>
      have H := HA.out
      clear HA
      simp only [spec_l01Write.j0] at H
      by_cases c5 : x0_2 < 128
      · rw [if_pos c5] at H
        have c5b0 : decide (x0_2 < 128) = true := decide_eq_true c5
        clear c5
        obtain ⟨y117, hy117⟩ : ∃ y_ : List Int, y_ = (([(x0_2) % 256] : List Int)) := ⟨_, rfl⟩
        replace H : (some (strOfNums y117)) = some r := by first | (rw [hy117]; with_reducible exact H) | (have H2_ := (Option.bind_some _ _).symm.trans H; rw [hy117]; with_reducible exact H2_) | (have H2_ := (Option.bind_some _ _).symm.trans H; with_reducible exact H2_) | with_reducible exact H | (rw [hy117]; exact H) | exact H
        have Ny117 := am hy117
        clear hy117
        obtain rfl := Option.some.inj H
        go_wp2_with (first | ((with_reducible refine gate_dst (N := 11) rfl ?_); refine Kd.R_lit (Kd.int .u8) _ 5 ?hg (N := 11) ?hd (xs := ([(x0_2) % 256] : List Int)) (inner := [.int .u8 ((x0_2) % 256)]) (ok := fun _ => True) (okp := fun _ => True) ?hr ?hp (fun _ hk => hk) trivial (Below.refl _ _) (Nat.le_refl _) (by simp) ?_; (case hd => rfl); (case hg => rfl); (case hr => first | (go_simp; done) | (go_simp; rfl)); (case hp => exact (Reps.one (show Kd.M (Kd.int .u8) _ _ _ ((x0_2) % 256) [.int .u8 ((x0_2) % 256)] from rfl) (Reps.none _ _))); intro v118 w6 ho7 hb hg_ hnew_; clear hg_ hnew_; (first | rw [← Ny117.out] at ho7 | (simp only [Int.reduceToNat] at ho7; rw [← Ny117.out] at ho7)); have HO119 := am (Kd.R_lower ho7 (below_size bB)); replace HB := am (below_step bB hb); clear hb ho7; have hcv8 := own_string (P := Tryd.prog) Tryd.underlying80 Tryd.underlying5 Tryd.underlying9 (Kd.own_of_R HO119.out)))
        go_ret
        exact ⟨rv, bB⟩
      · rw [if_neg c5] at H
        have c5b0 : decide (x0_2 < 128) = false := decide_eq_false c5
        clear c5
        by_cases c9 : x0_2 < 2048
        · rw [if_pos c9] at H
          have c9b0 : decide (x0_2 < 2048) = true := decide_eq_true c9
          clear c9
          obtain ⟨y120, hy120⟩ : ∃ y_ : List Int, y_ = (([(wrap64 (192 + (wrap64 (Int.tdiv x0_2 64)))) % 256, (wrap64 (128 + (Int.tmod x0_2 64))) % 256] : List Int)) := ⟨_, rfl⟩
          replace H : (some (strOfNums y120)) = some r := by first | (rw [hy120]; with_reducible exact H) | (have H2_ := (Option.bind_some _ _).symm.trans H; rw [hy120]; with_reducible exact H2_) | (have H2_ := (Option.bind_some _ _).symm.trans H; with_reducible exact H2_) | with_reducible exact H | (rw [hy120]; exact H) | exact H
          have Ny120 := am hy120
          clear hy120
          obtain rfl := Option.some.inj H
          go_wp2_with (first | ((with_reducible refine gate_dst (N := 24) rfl ?_); refine Kd.R_lit (Kd.int .u8) _ 5 ?hg (N := 24) ?hd (xs := ([(wrap64 (192 + (wrap64 (Int.tdiv x0_2 64)))) % 256, (wrap64 (128 + (Int.tmod x0_2 64))) % 256] : List Int)) (inner := [.int .u8 ((wrap64 (192 + (wrap64 (Int.tdiv x0_2 64)))) % 256), .int .u8 ((wrap64 (128 + (Int.tmod x0_2 64))) % 256)]) (ok := fun _ => True) (okp := fun _ => True) ?hr ?hp (fun _ hk => hk) trivial (Below.refl _ _) (Nat.le_refl _) (by simp) ?_; (case hd => rfl); (case hg => rfl); (case hr => first | (go_simp; done) | (go_simp; rfl)); (case hp => exact (Reps.one (show Kd.M (Kd.int .u8) _ _ _ ((wrap64 (192 + (wrap64 (Int.tdiv x0_2 64)))) % 256) [.int .u8 ((wrap64 (192 + (wrap64 (Int.tdiv x0_2 64)))) % 256)] from rfl) (Reps.one (show Kd.M (Kd.int .u8) _ _ _ ((wrap64 (128 + (Int.tmod x0_2 64))) % 256) [.int .u8 ((wrap64 (128 + (Int.tmod x0_2 64))) % 256)] from rfl) (Reps.none _ _)))); intro v121 w10 ho11 hb hg_ hnew_; clear hg_ hnew_; (first | rw [← Ny120.out] at ho11 | (simp only [Int.reduceToNat] at ho11; rw [← Ny120.out] at ho11)); have HO122 := am (Kd.R_lower ho11 (below_size bB)); replace HB := am (below_step bB hb); clear hb ho11; have hcv12 := own_string (P := Tryd.prog) Tryd.underlying80 Tryd.underlying5 Tryd.underlying9 (Kd.own_of_R HO122.out)))
          go_ret
          exact ⟨rv, bB⟩
        · rw [if_neg c9] at H
          have c9b0 : decide (x0_2 < 2048) = false := decide_eq_false c9
          clear c9
          by_cases c13 : x0_2 < 65536
          · rw [if_pos c13] at H
            have c13b0 : decide (x0_2 < 65536) = true := decide_eq_true c13
            clear c13
            obtain ⟨y123, hy123⟩ : ∃ y_ : List Int, y_ = (([(wrap64 (224 + (wrap64 (Int.tdiv x0_2 4096)))) % 256, (wrap64 (128 + (Int.tmod (wrap64 (Int.tdiv x0_2 64)) 64))) % 256, (wrap64 (128 + (Int.tmod x0_2 64))) % 256] : List Int)) := ⟨_, rfl⟩
            replace H : (some (strOfNums y123)) = some r := by first | (rw [hy123]; with_reducible exact H) | (have H2_ := (Option.bind_some _ _).symm.trans H; rw [hy123]; with_reducible exact H2_) | (have H2_ := (Option.bind_some _ _).symm.trans H; with_reducible exact H2_) | with_reducible exact H | (rw [hy123]; exact H) | exact H
            have Ny123 := am hy123
            clear hy123
            obtain rfl := Option.some.inj H
            go_wp2_with (first | ((with_reducible refine gate_dst (N := 42) rfl ?_); refine Kd.R_lit (Kd.int .u8) _ 5 ?hg (N := 42) ?hd (xs := ([(wrap64 (224 + (wrap64 (Int.tdiv x0_2 4096)))) % 256, (wrap64 (128 + (Int.tmod (wrap64 (Int.tdiv x0_2 64)) 64))) % 256, (wrap64 (128 + (Int.tmod x0_2 64))) % 256] : List Int)) (inner := [.int .u8 ((wrap64 (224 + (wrap64 (Int.tdiv x0_2 4096)))) % 256), .int .u8 ((wrap64 (128 + (Int.tmod (wrap64 (Int.tdiv x0_2 64)) 64))) % 256), .int .u8 ((wrap64 (128 + (Int.tmod x0_2 64))) % 256)]) (ok := fun _ => True) (okp := fun _ => True) ?hr ?hp (fun _ hk => hk) trivial (Below.refl _ _) (Nat.le_refl _) (by simp) ?_; (case hd => rfl); (case hg => rfl); (case hr => first | (go_simp; done) | (go_simp; rfl)); (case hp => exact (Reps.one (show Kd.M (Kd.int .u8) _ _ _ ((wrap64 (224 + (wrap64 (Int.tdiv x0_2 4096)))) % 256) [.int .u8 ((wrap64 (224 + (wrap64 (Int.tdiv x0_2 4096)))) % 256)] from rfl) (Reps.one (show Kd.M (Kd.int .u8) _ _ _ ((wrap64 (128 + (Int.tmod (wrap64 (Int.tdiv x0_2 64)) 64))) % 256) [.int .u8 ((wrap64 (128 + (Int.tmod (wrap64 (Int.tdiv x0_2 64)) 64))) % 256)] from rfl) (Reps.one (show Kd.M (Kd.int .u8) _ _ _ ((wrap64 (128 + (Int.tmod x0_2 64))) % 256) [.int .u8 ((wrap64 (128 + (Int.tmod x0_2 64))) % 256)] from rfl) (Reps.none _ _))))); intro v124 w14 ho15 hb hg_ hnew_; clear hg_ hnew_; (first | rw [← Ny123.out] at ho15 | (simp only [Int.reduceToNat] at ho15; rw [← Ny123.out] at ho15)); have HO125 := am (Kd.R_lower ho15 (below_size bB)); replace HB := am (below_step bB hb); clear hb ho15; have hcv16 := own_string (P := Tryd.prog) Tryd.underlying80 Tryd.underlying5 Tryd.underlying9 (Kd.own_of_R HO125.out)))
            go_ret
            exact ⟨rv, bB⟩
          · rw [if_neg c13] at H
            have c13b0 : decide (x0_2 < 65536) = false := decide_eq_false c13
            clear c13
            obtain ⟨y126, hy126⟩ : ∃ y_ : List Int, y_ = (([(wrap64 (240 + (wrap64 (Int.tdiv x0_2 262144)))) % 256, (wrap64 (128 + (Int.tmod (wrap64 (Int.tdiv x0_2 4096)) 64))) % 256, (wrap64 (128 + (Int.tmod (wrap64 (Int.tdiv x0_2 64)) 64))) % 256, (wrap64 (128 + (Int.tmod x0_2 64))) % 256] : List Int)) := ⟨_, rfl⟩
            replace H : (some (strOfNums y126)) = some r := by first | (rw [hy126]; with_reducible exact H) | (have H2_ := (Option.bind_some _ _).symm.trans H; rw [hy126]; with_reducible exact H2_) | (have H2_ := (Option.bind_some _ _).symm.trans H; with_reducible exact H2_) | with_reducible exact H | (rw [hy126]; exact H) | exact H
            have Ny126 := am hy126
            clear hy126
            obtain rfl := Option.some.inj H
            go_wp2_with (first | ((with_reducible refine gate_dst (N := 62) rfl ?_); refine Kd.R_lit (Kd.int .u8) _ 5 ?hg (N := 62) ?hd (xs := ([(wrap64 (240 + (wrap64 (Int.tdiv x0_2 262144)))) % 256, (wrap64 (128 + (Int.tmod (wrap64 (Int.tdiv x0_2 4096)) 64))) % 256, (wrap64 (128 + (Int.tmod (wrap64 (Int.tdiv x0_2 64)) 64))) % 256, (wrap64 (128 + (Int.tmod x0_2 64))) % 256] : List Int)) (inner := [.int .u8 ((wrap64 (240 + (wrap64 (Int.tdiv x0_2 262144)))) % 256), .int .u8 ((wrap64 (128 + (Int.tmod (wrap64 (Int.tdiv x0_2 4096)) 64))) % 256), .int .u8 ((wrap64 (128 + (Int.tmod (wrap64 (Int.tdiv x0_2 64)) 64))) % 256), .int .u8 ((wrap64 (128 + (Int.tmod x0_2 64))) % 256)]) (ok := fun _ => True) (okp := fun _ => True) ?hr ?hp (fun _ hk => hk) trivial (Below.refl _ _) (Nat.le_refl _) (by simp) ?_; (case hd => rfl); (case hg => rfl); (case hr => first | (go_simp; done) | (go_simp; rfl)); (case hp => exact (Reps.one (show Kd.M (Kd.int .u8) _ _ _ ((wrap64 (240 + (wrap64 (Int.tdiv x0_2 262144)))) % 256) [.int .u8 ((wrap64 (240 + (wrap64 (Int.tdiv x0_2 262144)))) % 256)] from rfl) (Reps.one (show Kd.M (Kd.int .u8) _ _ _ ((wrap64 (128 + (Int.tmod (wrap64 (Int.tdiv x0_2 4096)) 64))) % 256) [.int .u8 ((wrap64 (128 + (Int.tmod (wrap64 (Int.tdiv x0_2 4096)) 64))) % 256)] from rfl) (Reps.one (show Kd.M (Kd.int .u8) _ _ _ ((wrap64 (128 + (Int.tmod (wrap64 (Int.tdiv x0_2 64)) 64))) % 256) [.int .u8 ((wrap64 (128 + (Int.tmod (wrap64 (Int.tdiv x0_2 64)) 64))) % 256)] from rfl) (Reps.one (show Kd.M (Kd.int .u8) _ _ _ ((wrap64 (128 + (Int.tmod x0_2 64))) % 256) [.int .u8 ((wrap64 (128 + (Int.tmod x0_2 64))) % 256)] from rfl) (Reps.none _ _)))))); intro v127 w17 ho18 hb hg_ hnew_; clear hg_ hnew_; (first | rw [← Ny126.out] at ho18 | (simp only [Int.reduceToNat] at ho18; rw [← Ny126.out] at ho18)); have HO128 := am (Kd.R_lower ho18 (below_size bB)); replace HB := am (below_step bB hb); clear hb ho18; have hcv19 := own_string (P := Tryd.prog) Tryd.underlying80 Tryd.underlying5 Tryd.underlying9 (Kd.own_of_R HO128.out)))
            go_ret
            exact ⟨rv, bB⟩

/-! ### spec_l01Next: function 93 -/
mutual
def spec_l01Next.j2 : Nat → ByteArray → Int → Int → Int → Option (Int × Int × Bool)
  | 0, _, _, _, _ => none
  | k + 1, x0, x1, x8, x9 => if (wrap64 (x1 + x8)) ≥ (x0.size : Int) then (some (65533, 1, false)) else (spec_l01Next.l0 k x0 x1 x8 x9 1)
def spec_l01Next.l0 : Nat → ByteArray → Int → Int → Int → Int → Option (Int × Int × Bool)
  | 0, _, _, _, _, _ => none
  | k + 1, x0, x1, x8, x9, x10 => if x10 ≤ x8 then (if 0 ≤ (wrap64 (x1 + x10)) then (if (wrap64 (x1 + x10)) < (x0.size : Int) then (if (wrap64 (bt x0 (wrap64 (x1 + x10)))) < 128 then (some (65533, 1, false)) else (if (wrap64 (bt x0 (wrap64 (x1 + x10)))) > 191 then (some (65533, 1, false)) else (spec_l01Next.l0 k x0 x1 x8 (wrap64 ((wrap64 (x9 * 64)) + (Int.tmod (wrap64 (bt x0 (wrap64 (x1 + x10)))) 64))) (wrap64 (x10 + 1))))) else (none)) else (none)) else ((spec_l01IsPoint.f x9).bind fun t129 => (if t129 = true then ((spec_l01Write.f k x9).bind fun t130 => (if (t130.size : Int) = (wrap64 (x8 + 1)) then (some (x9, wrap64 (x8 + 1), true)) else (some (65533, 1, false)))) else (some (65533, 1, false))))
def spec_l01Next.j0 : Nat → ByteArray → Int → Int → Bool → Option (Int × Int × Bool)
  | 0, _, _, _, _ => none
  | k + 1, x0, x1, x7, x21 => if x21 = true then (spec_l01Next.j2 k x0 x1 1 (Int.tmod x7 32)) else (if x7 ≥ 224 then (spec_l01Next.j1 k x0 x1 x7 (decide (x7 < 240))) else (spec_l01Next.j1 k x0 x1 x7 false))
def spec_l01Next.j1 : Nat → ByteArray → Int → Int → Bool → Option (Int × Int × Bool)
  | 0, _, _, _, _ => none
  | k + 1, x0, x1, x7, x30 => if x30 = true then (spec_l01Next.j2 k x0 x1 2 (Int.tmod x7 16)) else (if x7 ≥ 240 then (if x7 < 245 then (spec_l01Next.j2 k x0 x1 3 (Int.tmod x7 8)) else (some (65533, 1, false))) else (some (65533, 1, false)))
end
def spec_l01Next.f (k : Nat) (a0 : ByteArray) (a1 : Int) : Option (Int × Int × Bool) := if 0 ≤ a1 then (if a1 < (a0.size : Int) then (if (wrap64 (bt a0 a1)) < 128 then (some (wrap64 (bt a0 a1), 1, true)) else (if (wrap64 (bt a0 a1)) ≥ 194 then (spec_l01Next.j0 k a0 a1 (wrap64 (bt a0 a1)) (decide ((wrap64 (bt a0 a1)) < 224))) else (spec_l01Next.j0 k a0 a1 (wrap64 (bt a0 a1)) false))) else (none)) else (none)
theorem spec_l01Next.mono_l : ∀ k, (∀ y0 y1 y2 y3, LeO (spec_l01Next.j2 k y0 y1 y2 y3) (spec_l01Next.j2 (k + 1) y0 y1 y2 y3)) ∧ (∀ y0 y1 y2 y3 y4, LeO (spec_l01Next.l0 k y0 y1 y2 y3 y4) (spec_l01Next.l0 (k + 1) y0 y1 y2 y3 y4)) ∧ (∀ y0 y1 y2 y3, LeO (spec_l01Next.j0 k y0 y1 y2 y3) (spec_l01Next.j0 (k + 1) y0 y1 y2 y3)) ∧ (∀ y0 y1 y2 y3, LeO (spec_l01Next.j1 k y0 y1 y2 y3) (spec_l01Next.j1 (k + 1) y0 y1 y2 y3))
  | 0 => ⟨fun _ _ _ _ r h => by simp [spec_l01Next.j2] at h, fun _ _ _ _ _ r h => by simp [spec_l01Next.l0] at h, fun _ _ _ _ r h => by simp [spec_l01Next.j0] at h, fun _ _ _ _ r h => by simp [spec_l01Next.j1] at h⟩
  | k + 1 => by
    obtain ⟨ih0, ih1, ih2, ih3⟩ := spec_l01Next.mono_l k
    refine ⟨?_, ?_, ?_, ?_⟩
    · intro y0 y1 y2 y3
      unfold spec_l01Next.j2
      repeat' first
      | (with_reducible exact ih0 _ _ _ _)
      | (with_reducible exact ih1 _ _ _ _ _)
      | (with_reducible exact ih2 _ _ _ _)
      | (with_reducible exact ih3 _ _ _ _)
      | (with_reducible exact spec_l01Write.mono _ _)
      | (with_reducible exact LeO.refl _)
      | (with_reducible exact LeO.none _)
      | (with_reducible refine LeO.ite ?_ ?_)
      | (with_reducible refine LeO.bind ?_ (fun _ => ?_))
      | exact ih0 _ _ _ _
      | exact ih1 _ _ _ _ _
      | exact ih2 _ _ _ _
      | exact ih3 _ _ _ _
      | exact spec_l01Write.mono _ _
      | exact LeO.none _
      | refine LeO.ite ?_ ?_
      | refine LeO.bind ?_ (fun _ => ?_)
    · intro y0 y1 y2 y3 y4
      unfold spec_l01Next.l0
      repeat' first
      | (with_reducible exact ih0 _ _ _ _)
      | (with_reducible exact ih1 _ _ _ _ _)
      | (with_reducible exact ih2 _ _ _ _)
      | (with_reducible exact ih3 _ _ _ _)
      | (with_reducible exact spec_l01Write.mono _ _)
      | (with_reducible exact LeO.refl _)
      | (with_reducible exact LeO.none _)
      | (with_reducible refine LeO.ite ?_ ?_)
      | (with_reducible refine LeO.bind ?_ (fun _ => ?_))
      | exact ih0 _ _ _ _
      | exact ih1 _ _ _ _ _
      | exact ih2 _ _ _ _
      | exact ih3 _ _ _ _
      | exact spec_l01Write.mono _ _
      | exact LeO.none _
      | refine LeO.ite ?_ ?_
      | refine LeO.bind ?_ (fun _ => ?_)
    · intro y0 y1 y2 y3
      unfold spec_l01Next.j0
      repeat' first
      | (with_reducible exact ih0 _ _ _ _)
      | (with_reducible exact ih1 _ _ _ _ _)
      | (with_reducible exact ih2 _ _ _ _)
      | (with_reducible exact ih3 _ _ _ _)
      | (with_reducible exact spec_l01Write.mono _ _)
      | (with_reducible exact LeO.refl _)
      | (with_reducible exact LeO.none _)
      | (with_reducible refine LeO.ite ?_ ?_)
      | (with_reducible refine LeO.bind ?_ (fun _ => ?_))
      | exact ih0 _ _ _ _
      | exact ih1 _ _ _ _ _
      | exact ih2 _ _ _ _
      | exact ih3 _ _ _ _
      | exact spec_l01Write.mono _ _
      | exact LeO.none _
      | refine LeO.ite ?_ ?_
      | refine LeO.bind ?_ (fun _ => ?_)
    · intro y0 y1 y2 y3
      unfold spec_l01Next.j1
      repeat' first
      | (with_reducible exact ih0 _ _ _ _)
      | (with_reducible exact ih1 _ _ _ _ _)
      | (with_reducible exact ih2 _ _ _ _)
      | (with_reducible exact ih3 _ _ _ _)
      | (with_reducible exact spec_l01Write.mono _ _)
      | (with_reducible exact LeO.refl _)
      | (with_reducible exact LeO.none _)
      | (with_reducible refine LeO.ite ?_ ?_)
      | (with_reducible refine LeO.bind ?_ (fun _ => ?_))
      | exact ih0 _ _ _ _
      | exact ih1 _ _ _ _ _
      | exact ih2 _ _ _ _
      | exact ih3 _ _ _ _
      | exact spec_l01Write.mono _ _
      | exact LeO.none _
      | refine LeO.ite ?_ ?_
      | refine LeO.bind ?_ (fun _ => ?_)
theorem spec_l01Next.mono : ∀ a0 a1 k, LeO (spec_l01Next.f k a0 a1) (spec_l01Next.f (k + 1) a0 a1) := by
  intro a0 a1 k
  obtain ⟨ih0, ih1, ih2, ih3⟩ := spec_l01Next.mono_l k
  unfold spec_l01Next.f
  repeat' first
      | (with_reducible exact ih0 _ _ _ _)
      | (with_reducible exact ih1 _ _ _ _ _)
      | (with_reducible exact ih2 _ _ _ _)
      | (with_reducible exact ih3 _ _ _ _)
      | (with_reducible exact spec_l01Write.mono _ _)
      | (with_reducible exact LeO.refl _)
      | (with_reducible exact LeO.none _)
      | (with_reducible refine LeO.ite ?_ ?_)
      | (with_reducible refine LeO.bind ?_ (fun _ => ?_))
      | exact ih0 _ _ _ _
      | exact ih1 _ _ _ _ _
      | exact ih2 _ _ _ _
      | exact ih3 _ _ _ _
      | exact spec_l01Write.mono _ _
      | exact LeO.none _
      | refine LeO.ite ?_ ?_
      | refine LeO.bind ?_ (fun _ => ?_)
set_option maxHeartbeats 8000000 in
set_option maxRecDepth 100000 in
theorem spec_l01Next.calls (k : Nat) (a0 : ByteArray) (a1 : Int) (r1 : Int) (r2 : Int) (r3 : Bool) (w : World) (h : spec_l01Next.f k a0 a1 = some (r1, r2, r3)) :
    Calls Tryd.prog 93 #[.string a0, .int .i64 a1] w fun e w' => e = .returned (.tuple #[.int .i64 r1, .int .i64 r2, .bool r3]) ∧ Below w.heap.size w w' := by
  have HB := am (Below.refl w.heap.size w)
  have H : (if 0 ≤ a1 then (if a1 < (a0.size : Int) then (if (wrap64 (bt a0 a1)) < 128 then (some (wrap64 (bt a0 a1), 1, true)) else (if (wrap64 (bt a0 a1)) ≥ 194 then (spec_l01Next.j0 k a0 a1 (wrap64 (bt a0 a1)) (decide ((wrap64 (bt a0 a1)) < 224))) else (spec_l01Next.j0 k a0 a1 (wrap64 (bt a0 a1)) false))) else (none)) else (none)) = some (r1, r2, r3) := h
  clear h
  by_cases c3 : 0 ≤ a1
  · rw [if_pos c3] at H
    have c3b0 : decide (0 ≤ a1) = true := decide_eq_true c3
    clear c3
    by_cases c4 : a1 < (a0.size : Int)
    · rw [if_pos c4] at H
      have c4b0 : decide (a1 < (a0.size : Int)) = true := decide_eq_true c4
      clear c4
      have HC6 := am H
      clear H
      have p5 : 0 ≤ (a1 : Int) := od
      have q5 : a1 < (a0.size : Int) := od
      have hx5 := bt_at a0 a1
      replace p5 := eq_true p5
      replace q5 := eq_true q5
      go_enter Tryd.func93, Tryd.ntmps93
      go_upto_block 0 with (fail)
      go_cut [8, 9] (fun v8 v9 wc => ∃ (kq : Nat) (x8_5 : Int) (x9_5 : Int), v8 = .int .i64 x8_5 ∧ v9 = .int .i64 x9_5 ∧ Aside0 (spec_l01Next.j2 kq a0 a1 x8_5 x9_5 = some (r1, r2, r3)) ∧ Aside0 (kq ≤ k) ∧ Aside0 (Below w.heap.size w wc))
      case first =>
        have H := HC6.out
        clear HC6
        by_cases c7 : (wrap64 (bt a0 a1)) < 128
        · rw [if_pos c7] at H
          have c7b0 : decide ((wrap64 (bt a0 a1)) < 128) = true := decide_eq_true c7
          clear c7
          (first | rw [c7b0] | (simp only [i64_w, i32_w]; rw [c7b0]) | skip)
          simp only [Option.some.injEq, Prod.mk.injEq] at H
          obtain ⟨rfl, rfl, rfl⟩ := H
          go_wp2
          go_ret3
          exact ⟨rv, bB⟩
        · rw [if_neg c7] at H
          have c7b0 : decide ((wrap64 (bt a0 a1)) < 128) = false := decide_eq_false c7
          clear c7
          (first | rw [c7b0] | (simp only [i64_w, i32_w]; rw [c7b0]) | skip)
          have HC8 := am H
          clear H
          go_upto_region 7 with (fail)
          go_cut [21] (fun v21 wc => ∃ (kq : Nat) (x21_7 : Bool), v21 = .bool x21_7 ∧ Aside0 (spec_l01Next.j0 kq a0 a1 (wrap64 (bt a0 a1)) x21_7 = some (r1, r2, r3)) ∧ Aside0 (kq ≤ k) ∧ Aside0 (Below w.heap.size w wc))
          case first =>
            have H := HC8.out
            clear HC8
            by_cases c9 : (wrap64 (bt a0 a1)) ≥ 194
            · rw [if_pos c9] at H
              have c9b0 : decide (194 ≤ (wrap64 (bt a0 a1))) = true := decide_eq_true c9
              clear c9
              (first | rw [c9b0] | (simp only [i64_w, i32_w]; rw [c9b0]) | skip)
              have H' := am H
              clear H
              go_wp2
              go_meet
              case rel => exact ⟨_, (decide ((wrap64 (bt a0 a1)) < 224)), (by first | rfl | (simp; done) | (simp [*]; done)), H', ⟨by first | omega | exact Nat.le_refl _⟩, ⟨bB⟩⟩
            · rw [if_neg c9] at H
              have c9b0 : decide (194 ≤ (wrap64 (bt a0 a1))) = false := decide_eq_false c9
              clear c9
              (first | rw [c9b0] | (simp only [i64_w, i32_w]; rw [c9b0]) | skip)
              have H' := am H
              clear H
              go_wp2
              go_meet
              case rel => exact ⟨_, (false), (by first | rfl | (simp; done) | (simp [*]; done)), H', ⟨by first | omega | exact Nat.le_refl _⟩, ⟨bB⟩⟩
          case rest =>
            clear HC8
            try clear p2
            try clear c3
            try clear c3b0
            try clear c4
            try clear c4b0
            try clear p5
            try clear q5
            try clear hx5
            try clear p6
            try clear c7
            try clear c7b0
            try clear c9
            try clear c9b0
            try clear p5
            try clear q5
            obtain ⟨kq, x21_7, rfl, HA, HJ7, HB⟩ := hcut
            cases kq with
            | zero => exact absurd HA.out (by simp [spec_l01Next.j0])
            | succ kj7 =>
              have H := HA.out
              clear HA
              simp only [spec_l01Next.j0] at H
              by_cases c10 : x21_7 = true
              · subst c10
                have H1 : (spec_l01Next.j2 kj7 a0 a1 1 (Int.tmod (wrap64 (bt a0 a1)) 32)) = some (r1, r2, r3) := by rw [if_pos rfl] at H; exact H
                clear H
                have H := H1
                clear H1
                have H' := am H
                clear H
                go_wp2
                go_meet
                case rel => exact ⟨_, (1), (Int.tmod (wrap64 (bt a0 a1)) 32), (by first | rfl | (simp; done) | (simp [*]; done)), (by first | rfl | (simp; done) | (simp [*]; done)), H', ⟨by have := HJ7.out; first | omega | exact Nat.le_refl _⟩, ⟨bB⟩⟩
              · replace c10 := Bool.eq_false_iff.mpr c10
                subst c10
                have H1 : (if (wrap64 (bt a0 a1)) ≥ 224 then (spec_l01Next.j1 kj7 a0 a1 (wrap64 (bt a0 a1)) (decide ((wrap64 (bt a0 a1)) < 240))) else (spec_l01Next.j1 kj7 a0 a1 (wrap64 (bt a0 a1)) false)) = some (r1, r2, r3) := by rw [if_neg (show ¬ (false = true) by decide)] at H; exact H
                clear H
                have H := H1
                clear H1
                have HC11 := am H
                clear H
                go_upto_region 10 with (fail)
                go_cut [30] (fun v30 wc => ∃ (kq : Nat) (x30_10 : Bool), v30 = .bool x30_10 ∧ Aside0 (spec_l01Next.j1 kq a0 a1 (wrap64 (bt a0 a1)) x30_10 = some (r1, r2, r3)) ∧ Aside0 (kq ≤ kj7) ∧ Aside0 (Below w.heap.size w wc))
                case first =>
                  have H := HC11.out
                  clear HC11
                  by_cases c12 : (wrap64 (bt a0 a1)) ≥ 224
                  · rw [if_pos c12] at H
                    have c12b0 : decide (224 ≤ (wrap64 (bt a0 a1))) = true := decide_eq_true c12
                    clear c12
                    (first | rw [c12b0] | (simp only [i64_w, i32_w]; rw [c12b0]) | skip)
                    have H' := am H
                    clear H
                    go_wp2
                    go_meet
                    case rel => exact ⟨_, (decide ((wrap64 (bt a0 a1)) < 240)), (by first | rfl | (simp; done) | (simp [*]; done)), H', ⟨by have := HJ7.out; first | omega | exact Nat.le_refl _⟩, ⟨bB⟩⟩
                  · rw [if_neg c12] at H
                    have c12b0 : decide (224 ≤ (wrap64 (bt a0 a1))) = false := decide_eq_false c12
                    clear c12
                    (first | rw [c12b0] | (simp only [i64_w, i32_w]; rw [c12b0]) | skip)
                    have H' := am H
                    clear H
                    go_wp2
                    go_meet
                    case rel => exact ⟨_, (false), (by first | rfl | (simp; done) | (simp [*]; done)), H', ⟨by have := HJ7.out; first | omega | exact Nat.le_refl _⟩, ⟨bB⟩⟩
                case rest =>
                  clear HC11
                  try clear c1
                  try clear p2
                  try clear c3
                  try clear c3b0
                  try clear c4
                  try clear c4b0
                  try clear p5
                  try clear q5
                  try clear hx5
                  try clear p6
                  try clear c7
                  try clear c7b0
                  try clear c9
                  try clear c9b0
                  try clear c10
                  try clear c12
                  try clear c12b0
                  try clear p2
                  try clear p5
                  try clear p6
                  try clear q5
                  obtain ⟨kq, x30_10, rfl, HA, HJ10, HB⟩ := hcut
                  cases kq with
                  | zero => exact absurd HA.out (by simp [spec_l01Next.j1])
                  | succ kj10 =>
                    have H := HA.out
                    clear HA
                    simp only [spec_l01Next.j1] at H
                    by_cases c13 : x30_10 = true
                    · subst c13
                      have H1 : (spec_l01Next.j2 kj10 a0 a1 2 (Int.tmod (wrap64 (bt a0 a1)) 16)) = some (r1, r2, r3) := by rw [if_pos rfl] at H; exact H
                      clear H
                      have H := H1
                      clear H1
                      have H' := am H
                      clear H
                      go_wp2
                      go_meet
                      case rel => exact ⟨_, (2), (Int.tmod (wrap64 (bt a0 a1)) 16), (by first | rfl | (simp; done) | (simp [*]; done)), (by first | rfl | (simp; done) | (simp [*]; done)), H', ⟨by have := HJ7.out; have := HJ10.out; first | omega | exact Nat.le_refl _⟩, ⟨bB⟩⟩
                    · replace c13 := Bool.eq_false_iff.mpr c13
                      subst c13
                      have H1 : (if (wrap64 (bt a0 a1)) ≥ 240 then (if (wrap64 (bt a0 a1)) < 245 then (spec_l01Next.j2 kj10 a0 a1 3 (Int.tmod (wrap64 (bt a0 a1)) 8)) else (some (65533, 1, false))) else (some (65533, 1, false))) = some (r1, r2, r3) := by rw [if_neg (show ¬ (false = true) by decide)] at H; exact H
                      clear H
                      have H := H1
                      clear H1
                      by_cases c14 : (wrap64 (bt a0 a1)) ≥ 240
                      · rw [if_pos c14] at H
                        have c14b0 : decide (240 ≤ (wrap64 (bt a0 a1))) = true := decide_eq_true c14
                        clear c14
                        by_cases c15 : (wrap64 (bt a0 a1)) < 245
                        · rw [if_pos c15] at H
                          have c15b0 : decide ((wrap64 (bt a0 a1)) < 245) = true := decide_eq_true c15
                          clear c15
                          have H' := am H
                          clear H
                          go_wp2
                          go_meet
                          case rel => exact ⟨_, (3), (Int.tmod (wrap64 (bt a0 a1)) 8), (by first | rfl | (simp; done) | (simp [*]; done)), (by first | rfl | (simp; done) | (simp [*]; done)), H', ⟨by have := HJ7.out; have := HJ10.out; first | omega | exact Nat.le_refl _⟩, ⟨bB⟩⟩
                        · rw [if_neg c15] at H
                          have c15b0 : decide ((wrap64 (bt a0 a1)) < 245) = false := decide_eq_false c15
                          clear c15
                          simp only [Option.some.injEq, Prod.mk.injEq] at H
                          obtain ⟨rfl, rfl, rfl⟩ := H
                          go_wp2
                          go_ret3
                          exact ⟨rv, bB⟩
                      · rw [if_neg c14] at H
                        have c14b0 : decide (240 ≤ (wrap64 (bt a0 a1))) = false := decide_eq_false c14
                        clear c14
                        simp only [Option.some.injEq, Prod.mk.injEq] at H
                        obtain ⟨rfl, rfl, rfl⟩ := H
                        go_wp2
                        go_ret3
                        exact ⟨rv, bB⟩
      case rest =>
        clear HC6
        try clear c1
        try clear p2
        try clear c3
        try clear c3b0
        try clear c4
        try clear c4b0
        try clear p5
        try clear q5
        try clear hx5
        try clear p6
        try clear c7
        try clear c7b0
        try clear c9
        try clear c9b0
        try clear c10
        try clear c12
        try clear c12b0
        try clear c13
        try clear c14
        try clear c14b0
        try clear c15
        try clear c15b0
        try clear p2
        try clear p5
        try clear p6
        try clear q5
        obtain ⟨kq, x8_5, x9_5, rfl, rfl, HA, HJ5, HB⟩ := hcut
        cases kq with
        | zero => exact absurd HA.out (by simp [spec_l01Next.j2])
        | succ kj5 =>
          have H := HA.out
          clear HA
          simp only [spec_l01Next.j2] at H
          by_cases c16 : (wrap64 (a1 + x8_5)) ≥ (a0.size : Int)
          · rw [if_pos c16] at H
            have c16b0 : decide ((a0.size : Int) ≤ (wrap64 (a1 + x8_5))) = true := decide_eq_true c16
            clear c16
            simp only [Option.some.injEq, Prod.mk.injEq] at H
            obtain ⟨rfl, rfl, rfl⟩ := H
            go_wp2
            go_ret3
            exact ⟨rv, bB⟩
          · rw [if_neg c16] at H
            have c16b0 : decide ((a0.size : Int) ≤ (wrap64 (a1 + x8_5))) = false := decide_eq_false c16
            clear c16
            have H' := am H
            clear H
            go_wp2
            go_loopg [9, 10] kj5 (fun kq v9 v10 w' => ∃ (x9_2 : Int) (x10_2 : Int), v9 = .int .i64 x9_2 ∧ v10 = .int .i64 x10_2 ∧ Aside0 (spec_l01Next.l0 kq a0 a1 x8_5 x9_2 x10_2 = some (r1, r2, r3)) ∧ Aside0 (kq ≤ kj5) ∧ Aside0 (Below w.heap.size w w'))
            case atStart => exact ⟨(x9_5), (1), (by first | rfl | (simp; done) | (simp [*]; done)), (by first | rfl | (simp; done) | (simp [*]; done)), H', ⟨Nat.le_refl _⟩, ⟨bB⟩⟩
            case round =>
              clear H'
              try clear c1
              try clear p2
              try clear c3
              try clear c3b0
              try clear c4
              try clear c4b0
              try clear p5
              try clear q5
              try clear hx5
              try clear p6
              try clear c7
              try clear c7b0
              try clear c9
              try clear c9b0
              try clear c10
              try clear c12
              try clear c12b0
              try clear c13
              try clear c14
              try clear c14b0
              try clear c15
              try clear c15b0
              try clear c16
              try clear c16b0
              try clear p2
              try clear p5
              try clear p6
              try clear q5
              obtain ⟨x9_2, x10_2, rfl, rfl, HA, HK2, HB⟩ := hrel
              cases gk with
              | zero => exact absurd HA.out (by simp [spec_l01Next.l0])
              | succ k2 =>
                have H := HA.out
                clear HA
                simp only [spec_l01Next.l0] at H
                by_cases c17 : x10_2 ≤ x8_5
                · rw [if_pos c17] at H
                  have c17b0 : decide (x10_2 ≤ x8_5) = true := decide_eq_true c17
                  clear c17
                  obtain ⟨ji18, hji18⟩ : ∃ j_ : Int, (wrap64 (a1 + x10_2)) = j_ := ⟨_, rfl⟩
                  replace H : (if 0 ≤ (ji18) then (if (ji18) < (a0.size : Int) then (if (wrap64 (bt a0 (ji18))) < 128 then (some (65533, 1, false)) else (if (wrap64 (bt a0 (ji18))) > 191 then (some (65533, 1, false)) else (spec_l01Next.l0 k2 a0 a1 x8_5 (wrap64 ((wrap64 (x9_2 * 64)) + (Int.tmod (wrap64 (bt a0 (ji18))) 64))) (wrap64 (x10_2 + 1))))) else (none)) else (none)) = some (r1, r2, r3) := by first | (rw [hji18] at H; exact H) | (simp only [hji18] at H ⊢; exact H)
                  have hji18w : (IntKind.i64.wrap (a1 + x10_2)) = ji18 := (i64_w _).trans hji18
                  by_cases c19 : 0 ≤ (ji18)
                  · rw [if_pos c19] at H
                    have c19b0 : decide (0 ≤ (ji18)) = true := decide_eq_true c19
                    clear c19
                    by_cases c20 : (ji18) < (a0.size : Int)
                    · rw [if_pos c20] at H
                      have c20b0 : decide ((ji18) < (a0.size : Int)) = true := decide_eq_true c20
                      clear c20
                      by_cases c22 : (wrap64 (bt a0 (ji18))) < 128
                      · rw [if_pos c22] at H
                        have c22b0 : decide ((wrap64 (bt a0 (ji18))) < 128) = true := decide_eq_true c22
                        clear c22
                        simp only [Option.some.injEq, Prod.mk.injEq] at H
                        obtain ⟨rfl, rfl, rfl⟩ := H
                        have p21 : 0 ≤ ((ji18) : Int) := od
                        have q21 : (ji18) < (a0.size : Int) := od
                        have hx21 := bt_at a0 (ji18)
                        replace p21 := eq_true p21
                        replace q21 := eq_true q21
                        go_wp2
                        go_ret3
                        exact ⟨by first | rfl | (simp [errW_none, errW_some] <;> rfl) | (simp only [← hji18]; first | rfl | (simp [errW_none, errW_some] <;> rfl)) | (simp [*, errW_none, errW_some] <;> rfl), bB⟩
                      · rw [if_neg c22] at H
                        have c22b0 : decide ((wrap64 (bt a0 (ji18))) < 128) = false := decide_eq_false c22
                        clear c22
                        by_cases c23 : (wrap64 (bt a0 (ji18))) > 191
                        · rw [if_pos c23] at H
                          have c23b0 : decide (191 < (wrap64 (bt a0 (ji18)))) = true := decide_eq_true c23
                          clear c23
                          simp only [Option.some.injEq, Prod.mk.injEq] at H
                          obtain ⟨rfl, rfl, rfl⟩ := H
                          have p21 : 0 ≤ ((ji18) : Int) := od
                          have q21 : (ji18) < (a0.size : Int) := od
                          have hx21 := bt_at a0 (ji18)
                          replace p21 := eq_true p21
                          replace q21 := eq_true q21
                          go_wp2
                          go_ret3
                          exact ⟨by first | rfl | (simp [errW_none, errW_some] <;> rfl) | (simp only [← hji18]; first | rfl | (simp [errW_none, errW_some] <;> rfl)) | (simp [*, errW_none, errW_some] <;> rfl), bB⟩
                        · rw [if_neg c23] at H
                          have c23b0 : decide (191 < (wrap64 (bt a0 (ji18)))) = false := decide_eq_false c23
                          clear c23
                          have H' := am H
                          clear H
                          have p21 : 0 ≤ ((ji18) : Int) := od
                          have q21 : (ji18) < (a0.size : Int) := od
                          have hx21 := bt_at a0 (ji18)
                          replace p21 := eq_true p21
                          replace q21 := eq_true q21
                          go_wp2
                          go_roundg k2
                          case measure => have := HJ5.out; have := HK2.out; omega
                          case rel => exact ⟨(wrap64 ((wrap64 (x9_2 * 64)) + (Int.tmod (wrap64 (bt a0 (ji18))) 64))), (wrap64 (x10_2 + 1)), (by first | rfl | (simp; done) | (simp only [← hji18] <;> (first | rfl | simp)) | (simp [*]; done)), (by first | rfl | (simp; done) | (simp [*]; done)), H', ⟨by have := HJ5.out; have := HK2.out; omega⟩, ⟨bB⟩⟩
                    · rw [if_neg c20] at H
                      exact absurd H (by simp)
                  · rw [if_neg c19] at H
                    exact absurd H (by simp)
                · rw [if_neg c17] at H
                  have c17b0 : decide (x10_2 ≤ x8_5) = false := decide_eq_false c17
                  clear c17
                  replace H := Option.bind_eq_some_iff.mp H
                  obtain ⟨t129, A240, H⟩ := H
                  replace H : (if t129 = true then ((spec_l01Write.f k2 x9_2).bind fun t130 => (if (t130.size : Int) = (wrap64 (x8_5 + 1)) then (some (x9_2, wrap64 (x8_5 + 1), true)) else (some (65533, 1, false)))) else (some (65533, 1, false))) = some (r1, r2, r3) := H
                  have A24 := am A240
                  clear A240
                  by_cases c25 : t129 = true
                  · subst c25
                    have H1 : ((spec_l01Write.f k2 x9_2).bind fun t130 => (if (t130.size : Int) = (wrap64 (x8_5 + 1)) then (some (x9_2, wrap64 (x8_5 + 1), true)) else (some (65533, 1, false)))) = some (r1, r2, r3) := by rw [if_pos rfl] at H; exact H
                    clear H
                    have H := H1
                    clear H1
                    replace H := Option.bind_eq_some_iff.mp H
                    obtain ⟨t130, A260, H⟩ := H
                    replace H : (if (t130.size : Int) = (wrap64 (x8_5 + 1)) then (some (x9_2, wrap64 (x8_5 + 1), true)) else (some (65533, 1, false))) = some (r1, r2, r3) := H
                    have A26 := am A260
                    clear A260
                    by_cases c27 : (t130.size : Int) = (wrap64 (x8_5 + 1))
                    · rw [if_pos c27] at H
                      have c27b0 : ((t130.size : Int) == (wrap64 (x8_5 + 1))) = true := beq_iff_eq.mpr c27
                      have c27b1 : ((t130.size : Int) != (wrap64 (x8_5 + 1))) = false := bne_eq_false_iff_eq.mpr c27
                      clear c27
                      simp only [Option.some.injEq, Prod.mk.injEq] at H
                      obtain ⟨rfl, rfl, rfl⟩ := H
                      go_wp2_with (first | ((with_reducible refine gate_callee (f := 122) rfl ?_); refine gl 77 Tryd.func122 #[.int .i64 x9_2] ?_; (with_reducible refine (spec_l01IsPoint.calls x9_2 true _ A24.out).mono ?_); rintro e w' ⟨rfl, ⟨nd, rfl⟩⟩; refine ⟨_, rfl, ?_⟩) | (go_at_call 105; (with_reducible refine (spec_l01Write.calls k2 x9_2 t130 _ A26.out).mono ?_); rintro e w28 ⟨rfl, hb⟩; replace HB := am (below_step bB hb); (try clear hb); (try clear hb2); (try clear hk); (try clear hi)))
                      go_ret3
                      exact ⟨rv, bB⟩
                    · rw [if_neg c27] at H
                      have c27b0 : ((t130.size : Int) == (wrap64 (x8_5 + 1))) = false := beq_eq_false_iff_ne.mpr c27
                      have c27b1 : ((t130.size : Int) != (wrap64 (x8_5 + 1))) = true := bne_iff_ne.mpr c27
                      simp only [Option.some.injEq, Prod.mk.injEq] at H
                      obtain ⟨rfl, rfl, rfl⟩ := H
                      go_wp2_with (first | ((with_reducible refine gate_callee (f := 122) rfl ?_); refine gl 77 Tryd.func122 #[.int .i64 x9_2] ?_; (with_reducible refine (spec_l01IsPoint.calls x9_2 true _ A24.out).mono ?_); rintro e w' ⟨rfl, ⟨nd, rfl⟩⟩; refine ⟨_, rfl, ?_⟩) | (go_at_call 105; (with_reducible refine (spec_l01Write.calls k2 x9_2 t130 _ A26.out).mono ?_); rintro e w29 ⟨rfl, hb⟩; replace HB := am (below_step bB hb); (try clear hb); (try clear hb2); (try clear hk); (try clear hi)))
                      go_ret3
                      exact ⟨rv, bB⟩
                  · replace c25 := Bool.eq_false_iff.mpr c25
                    subst c25
                    have H1 : (some (65533, 1, false)) = some (r1, r2, r3) := by rw [if_neg (show ¬ (false = true) by decide)] at H; exact H
                    clear H
                    have H := H1
                    clear H1
                    simp only [Option.some.injEq, Prod.mk.injEq] at H
                    obtain ⟨rfl, rfl, rfl⟩ := H
                    go_wp2_with (first | ((with_reducible refine gate_callee (f := 122) rfl ?_); refine gl 77 Tryd.func122 #[.int .i64 x9_2] ?_; (with_reducible refine (spec_l01IsPoint.calls x9_2 false _ A24.out).mono ?_); rintro e w' ⟨rfl, ⟨nd, rfl⟩⟩; refine ⟨_, rfl, ?_⟩))
                    go_ret3
                    exact ⟨rv, bB⟩
    · rw [if_neg c4] at H
      exact absurd H (by simp)
  · rw [if_neg c3] at H
    exact absurd H (by simp)

/-! ### spec_l01Points: function 61 -/
def spec_l01Points.l0 : Nat → ByteArray → List Int → Int → Option (List Int)
  | 0, _, _, _ => none
  | k + 1, x0, x3, x4 => if x4 < (x0.size : Int) then ((spec_l01Next.f k x0 x4).bind fun bt134 => (if x3.length < 17592186044416 then (spec_l01Points.l0 k x0 (x3 ++ [bt134.1]) (wrap64 (x4 + bt134.2.1))) else (none))) else (some x3)
def spec_l01Points.f (k : Nat) (a0 : ByteArray) : Option (List Int) := spec_l01Points.l0 k a0 (([] : List Int)) 0
theorem spec_l01Points.mono_l : ∀ k, (∀ y0 y1 y2, LeO (spec_l01Points.l0 k y0 y1 y2) (spec_l01Points.l0 (k + 1) y0 y1 y2))
  | 0 => fun _ _ _ r h => by simp [spec_l01Points.l0] at h
  | k + 1 => by
    have ih0 := spec_l01Points.mono_l k
    · intro y0 y1 y2
      unfold spec_l01Points.l0
      repeat' first
      | (with_reducible exact ih0 _ _ _)
      | (with_reducible exact spec_l01Next.mono _ _ _)
      | (with_reducible exact LeO.refl _)
      | (with_reducible exact LeO.none _)
      | (with_reducible refine LeO.ite ?_ ?_)
      | (with_reducible refine LeO.bind ?_ (fun _ => ?_))
      | exact ih0 _ _ _
      | exact spec_l01Next.mono _ _ _
      | exact LeO.none _
      | refine LeO.ite ?_ ?_
      | refine LeO.bind ?_ (fun _ => ?_)
theorem spec_l01Points.mono : ∀ a0 k, LeO (spec_l01Points.f k a0) (spec_l01Points.f (k + 1) a0) := by
  intro a0 k
  have ih0 := spec_l01Points.mono_l k
  unfold spec_l01Points.f
  repeat' first
      | (with_reducible exact ih0 _ _ _)
      | (with_reducible exact spec_l01Next.mono _ _ _)
      | (with_reducible exact LeO.refl _)
      | (with_reducible exact LeO.none _)
      | (with_reducible refine LeO.ite ?_ ?_)
      | (with_reducible refine LeO.bind ?_ (fun _ => ?_))
      | exact ih0 _ _ _
      | exact spec_l01Next.mono _ _ _
      | exact LeO.none _
      | refine LeO.ite ?_ ?_
      | refine LeO.bind ?_ (fun _ => ?_)
set_option maxHeartbeats 8000000 in
set_option maxRecDepth 100000 in
theorem spec_l01Points.calls (k : Nat) (a0 : ByteArray) (r : List Int) (w : World) (h : spec_l01Points.f k a0 = some r) :
    Calls Tryd.prog 61 #[.string a0] w fun e w' => ∃ v0_ : Value, e = .returned (v0_) ∧ Kd.R (Kd.int .i64) 2 w' w.heap.size (fun _ => True) v0_ r ∧ Below w.heap.size w w' := by
  have HB := am (Below.refl w.heap.size w)
  have H : (spec_l01Points.l0 k a0 (([] : List Int)) 0) = some r := h
  clear h
  obtain ⟨y131, hy131⟩ : ∃ y_ : List Int, y_ = (([] : List Int)) := ⟨_, rfl⟩
  replace H : (spec_l01Points.l0 k a0 y131 0) = some r := by first | (rw [hy131]; with_reducible exact H) | (have H2_ := (Option.bind_some _ _).symm.trans H; rw [hy131]; with_reducible exact H2_) | (have H2_ := (Option.bind_some _ _).symm.trans H; with_reducible exact H2_) | with_reducible exact H | (rw [hy131]; exact H) | exact H
  have Ny131 := am hy131
  clear hy131
  have H' := am H
  clear H
  go_enter Tryd.func61, Tryd.ntmps61
  go_wp2_with (first | ((with_reducible refine gate_dst (N := 8) rfl ?_); refine Kd.R_lit (Kd.int .i64) _ 2 ?hg (N := 8) ?hd (xs := ([] : List Int)) (inner := []) (ok := fun _ => True) (okp := fun _ => True) ?hr ?hp (fun _ hk => hk) trivial (Below.refl _ _) (Nat.le_refl _) (by simp) ?_; (case hd => rfl); (case hg => rfl); (case hr => first | (go_simp; done) | (go_simp; rfl)); (case hp => exact (Reps.none _ _)); intro v132 w2 ho3 hb hg_ hnew_; clear hg_ hnew_; (first | rw [← Ny131.out] at ho3 | (simp only [Int.reduceToNat] at ho3; rw [← Ny131.out] at ho3)); have HO133 := am (Kd.R_lower ho3 (below_size bB)); replace HB := am (below_step bB hb); clear hb ho3))
  go_loopg [3, 4] k (fun kq v3 v4 w' => ∃ (x3_1 : List Int) (x4_1 : Int), v4 = .int .i64 x4_1 ∧ Aside0 (spec_l01Points.l0 kq a0 x3_1 x4_1 = some r) ∧ Aside0 (kq ≤ k) ∧ Aside0 (Kd.R (Kd.int .i64) 2 w' w.heap.size (fun _ => True) v3 x3_1) ∧ Aside0 (Below w.heap.size w w'))
  case atStart => exact ⟨(y131), (0), (by first | rfl | (simp; done) | (simp [*]; done)), H', ⟨Nat.le_refl _⟩, ⟨kR HO133.out⟩, ⟨bB⟩⟩
  case round =>
    clear H'
    try clear p2
    obtain ⟨x3_1, x4_1, rfl, HA, HK1, HO_3, HB⟩ := hrel
    cases gk with
    | zero => exact absurd HA.out (by simp [spec_l01Points.l0])
    | succ k1 =>
      have H := HA.out
      clear HA
      simp only [spec_l01Points.l0] at H
      by_cases c4 : x4_1 < (a0.size : Int)
      · rw [if_pos c4] at H
        have c4b0 : decide (x4_1 < (a0.size : Int)) = true := decide_eq_true c4
        clear c4
        replace H := Option.bind_eq_some_iff.mp H
        obtain ⟨⟨t134, t135, t136⟩, A50, H⟩ := H
        replace H : (if x3_1.length < 17592186044416 then (spec_l01Points.l0 k1 a0 (x3_1 ++ [t134]) (wrap64 (x4_1 + t135))) else (none)) = some r := H
        have A5 := am A50
        clear A50
        by_cases c6 : x3_1.length < 17592186044416
        · rw [if_pos c6] at H
          have LMc6 := am c6
          clear c6
          obtain ⟨y137, hy137⟩ : ∃ y_ : List Int, y_ = (x3_1 ++ [t134]) := ⟨_, rfl⟩
          replace H : (spec_l01Points.l0 k1 a0 y137 (wrap64 (x4_1 + t135))) = some r := by first | (rw [hy137]; with_reducible exact H) | (have H2_ := (Option.bind_some _ _).symm.trans H; rw [hy137]; with_reducible exact H2_) | (have H2_ := (Option.bind_some _ _).symm.trans H; with_reducible exact H2_) | with_reducible exact H | (rw [hy137]; exact H) | exact H
          have Ny137 := am hy137
          clear hy137
          have H' := am H
          clear H
          go_wp2_with (first | ((with_reducible refine gate_callee (f := 93) rfl ?_); refine gl 16 Tryd.func93 #[.string a0, .int .i64 x4_1] ?_; (with_reducible refine (spec_l01Next.calls k1 a0 x4_1 t134 t135 t136 _ A5.out).mono ?_); rintro e w7 ⟨rfl, hb⟩; refine ⟨_, rfl, ?_⟩; replace HO_3 := am (Kd.R_below (kR HO_3.out) hb); replace HB := am (below_step bB hb); (try clear hb); (try clear hb2); (try clear hk); (try clear hi)) | ((with_reducible refine gate_builtin (b := .append) (xs := #[.tmp 20, .tmp 22]) rfl ?_); at_builtin; refine Kd.R_append (Kd.int .i64) (w0 := w) w.heap.size rfl (.tmp 20) (.tmp 22) 22 2 (.int .i64 0) 8 rfl Tryd.underlying22 info2 rfl (by decide) (by omega) u3 x3_1 t134 [.int .i64 t134] (fun _ => True) (fun _ => False) rfl rfl ?aP (fun _ hk => hk.elim) ?aF ?aO ?aB ?aS ?aL ?_; (case aP => exact rfl); (case aB => exact bB); (case aF => exact (fun _ _ => trivial)); (case aO => exact (kR HO_3.out)); (case aS => exact (below_size bB)); (case aL => have := LMc6.out; omega); intro v138 w8 ho hb hg hat; rw [← Ny137.out] at ho; replace HB := am (hb); have HO139 := am (ho); clear HO_3; clear ho hb hg hat))
          go_roundg k1
          case measure => have := HK1.out; omega
          case rel => exact ⟨(y137), (wrap64 (x4_1 + t135)), (by first | rfl | (simp; done) | (simp [*]; done)), H', ⟨by have := HK1.out; omega⟩, ⟨kR HO139.out⟩, ⟨bB⟩⟩
        · rw [if_neg c6] at H
          exact absurd H (by simp)
      · rw [if_neg c4] at H
        have c4b0 : decide (x4_1 < (a0.size : Int)) = false := decide_eq_false c4
        clear c4
        obtain rfl := Option.some.inj H
        go_wp2
        go_ret
        exact ⟨_, rv, kR HO_3.out, bB⟩

/-! ### spec_l01Cased: function 123 -/
def spec_l01Cased.f  : Option ((List (S100))) := some (([(⟨0, 31, 4, 0⟩ : S100), (⟨32, 63, 5, 0⟩ : S100), (⟨64, 67, 4, 0⟩ : S100), (⟨68, 71, 6, 0⟩ : S100), (⟨72, 75, 5, 0⟩ : S100), (⟨80, 89, 8, 0⟩ : S100), (⟨96, 97, 5, 0⟩ : S100)] : List (S100)))
set_option maxHeartbeats 8000000 in
set_option maxRecDepth 100000 in
theorem spec_l01Cased.calls  (r : List (S100)) (w : World) (h : spec_l01Cased.f  = some r) :
    Calls Tryd.prog 123 #[] w fun e w' => ∃ v0_ : Value, e = .returned (v0_) ∧ Kd.R k100 100 w' w.heap.size (fun _ => True) v0_ r ∧ Below w.heap.size w w' := by
  have hu100 := Tryd.underlying100
  have HB := am (Below.refl w.heap.size w)
  have H : (some (([(⟨0, 31, 4, 0⟩ : S100), (⟨32, 63, 5, 0⟩ : S100), (⟨64, 67, 4, 0⟩ : S100), (⟨68, 71, 6, 0⟩ : S100), (⟨72, 75, 5, 0⟩ : S100), (⟨80, 89, 8, 0⟩ : S100), (⟨96, 97, 5, 0⟩ : S100)] : List (S100)))) = some r := h
  clear h
  obtain ⟨y140, hy140⟩ : ∃ y_ : List (S100), y_ = (([(⟨0, 31, 4, 0⟩ : S100), (⟨32, 63, 5, 0⟩ : S100), (⟨64, 67, 4, 0⟩ : S100), (⟨68, 71, 6, 0⟩ : S100), (⟨72, 75, 5, 0⟩ : S100), (⟨80, 89, 8, 0⟩ : S100), (⟨96, 97, 5, 0⟩ : S100)] : List (S100))) := ⟨_, rfl⟩
  replace H : (some y140) = some r := by first | (rw [hy140]; with_reducible exact H) | (have H2_ := (Option.bind_some _ _).symm.trans H; rw [hy140]; with_reducible exact H2_) | (have H2_ := (Option.bind_some _ _).symm.trans H; with_reducible exact H2_) | with_reducible exact H | (rw [hy140]; exact H) | exact H
  have Ny140 := am hy140
  clear hy140
  obtain rfl := Option.some.inj H
  go_enter Tryd.func123, Tryd.ntmps123
  go_wp2_with (first | ((with_reducible refine gate_dst (N := 8) rfl ?_); refine Kd.R_lit k100 _ 100 ?hg (N := 8) ?hd (xs := ([(⟨0, 31, 4, 0⟩ : S100), (⟨32, 63, 5, 0⟩ : S100), (⟨64, 67, 4, 0⟩ : S100), (⟨68, 71, 6, 0⟩ : S100), (⟨72, 75, 5, 0⟩ : S100), (⟨80, 89, 8, 0⟩ : S100), (⟨96, 97, 5, 0⟩ : S100)] : List (S100))) (inner := [.int .i64 0, .int .i64 31, .int .i64 4, .int .i64 0, .int .i64 32, .int .i64 63, .int .i64 5, .int .i64 0, .int .i64 64, .int .i64 67, .int .i64 4, .int .i64 0, .int .i64 68, .int .i64 71, .int .i64 6, .int .i64 0, .int .i64 72, .int .i64 75, .int .i64 5, .int .i64 0, .int .i64 80, .int .i64 89, .int .i64 8, .int .i64 0, .int .i64 96, .int .i64 97, .int .i64 5, .int .i64 0]) (ok := fun _ => True) (okp := fun _ => True) ?hr ?hp (fun _ hk => hk) trivial (Below.refl _ _) (Nat.le_refl _) (by simp) ?_; (case hd => rfl); (case hg => rfl); (case hr => first | (go_simp; done) | (go_simp; rfl)); (case hp => exact (Reps.c4 (show Kd.M k100 _ _ _ (⟨0, 31, 4, 0⟩ : S100) [.int .i64 0, .int .i64 31, .int .i64 4, .int .i64 0] from (k100_mkM _ _ _ (⟨0, 31, 4, 0⟩ : S100) )) (Reps.c4 (show Kd.M k100 _ _ _ (⟨32, 63, 5, 0⟩ : S100) [.int .i64 32, .int .i64 63, .int .i64 5, .int .i64 0] from (k100_mkM _ _ _ (⟨32, 63, 5, 0⟩ : S100) )) (Reps.c4 (show Kd.M k100 _ _ _ (⟨64, 67, 4, 0⟩ : S100) [.int .i64 64, .int .i64 67, .int .i64 4, .int .i64 0] from (k100_mkM _ _ _ (⟨64, 67, 4, 0⟩ : S100) )) (Reps.c4 (show Kd.M k100 _ _ _ (⟨68, 71, 6, 0⟩ : S100) [.int .i64 68, .int .i64 71, .int .i64 6, .int .i64 0] from (k100_mkM _ _ _ (⟨68, 71, 6, 0⟩ : S100) )) (Reps.c4 (show Kd.M k100 _ _ _ (⟨72, 75, 5, 0⟩ : S100) [.int .i64 72, .int .i64 75, .int .i64 5, .int .i64 0] from (k100_mkM _ _ _ (⟨72, 75, 5, 0⟩ : S100) )) (Reps.c4 (show Kd.M k100 _ _ _ (⟨80, 89, 8, 0⟩ : S100) [.int .i64 80, .int .i64 89, .int .i64 8, .int .i64 0] from (k100_mkM _ _ _ (⟨80, 89, 8, 0⟩ : S100) )) (Reps.c4 (show Kd.M k100 _ _ _ (⟨96, 97, 5, 0⟩ : S100) [.int .i64 96, .int .i64 97, .int .i64 5, .int .i64 0] from (k100_mkM _ _ _ (⟨96, 97, 5, 0⟩ : S100) )) (Reps.none _ _))))))))); intro v141 w1 ho2 hb hg_ hnew_; clear hg_ hnew_; (first | rw [← Ny140.out] at ho2 | (simp only [Int.reduceToNat] at ho2; rw [← Ny140.out] at ho2)); have HO142 := am (Kd.R_lower ho2 (below_size bB)); replace HB := am (below_step bB hb); clear hb ho2))
  go_ret
  exact ⟨_, rv, kR HO142.out, bB⟩

/-! ### spec_l01Rows: function 124 -/
def spec_l01Rows.f  : Option ((List (S100))) := some (([(⟨0, 31, 1, 0⟩ : S100), (⟨32, 32, 2, 0⟩ : S100), (⟨48, 57, 8, 0⟩ : S100), (⟨65, 90, 4, 1⟩ : S100), (⟨97, 122, 5, 1⟩ : S100), (⟨33, 126, 9, 0⟩ : S100), (⟨127, 159, 1, 0⟩ : S100), (⟨160, 160, 2, 0⟩ : S100), (⟨173, 173, 11, 0⟩ : S100), (⟨161, 191, 10, 0⟩ : S100), (⟨1280, 1311, 7, 5⟩ : S100), (⟨1360, 1369, 8, 5⟩ : S100), (⟨1536, 1567, 7, 6⟩ : S100), (⟨1568, 1579, 3, 6⟩ : S100), (⟨1584, 1585, 3, 6⟩ : S100), (⟨1616, 1625, 8, 6⟩ : S100), (⟨1792, 1810, 7, 7⟩ : S100), (⟨1824, 1844, 7, 7⟩ : S100), (⟨1857, 1883, 7, 7⟩ : S100), (⟨2048, 2095, 7, 8⟩ : S100), (⟨4096, 4159, 3, 0⟩ : S100), (⟨7680, 7748, 10, 0⟩ : S100), (⟨7760, 7785, 10, 0⟩ : S100), (⟨7936, 7947, 11, 0⟩ : S100), (⟨7953, 7954, 11, 0⟩ : S100), (⟨8064, 8064, 2, 0⟩ : S100), (⟨9728, 9753, 4, 1⟩ : S100), (⟨9984, 10009, 10, 0⟩ : S100), (⟨10016, 10025, 8, 0⟩ : S100), (⟨10032, 10035, 10, 0⟩ : S100), (⟨12288, 23459, 7, 7⟩ : S100), (⟨24576, 26623, 7, 9⟩ : S100)] : List (S100)))
set_option maxHeartbeats 8000000 in
set_option maxRecDepth 100000 in
theorem spec_l01Rows.calls  (r : List (S100)) (w : World) (h : spec_l01Rows.f  = some r) :
    Calls Tryd.prog 124 #[] w fun e w' => ∃ v0_ : Value, e = .returned (v0_) ∧ Kd.R k100 100 w' w.heap.size (fun _ => True) v0_ r ∧ Below w.heap.size w w' := by
  have hu100 := Tryd.underlying100
  have HB := am (Below.refl w.heap.size w)
  have H : (some (([(⟨0, 31, 1, 0⟩ : S100), (⟨32, 32, 2, 0⟩ : S100), (⟨48, 57, 8, 0⟩ : S100), (⟨65, 90, 4, 1⟩ : S100), (⟨97, 122, 5, 1⟩ : S100), (⟨33, 126, 9, 0⟩ : S100), (⟨127, 159, 1, 0⟩ : S100), (⟨160, 160, 2, 0⟩ : S100), (⟨173, 173, 11, 0⟩ : S100), (⟨161, 191, 10, 0⟩ : S100), (⟨1280, 1311, 7, 5⟩ : S100), (⟨1360, 1369, 8, 5⟩ : S100), (⟨1536, 1567, 7, 6⟩ : S100), (⟨1568, 1579, 3, 6⟩ : S100), (⟨1584, 1585, 3, 6⟩ : S100), (⟨1616, 1625, 8, 6⟩ : S100), (⟨1792, 1810, 7, 7⟩ : S100), (⟨1824, 1844, 7, 7⟩ : S100), (⟨1857, 1883, 7, 7⟩ : S100), (⟨2048, 2095, 7, 8⟩ : S100), (⟨4096, 4159, 3, 0⟩ : S100), (⟨7680, 7748, 10, 0⟩ : S100), (⟨7760, 7785, 10, 0⟩ : S100), (⟨7936, 7947, 11, 0⟩ : S100), (⟨7953, 7954, 11, 0⟩ : S100), (⟨8064, 8064, 2, 0⟩ : S100), (⟨9728, 9753, 4, 1⟩ : S100), (⟨9984, 10009, 10, 0⟩ : S100), (⟨10016, 10025, 8, 0⟩ : S100), (⟨10032, 10035, 10, 0⟩ : S100), (⟨12288, 23459, 7, 7⟩ : S100), (⟨24576, 26623, 7, 9⟩ : S100)] : List (S100)))) = some r := h
  clear h
  obtain ⟨y143, hy143⟩ : ∃ y_ : List (S100), y_ = (([(⟨0, 31, 1, 0⟩ : S100), (⟨32, 32, 2, 0⟩ : S100), (⟨48, 57, 8, 0⟩ : S100), (⟨65, 90, 4, 1⟩ : S100), (⟨97, 122, 5, 1⟩ : S100), (⟨33, 126, 9, 0⟩ : S100), (⟨127, 159, 1, 0⟩ : S100), (⟨160, 160, 2, 0⟩ : S100), (⟨173, 173, 11, 0⟩ : S100), (⟨161, 191, 10, 0⟩ : S100), (⟨1280, 1311, 7, 5⟩ : S100), (⟨1360, 1369, 8, 5⟩ : S100), (⟨1536, 1567, 7, 6⟩ : S100), (⟨1568, 1579, 3, 6⟩ : S100), (⟨1584, 1585, 3, 6⟩ : S100), (⟨1616, 1625, 8, 6⟩ : S100), (⟨1792, 1810, 7, 7⟩ : S100), (⟨1824, 1844, 7, 7⟩ : S100), (⟨1857, 1883, 7, 7⟩ : S100), (⟨2048, 2095, 7, 8⟩ : S100), (⟨4096, 4159, 3, 0⟩ : S100), (⟨7680, 7748, 10, 0⟩ : S100), (⟨7760, 7785, 10, 0⟩ : S100), (⟨7936, 7947, 11, 0⟩ : S100), (⟨7953, 7954, 11, 0⟩ : S100), (⟨8064, 8064, 2, 0⟩ : S100), (⟨9728, 9753, 4, 1⟩ : S100), (⟨9984, 10009, 10, 0⟩ : S100), (⟨10016, 10025, 8, 0⟩ : S100), (⟨10032, 10035, 10, 0⟩ : S100), (⟨12288, 23459, 7, 7⟩ : S100), (⟨24576, 26623, 7, 9⟩ : S100)] : List (S100))) := ⟨_, rfl⟩
  replace H : (some y143) = some r := by first | (rw [hy143]; with_reducible exact H) | (have H2_ := (Option.bind_some _ _).symm.trans H; rw [hy143]; with_reducible exact H2_) | (have H2_ := (Option.bind_some _ _).symm.trans H; with_reducible exact H2_) | with_reducible exact H | (rw [hy143]; exact H) | exact H
  have Ny143 := am hy143
  clear hy143
  obtain rfl := Option.some.inj H
  go_enter Tryd.func124, Tryd.ntmps124
  go_wp2_with (first | ((with_reducible refine gate_dst (N := 33) rfl ?_); refine Kd.R_lit k100 _ 100 ?hg (N := 33) ?hd (xs := ([(⟨0, 31, 1, 0⟩ : S100), (⟨32, 32, 2, 0⟩ : S100), (⟨48, 57, 8, 0⟩ : S100), (⟨65, 90, 4, 1⟩ : S100), (⟨97, 122, 5, 1⟩ : S100), (⟨33, 126, 9, 0⟩ : S100), (⟨127, 159, 1, 0⟩ : S100), (⟨160, 160, 2, 0⟩ : S100), (⟨173, 173, 11, 0⟩ : S100), (⟨161, 191, 10, 0⟩ : S100), (⟨1280, 1311, 7, 5⟩ : S100), (⟨1360, 1369, 8, 5⟩ : S100), (⟨1536, 1567, 7, 6⟩ : S100), (⟨1568, 1579, 3, 6⟩ : S100), (⟨1584, 1585, 3, 6⟩ : S100), (⟨1616, 1625, 8, 6⟩ : S100), (⟨1792, 1810, 7, 7⟩ : S100), (⟨1824, 1844, 7, 7⟩ : S100), (⟨1857, 1883, 7, 7⟩ : S100), (⟨2048, 2095, 7, 8⟩ : S100), (⟨4096, 4159, 3, 0⟩ : S100), (⟨7680, 7748, 10, 0⟩ : S100), (⟨7760, 7785, 10, 0⟩ : S100), (⟨7936, 7947, 11, 0⟩ : S100), (⟨7953, 7954, 11, 0⟩ : S100), (⟨8064, 8064, 2, 0⟩ : S100), (⟨9728, 9753, 4, 1⟩ : S100), (⟨9984, 10009, 10, 0⟩ : S100), (⟨10016, 10025, 8, 0⟩ : S100), (⟨10032, 10035, 10, 0⟩ : S100), (⟨12288, 23459, 7, 7⟩ : S100), (⟨24576, 26623, 7, 9⟩ : S100)] : List (S100))) (inner := [.int .i64 0, .int .i64 31, .int .i64 1, .int .i64 0, .int .i64 32, .int .i64 32, .int .i64 2, .int .i64 0, .int .i64 48, .int .i64 57, .int .i64 8, .int .i64 0, .int .i64 65, .int .i64 90, .int .i64 4, .int .i64 1, .int .i64 97, .int .i64 122, .int .i64 5, .int .i64 1, .int .i64 33, .int .i64 126, .int .i64 9, .int .i64 0, .int .i64 127, .int .i64 159, .int .i64 1, .int .i64 0, .int .i64 160, .int .i64 160, .int .i64 2, .int .i64 0, .int .i64 173, .int .i64 173, .int .i64 11, .int .i64 0, .int .i64 161, .int .i64 191, .int .i64 10, .int .i64 0, .int .i64 1280, .int .i64 1311, .int .i64 7, .int .i64 5, .int .i64 1360, .int .i64 1369, .int .i64 8, .int .i64 5, .int .i64 1536, .int .i64 1567, .int .i64 7, .int .i64 6, .int .i64 1568, .int .i64 1579, .int .i64 3, .int .i64 6, .int .i64 1584, .int .i64 1585, .int .i64 3, .int .i64 6, .int .i64 1616, .int .i64 1625, .int .i64 8, .int .i64 6, .int .i64 1792, .int .i64 1810, .int .i64 7, .int .i64 7, .int .i64 1824, .int .i64 1844, .int .i64 7, .int .i64 7, .int .i64 1857, .int .i64 1883, .int .i64 7, .int .i64 7, .int .i64 2048, .int .i64 2095, .int .i64 7, .int .i64 8, .int .i64 4096, .int .i64 4159, .int .i64 3, .int .i64 0, .int .i64 7680, .int .i64 7748, .int .i64 10, .int .i64 0, .int .i64 7760, .int .i64 7785, .int .i64 10, .int .i64 0, .int .i64 7936, .int .i64 7947, .int .i64 11, .int .i64 0, .int .i64 7953, .int .i64 7954, .int .i64 11, .int .i64 0, .int .i64 8064, .int .i64 8064, .int .i64 2, .int .i64 0, .int .i64 9728, .int .i64 9753, .int .i64 4, .int .i64 1, .int .i64 9984, .int .i64 10009, .int .i64 10, .int .i64 0, .int .i64 10016, .int .i64 10025, .int .i64 8, .int .i64 0, .int .i64 10032, .int .i64 10035, .int .i64 10, .int .i64 0, .int .i64 12288, .int .i64 23459, .int .i64 7, .int .i64 7, .int .i64 24576, .int .i64 26623, .int .i64 7, .int .i64 9]) (ok := fun _ => True) (okp := fun _ => True) ?hr ?hp (fun _ hk => hk) trivial (Below.refl _ _) (Nat.le_refl _) (by simp) ?_; (case hd => rfl); (case hg => rfl); (case hr => first | (go_simp; done) | (go_simp; rfl)); (case hp => exact (Reps.c4 (show Kd.M k100 _ _ _ (⟨0, 31, 1, 0⟩ : S100) [.int .i64 0, .int .i64 31, .int .i64 1, .int .i64 0] from (k100_mkM _ _ _ (⟨0, 31, 1, 0⟩ : S100) )) (Reps.c4 (show Kd.M k100 _ _ _ (⟨32, 32, 2, 0⟩ : S100) [.int .i64 32, .int .i64 32, .int .i64 2, .int .i64 0] from (k100_mkM _ _ _ (⟨32, 32, 2, 0⟩ : S100) )) (Reps.c4 (show Kd.M k100 _ _ _ (⟨48, 57, 8, 0⟩ : S100) [.int .i64 48, .int .i64 57, .int .i64 8, .int .i64 0] from (k100_mkM _ _ _ (⟨48, 57, 8, 0⟩ : S100) )) (Reps.c4 (show Kd.M k100 _ _ _ (⟨65, 90, 4, 1⟩ : S100) [.int .i64 65, .int .i64 90, .int .i64 4, .int .i64 1] from (k100_mkM _ _ _ (⟨65, 90, 4, 1⟩ : S100) )) (Reps.c4 (show Kd.M k100 _ _ _ (⟨97, 122, 5, 1⟩ : S100) [.int .i64 97, .int .i64 122, .int .i64 5, .int .i64 1] from (k100_mkM _ _ _ (⟨97, 122, 5, 1⟩ : S100) )) (Reps.c4 (show Kd.M k100 _ _ _ (⟨33, 126, 9, 0⟩ : S100) [.int .i64 33, .int .i64 126, .int .i64 9, .int .i64 0] from (k100_mkM _ _ _ (⟨33, 126, 9, 0⟩ : S100) )) (Reps.c4 (show Kd.M k100 _ _ _ (⟨127, 159, 1, 0⟩ : S100) [.int .i64 127, .int .i64 159, .int .i64 1, .int .i64 0] from (k100_mkM _ _ _ (⟨127, 159, 1, 0⟩ : S100) )) (Reps.c4 (show Kd.M k100 _ _ _ (⟨160, 160, 2, 0⟩ : S100) [.int .i64 160, .int .i64 160, .int .i64 2, .int .i64 0] from (k100_mkM _ _ _ (⟨160, 160, 2, 0⟩ : S100) )) (Reps.c4 (show Kd.M k100 _ _ _ (⟨173, 173, 11, 0⟩ : S100) [.int .i64 173, .int .i64 173, .int .i64 11, .int .i64 0] from (k100_mkM _ _ _ (⟨173, 173, 11, 0⟩ : S100) )) (Reps.c4 (show Kd.M k100 _ _ _ (⟨161, 191, 10, 0⟩ : S100) [.int .i64 161, .int .i64 191, .int .i64 10, .int .i64 0] from (k100_mkM _ _ _ (⟨161, 191, 10, 0⟩ : S100) )) (Reps.c4 (show Kd.M k100 _ _ _ (⟨1280, 1311, 7, 5⟩ : S100) [.int .i64 1280, .int .i64 1311, .int .i64 7, .int .i64 5] from (k100_mkM _ _ _ (⟨1280, 1311, 7, 5⟩ : S100) )) (Reps.c4 (show Kd.M k100 _ _ _ (⟨1360, 1369, 8, 5⟩ : S100) [.int .i64 1360, .int .i64 1369, .int .i64 8, .int .i64 5] from (k100_mkM _ _ _ (⟨1360, 1369, 8, 5⟩ : S100) )) (Reps.c4 (show Kd.M k100 _ _ _ (⟨1536, 1567, 7, 6⟩ : S100) [.int .i64 1536, .int .i64 1567, .int .i64 7, .int .i64 6] from (k100_mkM _ _ _ (⟨1536, 1567, 7, 6⟩ : S100) )) (Reps.c4 (show Kd.M k100 _ _ _ (⟨1568, 1579, 3, 6⟩ : S100) [.int .i64 1568, .int .i64 1579, .int .i64 3, .int .i64 6] from (k100_mkM _ _ _ (⟨1568, 1579, 3, 6⟩ : S100) )) (Reps.c4 (show Kd.M k100 _ _ _ (⟨1584, 1585, 3, 6⟩ : S100) [.int .i64 1584, .int .i64 1585, .int .i64 3, .int .i64 6] from (k100_mkM _ _ _ (⟨1584, 1585, 3, 6⟩ : S100) )) (Reps.c4 (show Kd.M k100 _ _ _ (⟨1616, 1625, 8, 6⟩ : S100) [.int .i64 1616, .int .i64 1625, .int .i64 8, .int .i64 6] from (k100_mkM _ _ _ (⟨1616, 1625, 8, 6⟩ : S100) )) (Reps.c4 (show Kd.M k100 _ _ _ (⟨1792, 1810, 7, 7⟩ : S100) [.int .i64 1792, .int .i64 1810, .int .i64 7, .int .i64 7] from (k100_mkM _ _ _ (⟨1792, 1810, 7, 7⟩ : S100) )) (Reps.c4 (show Kd.M k100 _ _ _ (⟨1824, 1844, 7, 7⟩ : S100) [.int .i64 1824, .int .i64 1844, .int .i64 7, .int .i64 7] from (k100_mkM _ _ _ (⟨1824, 1844, 7, 7⟩ : S100) )) (Reps.c4 (show Kd.M k100 _ _ _ (⟨1857, 1883, 7, 7⟩ : S100) [.int .i64 1857, .int .i64 1883, .int .i64 7, .int .i64 7] from (k100_mkM _ _ _ (⟨1857, 1883, 7, 7⟩ : S100) )) (Reps.c4 (show Kd.M k100 _ _ _ (⟨2048, 2095, 7, 8⟩ : S100) [.int .i64 2048, .int .i64 2095, .int .i64 7, .int .i64 8] from (k100_mkM _ _ _ (⟨2048, 2095, 7, 8⟩ : S100) )) (Reps.c4 (show Kd.M k100 _ _ _ (⟨4096, 4159, 3, 0⟩ : S100) [.int .i64 4096, .int .i64 4159, .int .i64 3, .int .i64 0] from (k100_mkM _ _ _ (⟨4096, 4159, 3, 0⟩ : S100) )) (Reps.c4 (show Kd.M k100 _ _ _ (⟨7680, 7748, 10, 0⟩ : S100) [.int .i64 7680, .int .i64 7748, .int .i64 10, .int .i64 0] from (k100_mkM _ _ _ (⟨7680, 7748, 10, 0⟩ : S100) )) (Reps.c4 (show Kd.M k100 _ _ _ (⟨7760, 7785, 10, 0⟩ : S100) [.int .i64 7760, .int .i64 7785, .int .i64 10, .int .i64 0] from (k100_mkM _ _ _ (⟨7760, 7785, 10, 0⟩ : S100) )) (Reps.c4 (show Kd.M k100 _ _ _ (⟨7936, 7947, 11, 0⟩ : S100) [.int .i64 7936, .int .i64 7947, .int .i64 11, .int .i64 0] from (k100_mkM _ _ _ (⟨7936, 7947, 11, 0⟩ : S100) )) (Reps.c4 (show Kd.M k100 _ _ _ (⟨7953, 7954, 11, 0⟩ : S100) [.int .i64 7953, .int .i64 7954, .int .i64 11, .int .i64 0] from (k100_mkM _ _ _ (⟨7953, 7954, 11, 0⟩ : S100) )) (Reps.c4 (show Kd.M k100 _ _ _ (⟨8064, 8064, 2, 0⟩ : S100) [.int .i64 8064, .int .i64 8064, .int .i64 2, .int .i64 0] from (k100_mkM _ _ _ (⟨8064, 8064, 2, 0⟩ : S100) )) (Reps.c4 (show Kd.M k100 _ _ _ (⟨9728, 9753, 4, 1⟩ : S100) [.int .i64 9728, .int .i64 9753, .int .i64 4, .int .i64 1] from (k100_mkM _ _ _ (⟨9728, 9753, 4, 1⟩ : S100) )) (Reps.c4 (show Kd.M k100 _ _ _ (⟨9984, 10009, 10, 0⟩ : S100) [.int .i64 9984, .int .i64 10009, .int .i64 10, .int .i64 0] from (k100_mkM _ _ _ (⟨9984, 10009, 10, 0⟩ : S100) )) (Reps.c4 (show Kd.M k100 _ _ _ (⟨10016, 10025, 8, 0⟩ : S100) [.int .i64 10016, .int .i64 10025, .int .i64 8, .int .i64 0] from (k100_mkM _ _ _ (⟨10016, 10025, 8, 0⟩ : S100) )) (Reps.c4 (show Kd.M k100 _ _ _ (⟨10032, 10035, 10, 0⟩ : S100) [.int .i64 10032, .int .i64 10035, .int .i64 10, .int .i64 0] from (k100_mkM _ _ _ (⟨10032, 10035, 10, 0⟩ : S100) )) (Reps.c4 (show Kd.M k100 _ _ _ (⟨12288, 23459, 7, 7⟩ : S100) [.int .i64 12288, .int .i64 23459, .int .i64 7, .int .i64 7] from (k100_mkM _ _ _ (⟨12288, 23459, 7, 7⟩ : S100) )) (Reps.c4 (show Kd.M k100 _ _ _ (⟨24576, 26623, 7, 9⟩ : S100) [.int .i64 24576, .int .i64 26623, .int .i64 7, .int .i64 9] from (k100_mkM _ _ _ (⟨24576, 26623, 7, 9⟩ : S100) )) (Reps.none _ _)))))))))))))))))))))))))))))))))); intro v144 w1 ho2 hb hg_ hnew_; clear hg_ hnew_; (first | rw [← Ny143.out] at ho2 | (simp only [Int.reduceToNat] at ho2; rw [← Ny143.out] at ho2)); have HO145 := am (Kd.R_lower ho2 (below_size bB)); replace HB := am (below_step bB hb); clear hb ho2))
  go_ret
  exact ⟨_, rv, kR HO145.out, bB⟩

end Go.Proofs.YtmlhnpggjkoinaaDoor.PFnExactFewestWords

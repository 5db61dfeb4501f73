-- Written by a program of this session: what the printed functions compute.
import Derived.Test.YtnbedmihgnjdpaaDoorPFnExactCollatorFaultx0
import Derived.Test.YtnbedmihgnjdpaaDoorSlimMore
import Derived.Test.YtnbedmihgnjdpaaDoorSlimStep
import Derived.Test.YtnbedmihgnjdpaaDoorPFnExactCollatorFaultx1
namespace Go.Proofs.YtnbedmihgnjdpaaDoor.PFnExactCollatorFault
open Go.RowKit Go.Proofs.YtnbedmihgnjdpaaDoorW.PrintWords Go.Proofs.YtnbedmihgnjdpaaDoorW.PrintLast Go.Proofs.YtnbedmihgnjdpaaDoorW.PrintMore
attribute [local go_sem] max2_int min2_int max_two min_two max_three min_three max_four min_four
set_option linter.unusedVariables false
set_option linter.unusedSimpArgs false
mutual
def spec_l05Wide.j0 : Nat → Int → Bool → Option (List Int)
 | 0, _, _ => none
 | k + 1, x0, x4 => if x4 = true then (some (([wrap64 ((wrap64 (x0 - 9984)) + 65)] : List Int))) else (if x0 ≥ 10016 then (spec_l05Wide.j1 k x0 (decide (x0 ≤ 10025))) else (spec_l05Wide.j1 k x0 false))
def spec_l05Wide.j1 : Nat → Int → Bool → Option (List Int)
 | 0, _, _ => none
 | k + 1, x0, x15 => if x15 = true then (some (([wrap64 ((wrap64 (x0 - 10016)) + 48)] : List Int))) else (if x0 = 8064 then (spec_l05Wide.j2 k x0 true) else (spec_l05Wide.j2 k x0 (x0 == 160)))
def spec_l05Wide.j2 : Nat → Int → Bool → Option (List Int)
 | 0, _, _ => none
 | k + 1, x0, x26 => if x26 = true then (some (([32] : List Int))) else (if x0 ≥ 10032 then (if x0 ≤ 10035 then (if 0 ≤ (wrap64 (2 * (wrap64 (x0 - 10032)))) then (if (wrap64 (2 * (wrap64 (x0 - 10032)))) ≤ (wrap64 ((wrap64 (2 * (wrap64 (x0 - 10032)))) + 2)) then (if (wrap64 ((wrap64 (2 * (wrap64 (x0 - 10032)))) + 2)) ≤ 8 then (if 0 < (((⟨#[102, 102, 102, 105, 102, 108, 115, 116]⟩ : ByteArray).extract ((wrap64 (2 * (wrap64 (x0 - 10032)))) : Int).toNat ((wrap64 ((wrap64 (2 * (wrap64 (x0 - 10032)))) + 2)) : Int).toNat).size : Int) then (if 1 < (((⟨#[102, 102, 102, 105, 102, 108, 115, 116]⟩ : ByteArray).extract ((wrap64 (2 * (wrap64 (x0 - 10032)))) : Int).toNat ((wrap64 ((wrap64 (2 * (wrap64 (x0 - 10032)))) + 2)) : Int).toNat).size : Int) then (some (([wrap64 (bt ((⟨#[102, 102, 102, 105, 102, 108, 115, 116]⟩ : ByteArray).extract ((wrap64 (2 * (wrap64 (x0 - 10032)))) : Int).toNat ((wrap64 ((wrap64 (2 * (wrap64 (x0 - 10032)))) + 2)) : Int).toNat) 0), wrap64 (bt ((⟨#[102, 102, 102, 105, 102, 108, 115, 116]⟩ : ByteArray).extract ((wrap64 (2 * (wrap64 (x0 - 10032)))) : Int).toNat ((wrap64 ((wrap64 (2 * (wrap64 (x0 - 10032)))) + 2)) : Int).toNat) 1)] : List Int))) else (none)) else (none)) else (none)) else (none)) else (none)) else (some (([] : List Int)))) else (some (([] : List Int))))
end
def spec_l05Wide.f (k : Nat) (a0 : Int) : Option (List Int) := if a0 ≥ 9984 then (spec_l05Wide.j0 k a0 (decide (a0 ≤ 10009))) else (spec_l05Wide.j0 k a0 false)
def spec_l05Wide.T9 : Bool × List (List Nat × List Nat) := (true, [([], []), ([0], [0]), ([1], [1]), ([], []), ([3], [3]), ([4], [4]), ([2, 5], [2, 5]), ([6, 0, 1, 2, 3, 4, 5, 6], [6])])
def spec_l05Wide.B9 : List Nat := [0, 1, 3, 0, 8, 24, 63, 127]
theorem spec_l05Wide.tab9 : rtab .any (opsOf Tryd.f98 9) = spec_l05Wide.T9 := by kernel_rfl
theorem spec_l05Wide.bits9 : waitsOk spec_l05Wide.T9.2 spec_l05Wide.B9 = true := by kernel_rfl
set_option maxHeartbeats 8000000 in
set_option maxRecDepth 100000 in
theorem spec_l05Wide.calls (k : Nat) (a0 : Int) (r : List Int) (w : World) (h : spec_l05Wide.f k a0 = some r) :
  Calls Tryd.prog 98 #[.int .i64 a0] w fun e w' => ∃ v0_ : Value, e = .returned (v0_) ∧ Kd.R (Kd.int .i64) 2 w' w.heap.size (fun _ => True) v0_ r ∧ Below w.heap.size w w' := by
 have HB := am (Below.refl w.heap.size w)
 have H : (if a0 ≥ 9984 then (spec_l05Wide.j0 k a0 (decide (a0 ≤ 10009))) else (spec_l05Wide.j0 k a0 false)) = some r := h
 clear h
 have HC2 := am H
 clear H
 go_enter Tryd.func98, Tryd.ntmps98
 go_upto_region 1 with (fail)
 go_cut [4] (fun v4 wc => ∃ (kq : Nat) (x4_1 : Bool), v4 = .bool x4_1 ∧ Aside0 (spec_l05Wide.j0 kq a0 x4_1 = some r) ∧ Aside0 (kq ≤ k) ∧ Aside0 (Below w.heap.size w wc))
 case first =>
  have H := HC2.out
  clear HC2
  by_cases c3 : a0 ≥ 9984
  ·rw [if_pos c3] at H
   have c3b0 : decide (9984 ≤ a0) = true := decide_eq_true c3
   clear c3
   (first | rw [c3b0] | (simp only [i64_w, i32_w]; rw [c3b0]) | skip)
   have H' := am H
   clear H
   go_wp2
   go_meet
   case rel => exact ⟨_, (decide (a0 ≤ 10009)), (by first | rfl | (simp; done) | (simp [*]; done)), H', ⟨by first | omega | exact Nat.le_refl _⟩, ⟨bB⟩⟩
  ·rw [if_neg c3] at H
   have c3b0 : decide (9984 ≤ a0) = false := decide_eq_false c3
   clear c3
   (first | rw [c3b0] | (simp only [i64_w, i32_w]; rw [c3b0]) | skip)
   have H' := am H
   clear H
   go_wp2
   go_meet
   case rel => exact ⟨_, (false), (by first | rfl | (simp; done) | (simp [*]; done)), H', ⟨by first | omega | exact Nat.le_refl _⟩, ⟨bB⟩⟩
 case rest =>
  clear HC2
  try clear p2
  try clear c3
  try clear c3b0
  obtain ⟨kq, x4_1, rfl, HA, HJ1, HB⟩ := hcut
  cases kq with
  | zero => exact absurd HA.out (by simp [spec_l05Wide.j0])
  | succ kj1 =>
   have H := HA.out
   clear HA
   simp only [spec_l05Wide.j0] at H
   by_cases c4 : x4_1 = true
   ·subst c4
    have H1 : (some (([wrap64 ((wrap64 (a0 - 9984)) + 65)] : List Int))) = some r := by rw [if_pos rfl] at H; exact H
    clear H
    have H := H1
    clear H1
    obtain ⟨y128, hy128⟩ : ∃ y_ : List Int, y_ = (([wrap64 ((wrap64 (a0 - 9984)) + 65)] : List Int)) := ⟨_, rfl⟩
    replace H : (some y128) = some r := by first | (rw [hy128]; with_reducible exact H) | (have H2_ := (Option.bind_some _ _).symm.trans H; rw [hy128]; with_reducible exact H2_) | (have H2_ := (Option.bind_some _ _).symm.trans H; with_reducible exact H2_) | with_reducible exact H | (rw [hy128]; exact H) | exact H
    have Ny128 := am hy128
    clear hy128
    obtain rfl := Option.some.inj H
    go_wp2_with (first | ((with_reducible refine gate_dst (N := 14) rfl ?_); refine Kd.R_lit (Kd.int .i64) _ 2 ?hg (N := 14) ?hd (xs := ([wrap64 ((wrap64 (a0 - 9984)) + 65)] : List Int)) (inner := [.int .i64 (wrap64 ((wrap64 (a0 - 9984)) + 65))]) (ok := fun _ => True) (okp := fun _ => True) ?hr ?hp (fun _ hk => hk) trivial (Below.refl _ _) (Nat.le_refl _) (by simp) ?_; (case hd => rfl); (case hg => rfl); (case hr => first | (go_simp; done) | (go_simp; rfl)); (case hp => exact (Reps.one (show Kd.M (Kd.int .i64) _ _ _ (wrap64 ((wrap64 (a0 - 9984)) + 65)) [.int .i64 (wrap64 ((wrap64 (a0 - 9984)) + 65))] from rfl) (Reps.none _ _))); intro v129 w5 ho6 hb hg_ hnew_; clear hg_ hnew_; (first | rw [← Ny128.out] at ho6 | (simp only [Int.reduceToNat] at ho6; rw [← Ny128.out] at ho6)); have HO130 := am (Kd.R_lower ho6 (below_size bB)); replace HB := am (below_step bB hb); clear hb ho6))
    go_ret
    exact ⟨_, rv, kR HO130.out, bB⟩
   ·replace c4 := Bool.eq_false_iff.mpr c4
    subst c4
    have H1 : (if a0 ≥ 10016 then (spec_l05Wide.j1 kj1 a0 (decide (a0 ≤ 10025))) else (spec_l05Wide.j1 kj1 a0 false)) = some r := by rw [if_neg (show ¬ (false = true) by decide)] at H; exact H
    clear H
    have H := H1
    clear H1
    have HC7 := am H
    clear H
    go_upto_region 3 with (fail)
    go_cut [15] (fun v15 wc => ∃ (kq : Nat) (x15_6 : Bool), v15 = .bool x15_6 ∧ Aside0 (spec_l05Wide.j1 kq a0 x15_6 = some r) ∧ Aside0 (kq ≤ kj1) ∧ Aside0 (Below w.heap.size w wc))
    case first =>
     have H := HC7.out
     clear HC7
     by_cases c8 : a0 ≥ 10016
     ·rw [if_pos c8] at H
      have c8b0 : decide (10016 ≤ a0) = true := decide_eq_true c8
      clear c8
      (first | rw [c8b0] | (simp only [i64_w, i32_w]; rw [c8b0]) | skip)
      have H' := am H
      clear H
      go_wp2
      go_meet
      case rel => exact ⟨_, (decide (a0 ≤ 10025)), (by first | rfl | (simp; done) | (simp [*]; done)), H', ⟨by have := HJ1.out; first | omega | exact Nat.le_refl _⟩, ⟨bB⟩⟩
     ·rw [if_neg c8] at H
      have c8b0 : decide (10016 ≤ a0) = false := decide_eq_false c8
      clear c8
      (first | rw [c8b0] | (simp only [i64_w, i32_w]; rw [c8b0]) | skip)
      have H' := am H
      clear H
      go_wp2
      go_meet
      case rel => exact ⟨_, (false), (by first | rfl | (simp; done) | (simp [*]; done)), H', ⟨by have := HJ1.out; first | omega | exact Nat.le_refl _⟩, ⟨bB⟩⟩
    case rest =>
     clear HC7
     try clear p2
     try clear c3
     try clear c3b0
     try clear c4
     try clear p6
     try clear c8
     try clear c8b0
     try clear p2
     obtain ⟨kq, x15_6, rfl, HA, HJ6, HB⟩ := hcut
     cases kq with
     | zero => exact absurd HA.out (by simp [spec_l05Wide.j1])
     | succ kj6 =>
      have H := HA.out
      clear HA
      simp only [spec_l05Wide.j1] at H
      by_cases c9 : x15_6 = true
      ·subst c9
       have H1 : (some (([wrap64 ((wrap64 (a0 - 10016)) + 48)] : List Int))) = some r := by rw [if_pos rfl] at H; exact H
       clear H
       have H := H1
       clear H1
       obtain ⟨y131, hy131⟩ : ∃ y_ : List Int, y_ = (([wrap64 ((wrap64 (a0 - 10016)) + 48)] : List Int)) := ⟨_, rfl⟩
       replace H : (some y131) = some r := by first | (rw [hy131]; with_reducible exact H) | (have H2_ := (Option.bind_some _ _).symm.trans H; rw [hy131]; with_reducible exact H2_) | (have H2_ := (Option.bind_some _ _).symm.trans H; with_reducible exact H2_) | with_reducible exact H | (rw [hy131]; exact H) | exact H
       have Ny131 := am hy131
       clear hy131
       obtain rfl := Option.some.inj H
       go_wp2_with (first | ((with_reducible refine gate_dst (N := 25) rfl ?_); refine Kd.R_lit (Kd.int .i64) _ 2 ?hg (N := 25) ?hd (xs := ([wrap64 ((wrap64 (a0 - 10016)) + 48)] : List Int)) (inner := [.int .i64 (wrap64 ((wrap64 (a0 - 10016)) + 48))]) (ok := fun _ => True) (okp := fun _ => True) ?hr ?hp (fun _ hk => hk) trivial (Below.refl _ _) (Nat.le_refl _) (by simp) ?_; (case hd => rfl); (case hg => rfl); (case hr => first | (go_simp; done) | (go_simp; rfl)); (case hp => exact (Reps.one (show Kd.M (Kd.int .i64) _ _ _ (wrap64 ((wrap64 (a0 - 10016)) + 48)) [.int .i64 (wrap64 ((wrap64 (a0 - 10016)) + 48))] from rfl) (Reps.none _ _))); intro v132 w10 ho11 hb hg_ hnew_; clear hg_ hnew_; (first | rw [← Ny131.out] at ho11 | (simp only [Int.reduceToNat] at ho11; rw [← Ny131.out] at ho11)); have HO133 := am (Kd.R_lower ho11 (below_size bB)); replace HB := am (below_step bB hb); clear hb ho11))
       go_ret
       exact ⟨_, rv, kR HO133.out, bB⟩
      ·replace c9 := Bool.eq_false_iff.mpr c9
       subst c9
       have H1 : (if a0 = 8064 then (spec_l05Wide.j2 kj6 a0 true) else (spec_l05Wide.j2 kj6 a0 (a0 == 160))) = some r := by rw [if_neg (show ¬ (false = true) by decide)] at H; exact H
       clear H
       have H := H1
       clear H1
       have HC12 := am H
       clear H
       go_upto_region 5 with (fail)
       go_cut [26] (fun v26 wc => ∃ (kq : Nat) (x26_11 : Bool), v26 = .bool x26_11 ∧ Aside0 (spec_l05Wide.j2 kq a0 x26_11 = some r) ∧ Aside0 (kq ≤ kj6) ∧ Aside0 (Below w.heap.size w wc))
       case first =>
        have H := HC12.out
        clear HC12
        by_cases c13 : a0 = 8064
        ·rw [if_pos c13] at H
         have c13b0 : (a0 == 8064) = true := beq_iff_eq.mpr c13
         have c13b1 : (a0 != 8064) = false := bne_eq_false_iff_eq.mpr c13
         clear c13
         (first | rw [c13b0] | (simp only [i64_w, i32_w]; rw [c13b0]) | skip)
         have H' := am H
         clear H
         go_wp2
         go_meet
         case rel => exact ⟨_, (true), (by first | rfl | (simp; done) | (simp [*]; done)), H', ⟨by have := HJ1.out; have := HJ6.out; first | omega | exact Nat.le_refl _⟩, ⟨bB⟩⟩
        ·rw [if_neg c13] at H
         have c13b0 : (a0 == 8064) = false := beq_eq_false_iff_ne.mpr c13
         have c13b1 : (a0 != 8064) = true := bne_iff_ne.mpr c13
         (first | rw [c13b0] | (simp only [i64_w, i32_w]; rw [c13b0]) | skip)
         have H' := am H
         clear H
         go_wp2
         go_meet
         case rel => exact ⟨_, ((a0 == 160)), (by first | rfl | (simp; done) | (simp [*]; done)), H', ⟨by have := HJ1.out; have := HJ6.out; first | omega | exact Nat.le_refl _⟩, ⟨bB⟩⟩
       case rest =>
        clear HC12
        try clear c1
        try clear p2
        try clear c3
        try clear c3b0
        try clear c4
        try clear p6
        try clear c8
        try clear c8b0
        try clear c9
        try clear c13
        try clear c13b0
        try clear c13b1
        try clear p2
        try clear p6
        obtain ⟨kq, x26_11, rfl, HA, HJ11, HB⟩ := hcut
        cases kq with
        | zero => exact absurd HA.out (by simp [spec_l05Wide.j2])
        | succ kj11 =>
         have H := HA.out
         clear HA
         simp only [spec_l05Wide.j2] at H
         by_cases c14 : x26_11 = true
         ·subst c14
          have H1 : (some (([32] : List Int))) = some r := by rw [if_pos rfl] at H; exact H
          clear H
          have H := H1
          clear H1
          obtain ⟨y134, hy134⟩ : ∃ y_ : List Int, y_ = (([32] : List Int)) := ⟨_, rfl⟩
          replace H : (some y134) = some r := by first | (rw [hy134]; with_reducible exact H) | (have H2_ := (Option.bind_some _ _).symm.trans H; rw [hy134]; with_reducible exact H2_) | (have H2_ := (Option.bind_some _ _).symm.trans H; with_reducible exact H2_) | with_reducible exact H | (rw [hy134]; exact H) | exact H
          have Ny134 := am hy134
          clear hy134
          obtain rfl := Option.some.inj H
          go_wp2_with (first | ((with_reducible refine gate_dst (N := 33) rfl ?_); refine Kd.R_lit (Kd.int .i64) _ 2 ?hg (N := 33) ?hd (xs := ([32] : List Int)) (inner := [.int .i64 32]) (ok := fun _ => True) (okp := fun _ => True) ?hr ?hp (fun _ hk => hk) trivial (Below.refl _ _) (Nat.le_refl _) (by simp) ?_; (case hd => rfl); (case hg => rfl); (case hr => first | (go_simp; done) | (go_simp; rfl)); (case hp => exact (Reps.one (show Kd.M (Kd.int .i64) _ _ _ 32 [.int .i64 32] from rfl) (Reps.none _ _))); intro v135 w15 ho16 hb hg_ hnew_; clear hg_ hnew_; (first | rw [← Ny134.out] at ho16 | (simp only [Int.reduceToNat] at ho16; rw [← Ny134.out] at ho16)); have HO136 := am (Kd.R_lower ho16 (below_size bB)); replace HB := am (below_step bB hb); clear hb ho16))
          go_ret
          exact ⟨_, rv, kR HO136.out, bB⟩
         ·replace c14 := Bool.eq_false_iff.mpr c14
          subst c14
          have H1 : (if a0 ≥ 10032 then (if a0 ≤ 10035 then (if 0 ≤ (wrap64 (2 * (wrap64 (a0 - 10032)))) then (if (wrap64 (2 * (wrap64 (a0 - 10032)))) ≤ (wrap64 ((wrap64 (2 * (wrap64 (a0 - 10032)))) + 2)) then (if (wrap64 ((wrap64 (2 * (wrap64 (a0 - 10032)))) + 2)) ≤ 8 then (if 0 < (((⟨#[102, 102, 102, 105, 102, 108, 115, 116]⟩ : ByteArray).extract ((wrap64 (2 * (wrap64 (a0 - 10032)))) : Int).toNat ((wrap64 ((wrap64 (2 * (wrap64 (a0 - 10032)))) + 2)) : Int).toNat).size : Int) then (if 1 < (((⟨#[102, 102, 102, 105, 102, 108, 115, 116]⟩ : ByteArray).extract ((wrap64 (2 * (wrap64 (a0 - 10032)))) : Int).toNat ((wrap64 ((wrap64 (2 * (wrap64 (a0 - 10032)))) + 2)) : Int).toNat).size : Int) then (some (([wrap64 (bt ((⟨#[102, 102, 102, 105, 102, 108, 115, 116]⟩ : ByteArray).extract ((wrap64 (2 * (wrap64 (a0 - 10032)))) : Int).toNat ((wrap64 ((wrap64 (2 * (wrap64 (a0 - 10032)))) + 2)) : Int).toNat) 0), wrap64 (bt ((⟨#[102, 102, 102, 105, 102, 108, 115, 116]⟩ : ByteArray).extract ((wrap64 (2 * (wrap64 (a0 - 10032)))) : Int).toNat ((wrap64 ((wrap64 (2 * (wrap64 (a0 - 10032)))) + 2)) : Int).toNat) 1)] : List Int))) else (none)) else (none)) else (none)) else (none)) else (none)) else (some (([] : List Int)))) else (some (([] : List Int)))) = some r := by rw [if_neg (show ¬ (false = true) by decide)] at H; exact H
          clear H
          have H := H1
          clear H1
          by_cases c17 : a0 ≥ 10032
          ·rw [if_pos c17] at H
           have c17b0 : decide (10032 ≤ a0) = true := decide_eq_true c17
           clear c17
           by_cases c18 : a0 ≤ 10035
           ·rw [if_pos c18] at H
            have c18b0 : decide (a0 ≤ 10035) = true := decide_eq_true c18
            clear c18
            obtain ⟨ji19, hji19⟩ : ∃ j_ : Int, (wrap64 (2 * (wrap64 (a0 - 10032)))) = j_ := ⟨_, rfl⟩
            replace H : (if 0 ≤ (ji19) then (if (ji19) ≤ (wrap64 ((ji19) + 2)) then (if (wrap64 ((ji19) + 2)) ≤ 8 then (if 0 < (((⟨#[102, 102, 102, 105, 102, 108, 115, 116]⟩ : ByteArray).extract ((ji19) : Int).toNat ((wrap64 ((ji19) + 2)) : Int).toNat).size : Int) then (if 1 < (((⟨#[102, 102, 102, 105, 102, 108, 115, 116]⟩ : ByteArray).extract ((ji19) : Int).toNat ((wrap64 ((ji19) + 2)) : Int).toNat).size : Int) then (some (([wrap64 (bt ((⟨#[102, 102, 102, 105, 102, 108, 115, 116]⟩ : ByteArray).extract ((ji19) : Int).toNat ((wrap64 ((ji19) + 2)) : Int).toNat) 0), wrap64 (bt ((⟨#[102, 102, 102, 105, 102, 108, 115, 116]⟩ : ByteArray).extract ((ji19) : Int).toNat ((wrap64 ((ji19) + 2)) : Int).toNat) 1)] : List Int))) else (none)) else (none)) else (none)) else (none)) else (none)) = some r := by first | (rw [hji19] at H; exact H) | (simp only [hji19] at H ⊢; exact H)
            have hji19w : (IntKind.i64.wrap (2 * (wrap64 (a0 - 10032)))) = ji19 := (i64_w _).trans hji19
            by_cases c20 : 0 ≤ (ji19)
            ·rw [if_pos c20] at H
             have c20b0 := eq_true c20
             have c20b1 : decide (0 ≤ (ji19)) = true := decide_eq_true c20
             clear c20
             by_cases c21 : (ji19) ≤ (wrap64 ((ji19) + 2))
             ·rw [if_pos c21] at H
              have c21b0 := eq_true c21
              have c21b1 : decide ((ji19) ≤ (wrap64 ((ji19) + 2))) = true := decide_eq_true c21
              by_cases c22 : (wrap64 ((ji19) + 2)) ≤ 8
              ·rw [if_pos c22] at H
               have c22b0 := eq_true c22
               have c22b1 : decide ((wrap64 ((ji19) + 2)) ≤ 8) = true := decide_eq_true c22
               by_cases c23 : 0 < (((⟨#[102, 102, 102, 105, 102, 108, 115, 116]⟩ : ByteArray).extract ((ji19) : Int).toNat ((wrap64 ((ji19) + 2)) : Int).toNat).size : Int)
               ·rw [if_pos c23] at H
                have c23b0 : decide (0 < (((⟨#[102, 102, 102, 105, 102, 108, 115, 116]⟩ : ByteArray).extract ((ji19) : Int).toNat ((wrap64 ((ji19) + 2)) : Int).toNat).size : Int)) = true := decide_eq_true c23
                have c23b1 : decide (0 < ((⟨#[102, 102, 102, 105, 102, 108, 115, 116]⟩ : ByteArray).extract ((ji19) : Int).toNat ((wrap64 ((ji19) + 2)) : Int).toNat).size) = true := decide_eq_true (by omega)
                clear c23
                by_cases c25 : 1 < (((⟨#[102, 102, 102, 105, 102, 108, 115, 116]⟩ : ByteArray).extract ((ji19) : Int).toNat ((wrap64 ((ji19) + 2)) : Int).toNat).size : Int)
                ·rw [if_pos c25] at H
                 have c25b0 : decide (1 < (((⟨#[102, 102, 102, 105, 102, 108, 115, 116]⟩ : ByteArray).extract ((ji19) : Int).toNat ((wrap64 ((ji19) + 2)) : Int).toNat).size : Int)) = true := decide_eq_true c25
                 have c25b1 : decide (1 < ((⟨#[102, 102, 102, 105, 102, 108, 115, 116]⟩ : ByteArray).extract ((ji19) : Int).toNat ((wrap64 ((ji19) + 2)) : Int).toNat).size) = true := decide_eq_true (by omega)
                 clear c25
                 obtain ⟨y137, hy137⟩ : ∃ y_ : List Int, y_ = (([wrap64 (bt ((⟨#[102, 102, 102, 105, 102, 108, 115, 116]⟩ : ByteArray).extract ((ji19) : Int).toNat ((wrap64 ((ji19) + 2)) : Int).toNat) 0), wrap64 (bt ((⟨#[102, 102, 102, 105, 102, 108, 115, 116]⟩ : ByteArray).extract ((ji19) : Int).toNat ((wrap64 ((ji19) + 2)) : Int).toNat) 1)] : List Int)) := ⟨_, rfl⟩
                 replace H : (some y137) = some r := by first | (rw [hy137]; with_reducible exact H) | (have H2_ := (Option.bind_some _ _).symm.trans H; rw [hy137]; with_reducible exact H2_) | (have H2_ := (Option.bind_some _ _).symm.trans H; with_reducible exact H2_) | with_reducible exact H | (rw [hy137]; exact H) | exact H
                 have Ny137 := am hy137
                 clear hy137
                 obtain rfl := Option.some.inj H
                 try go_wp2
                 replace HB := am (below_drew1 HB.out)
                 have p24 : 0 ≤ (0 : Int) := (by omega)
                 have q24 : 0 < ((⟨#[102, 102, 102, 105, 102, 108, 115, 116]⟩ : ByteArray).extract ((ji19) : Int).toNat ((wrap64 ((ji19) + 2)) : Int).toNat).size := (by have : (0 : Int) < (((⟨#[102, 102, 102, 105, 102, 108, 115, 116]⟩ : ByteArray).extract ((ji19) : Int).toNat ((wrap64 ((ji19) + 2)) : Int).toNat).size : Int) := od; omega)
                 have hx24 : ∀ h : 0 < ((⟨#[102, 102, 102, 105, 102, 108, 115, 116]⟩ : ByteArray).extract ((ji19) : Int).toNat ((wrap64 ((ji19) + 2)) : Int).toNat).size, ((((⟨#[102, 102, 102, 105, 102, 108, 115, 116]⟩ : ByteArray).extract ((ji19) : Int).toNat ((wrap64 ((ji19) + 2)) : Int).toNat)[0]'h).toNat : Int) = bt ((⟨#[102, 102, 102, 105, 102, 108, 115, 116]⟩ : ByteArray).extract ((ji19) : Int).toNat ((wrap64 ((ji19) + 2)) : Int).toNat) 0 := bt_at ((⟨#[102, 102, 102, 105, 102, 108, 115, 116]⟩ : ByteArray).extract ((ji19) : Int).toNat ((wrap64 ((ji19) + 2)) : Int).toNat) 0
                 clear p24
                 have qi24 : (0 < (((⟨#[102, 102, 102, 105, 102, 108, 115, 116]⟩ : ByteArray).extract ((ji19) : Int).toNat ((wrap64 ((ji19) + 2)) : Int).toNat).size : Int)) = True := eq_true (od)
                 replace q24 := eq_true q24
                 have qnq24_ : (0 < ((wrap64 ((ji19) + 2)) : Int).toNat - ((ji19) : Int).toNat) = True := eq_true (by have h_ := of_eq_true q24; rw [ByteArray.size_extract] at h_; omega)
                 have qmq24_ : ((0 : Int) < ((((wrap64 ((ji19) + 2)) : Int).toNat - ((ji19) : Int).toNat : Nat) : Int)) = True := eq_true (by have h_ := of_eq_true qnq24_; omega)
                 have p26 : 0 ≤ (1 : Int) := (by omega)
                 have q26 : 1 < ((⟨#[102, 102, 102, 105, 102, 108, 115, 116]⟩ : ByteArray).extract ((ji19) : Int).toNat ((wrap64 ((ji19) + 2)) : Int).toNat).size := (by have : (1 : Int) < (((⟨#[102, 102, 102, 105, 102, 108, 115, 116]⟩ : ByteArray).extract ((ji19) : Int).toNat ((wrap64 ((ji19) + 2)) : Int).toNat).size : Int) := od; omega)
                 have hx26 : ∀ h : 1 < ((⟨#[102, 102, 102, 105, 102, 108, 115, 116]⟩ : ByteArray).extract ((ji19) : Int).toNat ((wrap64 ((ji19) + 2)) : Int).toNat).size, ((((⟨#[102, 102, 102, 105, 102, 108, 115, 116]⟩ : ByteArray).extract ((ji19) : Int).toNat ((wrap64 ((ji19) + 2)) : Int).toNat)[1]'h).toNat : Int) = bt ((⟨#[102, 102, 102, 105, 102, 108, 115, 116]⟩ : ByteArray).extract ((ji19) : Int).toNat ((wrap64 ((ji19) + 2)) : Int).toNat) 1 := bt_at ((⟨#[102, 102, 102, 105, 102, 108, 115, 116]⟩ : ByteArray).extract ((ji19) : Int).toNat ((wrap64 ((ji19) + 2)) : Int).toNat) 1
                 clear p26
                 have qi26 : (1 < (((⟨#[102, 102, 102, 105, 102, 108, 115, 116]⟩ : ByteArray).extract ((ji19) : Int).toNat ((wrap64 ((ji19) + 2)) : Int).toNat).size : Int)) = True := eq_true (od)
                 replace q26 := eq_true q26
                 have qnq26_ : (1 < ((wrap64 ((ji19) + 2)) : Int).toNat - ((ji19) : Int).toNat) = True := eq_true (by have h_ := of_eq_true q26; rw [ByteArray.size_extract] at h_; omega)
                 have qmq26_ : ((1 : Int) < ((((wrap64 ((ji19) + 2)) : Int).toNat - ((ji19) : Int).toNat : Nat) : Int)) = True := eq_true (by have h_ := of_eq_true qnq26_; omega)
                 refine start_ (n := 8) (S := fun w' => True) (ds := []) #[false, false, false, false, false, false, false, false] (by kernel_rfl) rfl rfl trivial (fun hHeld => ?_); refine with_tabW spec_l05Wide.tab9 spec_l05Wide.bits9 (fun HT_ HW_ => ?_)
                 generalize wc.drew = w27 at HB hHeld ⊢
                 refine pq 0 49 HT_.out ?_
                 refine pq 3 52 HT_.out ?_
                 refine take_ (i := 1) (N := some 50) (v := ?_) (a' := ?_) #[true, true, false, true, false, false, false, false] rfl rfl (take_ofW HT_.out HW_.out (by kernel_rfl)) (fun _ _ _ h => h) (Or.inl ⟨by rfl, ?_⟩) hHeld ?_ ?_
                 rotate_left
                 ·intro w' _
                  go_simp
                  with_reducible rfl
                 rotate_left
                 ·simp only [Act.put, List.setIfInBounds_toArray, List.set_cons_zero, List.set_cons_succ, i64_w, i32_w]
                  rfl
                 refine pq 2 51 HT_.out ?_
                 refine take_ (i := 4) (N := some 53) (v := ?_) (a' := ?_) #[true, true, true, true, true, false, false, false] rfl rfl (take_ofW HT_.out HW_.out (by kernel_rfl)) (fun _ _ _ h => h) (Or.inl ⟨by rfl, ?_⟩) hHeld ?_ ?_
                 rotate_left
                 ·intro w' _
                  go_simp
                  with_reducible rfl
                 rotate_left
                 ·simp only [Act.put, List.setIfInBounds_toArray, List.set_cons_zero, List.set_cons_succ, i64_w, i32_w]
                  rfl
                 refine pq 5 54 HT_.out ?_
                 refine one_ (i := 6) (N := some 55) #[true, true, true, true, true, true, true, false] rfl rfl (one_of HT_.out (by kernel_rfl)) (by decide) (fun K hK => ?_)
                 refine Kd.R_lit_step (Kd.int .i64) _ 2 ?hg (N := 55) ?hd (xs := ([wrap64 (bt ((⟨#[102, 102, 102, 105, 102, 108, 115, 116]⟩ : ByteArray).extract ((ji19) : Int).toNat ((wrap64 ((ji19) + 2)) : Int).toNat) 0), wrap64 (bt ((⟨#[102, 102, 102, 105, 102, 108, 115, 116]⟩ : ByteArray).extract ((ji19) : Int).toNat ((wrap64 ((ji19) + 2)) : Int).toNat) 1)] : List Int)) (inner := [.int .i64 (wrap64 (bt ((⟨#[102, 102, 102, 105, 102, 108, 115, 116]⟩ : ByteArray).extract ((ji19) : Int).toNat ((wrap64 ((ji19) + 2)) : Int).toNat) 0)), .int .i64 (wrap64 (bt ((⟨#[102, 102, 102, 105, 102, 108, 115, 116]⟩ : ByteArray).extract ((ji19) : Int).toNat ((wrap64 ((ji19) + 2)) : Int).toNat) 1))]) (ok := fun _ => True) (okp := fun _ => True) ?hr ?hp (fun _ hk => hk) trivial (Below.refl _ _) (Nat.le_refl _) (by simp) ?_; (case hd => rfl); (case hg => rfl); (case hr => first | (go_simp; done) | (go_simp; rfl)); (case hp => exact (Reps.one (show Kd.M (Kd.int .i64) _ _ _ (wrap64 (bt ((⟨#[102, 102, 102, 105, 102, 108, 115, 116]⟩ : ByteArray).extract ((ji19) : Int).toNat ((wrap64 ((ji19) + 2)) : Int).toNat) 0)) [.int .i64 (wrap64 (bt ((⟨#[102, 102, 102, 105, 102, 108, 115, 116]⟩ : ByteArray).extract ((ji19) : Int).toNat ((wrap64 ((ji19) + 2)) : Int).toNat) 0))] from rfl) (Reps.one (show Kd.M (Kd.int .i64) _ _ _ (wrap64 (bt ((⟨#[102, 102, 102, 105, 102, 108, 115, 116]⟩ : ByteArray).extract ((ji19) : Int).toNat ((wrap64 ((ji19) + 2)) : Int).toNat) 1)) [.int .i64 (wrap64 (bt ((⟨#[102, 102, 102, 105, 102, 108, 115, 116]⟩ : ByteArray).extract ((ji19) : Int).toNat ((wrap64 ((ji19) + 2)) : Int).toNat) 1))] from rfl) (Reps.none _ _))))
                 intro v138 w28 ho29 hb hg_ hnew_
                 clear hg_ hnew_
                 (first | rw [← Ny137.out] at ho29 | (simp only [Int.reduceToNat] at ho29; rw [← Ny137.out] at ho29))
                 have HO139 := am (Kd.R_lower ho29 (below_size bB))
                 replace HB := am (below_step bB hb)
                 clear hb ho29
                 refine hK.out _ _ trivial (fun hHeld => ?_)
                 clear hK K
                 refine norm_ (a' := ?_) ?_ ?_
                 rotate_left
                 ·show Act.put _ (some 55) _ = _
                  simp only [Act.put, List.setIfInBounds_toArray, List.set_cons_zero, List.set_cons_succ, i64_w, i32_w]
                  rfl
                 refine pq 7 2 HT_.out ?_
                 refine done_ (done_of HT_.out (by kernel_rfl)) ?_
                 try go_wp2
                 go_ret
                 exact ⟨_, by first | rfl | (simp [errW_none, errW_some] <;> rfl) | (simp only [← hji19]; first | rfl | (simp [errW_none, errW_some] <;> rfl)) | (simp [*, errW_none, errW_some] <;> rfl), kR HO139.out, bB⟩
                ·rw [if_neg c25] at H
                 exact absurd H (by simp)
               ·rw [if_neg c23] at H
                exact absurd H (by simp)
              ·rw [if_neg c22] at H
               exact absurd H (by simp)
             ·rw [if_neg c21] at H
              exact absurd H (by simp)
            ·rw [if_neg c20] at H
             exact absurd H (by simp)
           ·rw [if_neg c18] at H
            have c18b0 : decide (a0 ≤ 10035) = false := decide_eq_false c18
            clear c18
            obtain ⟨y140, hy140⟩ : ∃ y_ : List Int, y_ = (([] : List Int)) := ⟨_, rfl⟩
            replace H : (some y140) = some r := by first | (rw [hy140]; with_reducible exact H) | (have H2_ := (Option.bind_some _ _).symm.trans H; rw [hy140]; with_reducible exact H2_) | (have H2_ := (Option.bind_some _ _).symm.trans H; with_reducible exact H2_) | with_reducible exact H | (rw [hy140]; exact H) | exact H
            have Ny140 := am hy140
            clear hy140
            obtain rfl := Option.some.inj H
            go_wp2_with (first | ((with_reducible refine gate_dst (N := 56) rfl ?_); refine Kd.R_lit (Kd.int .i64) _ 2 ?hg (N := 56) ?hd (xs := ([] : List Int)) (inner := []) (ok := fun _ => True) (okp := fun _ => True) ?hr ?hp (fun _ hk => hk) trivial (Below.refl _ _) (Nat.le_refl _) (by simp) ?_; (case hd => rfl); (case hg => rfl); (case hr => first | (go_simp; done) | (go_simp; rfl)); (case hp => exact (Reps.none _ _)); intro v141 w30 ho31 hb hg_ hnew_; clear hg_ hnew_; (first | rw [← Ny140.out] at ho31 | (simp only [Int.reduceToNat] at ho31; rw [← Ny140.out] at ho31)); have HO142 := am (Kd.R_lower ho31 (below_size bB)); replace HB := am (below_step bB hb); clear hb ho31))
            go_ret
            exact ⟨_, rv, kR HO142.out, bB⟩
          ·rw [if_neg c17] at H
           have c17b0 : decide (10032 ≤ a0) = false := decide_eq_false c17
           clear c17
           obtain ⟨y143, hy143⟩ : ∃ y_ : List Int, y_ = (([] : List Int)) := ⟨_, rfl⟩
           replace H : (some y143) = some r := by first | (rw [hy143]; with_reducible exact H) | (have H2_ := (Option.bind_some _ _).symm.trans H; rw [hy143]; with_reducible exact H2_) | (have H2_ := (Option.bind_some _ _).symm.trans H; with_reducible exact H2_) | with_reducible exact H | (rw [hy143]; exact H) | exact H
           have Ny143 := am hy143
           clear hy143
           obtain rfl := Option.some.inj H
           go_wp2_with (first | ((with_reducible refine gate_dst (N := 56) rfl ?_); refine Kd.R_lit (Kd.int .i64) _ 2 ?hg (N := 56) ?hd (xs := ([] : List Int)) (inner := []) (ok := fun _ => True) (okp := fun _ => True) ?hr ?hp (fun _ hk => hk) trivial (Below.refl _ _) (Nat.le_refl _) (by simp) ?_; (case hd => rfl); (case hg => rfl); (case hr => first | (go_simp; done) | (go_simp; rfl)); (case hp => exact (Reps.none _ _)); intro v144 w32 ho33 hb hg_ hnew_; clear hg_ hnew_; (first | rw [← Ny143.out] at ho33 | (simp only [Int.reduceToNat] at ho33; rw [← Ny143.out] at ho33)); have HO145 := am (Kd.R_lower ho33 (below_size bB)); replace HB := am (below_step bB hb); clear hb ho33))
           go_ret
           exact ⟨_, rv, kR HO145.out, bB⟩
mutual
def spec_l05Parts.j0 : Nat → Int → Bool → Int → Bool → Option (List Int)
 | 0, _, _, _, _ => none
 | k + 1, x0, x1, x5, x9 => if x9 = true then (if (wrap64 (Int.tdiv x0 512)) = 16 then ((spec_l05Letter.f (wrap64 (Int.tdiv x5 8))).bind fun t146 => (some (([t146, wrap64 (4096 + (Int.tmod x5 8))] : List Int)))) else (if (wrap64 (Int.tdiv x0 512)) = 17 then ((spec_l05Letter.f (wrap64 (Int.tdiv x5 8))).bind fun t150 => (some (([t150, wrap64 (4112 + (Int.tmod x5 8))] : List Int)))) else (some (([wrap64 (8704 + x5), 4096] : List Int))))) else (if x0 ≥ 9728 then (spec_l05Parts.j1 k x0 x1 (decide (x0 ≤ 9753))) else (spec_l05Parts.j1 k x0 x1 false))
def spec_l05Parts.j1 : Nat → Int → Bool → Bool → Option (List Int)
 | 0, _, _, _ => none
 | k + 1, x0, x1, x43 => if x43 = true then (some (([wrap64 ((wrap64 (x0 - 9728)) + 65)] : List Int))) else (if x0 ≥ 12288 then (spec_l05Parts.j2 k x0 x1 (decide (x0 ≤ 23459))) else (spec_l05Parts.j2 k x0 x1 false))
def spec_l05Parts.j2 : Nat → Int → Bool → Bool → Option (List Int)
 | 0, _, _, _ => none
 | k + 1, x0, x1, x54 => if x54 = true then (if (Int.tmod (wrap64 (x0 - 12288)) 28) > 0 then (some (([wrap64 (x0 - (Int.tmod (wrap64 (x0 - 12288)) 28)), wrap64 (1856 + (Int.tmod (wrap64 (x0 - 12288)) 28))] : List Int))) else (some (([wrap64 (1792 + (wrap64 (Int.tdiv (wrap64 (x0 - 12288)) 588))), wrap64 (1824 + (Int.tmod (wrap64 (Int.tdiv (wrap64 (x0 - 12288)) 28)) 21))] : List Int)))) else (if x1 = true then ((spec_l05Wide.f k x0).bind fun t166 => (some t166)) else (some (([] : List Int))))
end
def spec_l05Parts.f (k : Nat) (a0 : Int) (a1 : Bool) : Option (List Int) := if a0 ≥ 8192 then (if a0 < 9728 then (spec_l05Parts.j0 k a0 a1 (Int.tmod a0 512) (decide ((Int.tmod a0 512) < 416))) else (spec_l05Parts.j0 k a0 a1 (Int.tmod a0 512) false)) else (spec_l05Parts.j0 k a0 a1 (Int.tmod a0 512) false)
set_option maxHeartbeats 8000000 in
set_option maxRecDepth 100000 in
theorem spec_l05Parts.calls (k : Nat) (a0 : Int) (a1 : Bool) (r : List Int) (w : World) (h : spec_l05Parts.f k a0 a1 = some r) :
  Calls Tryd.prog 87 #[.int .i64 a0, .bool a1] w fun e w' => ∃ v0_ : Value, e = .returned (v0_) ∧ Kd.R (Kd.int .i64) 2 w' w.heap.size (fun _ => True) v0_ r ∧ Below w.heap.size w w' := by
 have HB := am (Below.refl w.heap.size w)
 have H : (if a0 ≥ 8192 then (if a0 < 9728 then (spec_l05Parts.j0 k a0 a1 (Int.tmod a0 512) (decide ((Int.tmod a0 512) < 416))) else (spec_l05Parts.j0 k a0 a1 (Int.tmod a0 512) false)) else (spec_l05Parts.j0 k a0 a1 (Int.tmod a0 512) false)) = some r := h
 clear h
 have HC3 := am H
 clear H
 go_enter Tryd.func87, Tryd.ntmps87
 go_upto_region 2 with (fail)
 go_cut [9] (fun v9 wc => ∃ (kq : Nat) (x9_2 : Bool), v9 = .bool x9_2 ∧ Aside0 (spec_l05Parts.j0 kq a0 a1 (Int.tmod a0 512) x9_2 = some r) ∧ Aside0 (kq ≤ k) ∧ Aside0 (Below w.heap.size w wc))
 case first =>
  have H := HC3.out
  clear HC3
  by_cases c4 : a0 ≥ 8192
  ·rw [if_pos c4] at H
   have c4b0 : decide (8192 ≤ a0) = true := decide_eq_true c4
   clear c4
   (first | rw [c4b0] | (simp only [i64_w, i32_w]; rw [c4b0]) | skip)
   by_cases c5 : a0 < 9728
   ·rw [if_pos c5] at H
    have c5b0 : decide (a0 < 9728) = true := decide_eq_true c5
    clear c5
    have H' := am H
    clear H
    go_wp2
    go_meet
    case rel => exact ⟨_, (decide ((Int.tmod a0 512) < 416)), (by first | rfl | (simp; done) | (simp [*]; done)), H', ⟨by first | omega | exact Nat.le_refl _⟩, ⟨bB⟩⟩
   ·rw [if_neg c5] at H
    have c5b0 : decide (a0 < 9728) = false := decide_eq_false c5
    clear c5
    have H' := am H
    clear H
    go_wp2
    go_meet
    case rel => exact ⟨_, (false), (by first | rfl | (simp; done) | (simp [*]; done)), H', ⟨by first | omega | exact Nat.le_refl _⟩, ⟨bB⟩⟩
  ·rw [if_neg c4] at H
   have c4b0 : decide (8192 ≤ a0) = false := decide_eq_false c4
   clear c4
   (first | rw [c4b0] | (simp only [i64_w, i32_w]; rw [c4b0]) | skip)
   have H' := am H
   clear H
   go_wp2
   go_meet
   case rel => exact ⟨_, (false), (by first | rfl | (simp; done) | (simp [*]; done)), H', ⟨by first | omega | exact Nat.le_refl _⟩, ⟨bB⟩⟩
 case rest =>
  clear HC3
  try clear p2
  try clear c4
  try clear c4b0
  try clear c5
  try clear c5b0
  obtain ⟨kq, x9_2, rfl, HA, HJ2, HB⟩ := hcut
  cases kq with
  | zero => exact absurd HA.out (by simp [spec_l05Parts.j0])
  | succ kj2 =>
   have H := HA.out
   clear HA
   simp only [spec_l05Parts.j0] at H
   by_cases c6 : x9_2 = true
   ·subst c6
    have H1 : (if (wrap64 (Int.tdiv a0 512)) = 16 then ((spec_l05Letter.f (wrap64 (Int.tdiv (Int.tmod a0 512) 8))).bind fun t146 => (some (([t146, wrap64 (4096 + (Int.tmod (Int.tmod a0 512) 8))] : List Int)))) else (if (wrap64 (Int.tdiv a0 512)) = 17 then ((spec_l05Letter.f (wrap64 (Int.tdiv (Int.tmod a0 512) 8))).bind fun t150 => (some (([t150, wrap64 (4112 + (Int.tmod (Int.tmod a0 512) 8))] : List Int)))) else (some (([wrap64 (8704 + (Int.tmod a0 512)), 4096] : List Int))))) = some r := by rw [if_pos rfl] at H; exact H
    clear H
    have H := H1
    clear H1
    by_cases c7 : (wrap64 (Int.tdiv a0 512)) = 16
    ·rw [if_pos c7] at H
     have c7b0 : ((wrap64 (Int.tdiv a0 512)) == 16) = true := beq_iff_eq.mpr c7
     have c7b1 : ((wrap64 (Int.tdiv a0 512)) != 16) = false := bne_eq_false_iff_eq.mpr c7
     clear c7
     replace H := Option.bind_eq_some_iff.mp H
     obtain ⟨t146, A80, H⟩ := H
     replace H : (some (([t146, wrap64 (4096 + (Int.tmod (Int.tmod a0 512) 8))] : List Int))) = some r := H
     have A8 := am A80
     clear A80
     obtain ⟨y147, hy147⟩ : ∃ y_ : List Int, y_ = (([t146, wrap64 (4096 + (Int.tmod (Int.tmod a0 512) 8))] : List Int)) := ⟨_, rfl⟩
     replace H : (some y147) = some r := by first | (rw [hy147]; with_reducible exact H) | (have H2_ := (Option.bind_some _ _).symm.trans H; rw [hy147]; with_reducible exact H2_) | (have H2_ := (Option.bind_some _ _).symm.trans H; with_reducible exact H2_) | with_reducible exact H | (rw [hy147]; exact H) | exact H
     have Ny147 := am hy147
     clear hy147
     obtain rfl := Option.some.inj H
     go_wp2_with (first | ((with_reducible refine gate_callee (f := 97) rfl ?_); refine gl 26 Tryd.func97 #[.int .i64 (wrap64 (Int.tdiv (Int.tmod a0 512) 8))] ?_; (with_reducible refine (spec_l05Letter.calls (wrap64 (Int.tdiv (Int.tmod a0 512) 8)) t146 _ A8.out).mono ?_); rintro e w' ⟨rfl, ⟨nd, rfl⟩⟩; refine ⟨_, rfl, ?_⟩) | ((with_reducible refine gate_dst (N := 30) rfl ?_); refine Kd.R_lit (Kd.int .i64) _ 2 ?hg (N := 30) ?hd (xs := ([t146, wrap64 (4096 + (Int.tmod (Int.tmod a0 512) 8))] : List Int)) (inner := [.int .i64 t146, .int .i64 (wrap64 (4096 + (Int.tmod (Int.tmod a0 512) 8)))]) (ok := fun _ => True) (okp := fun _ => True) ?hr ?hp (fun _ hk => hk) trivial (Below.refl _ _) (Nat.le_refl _) (by simp) ?_; (case hd => rfl); (case hg => rfl); (case hr => first | (go_simp; done) | (go_simp; rfl)); (case hp => exact (Reps.one (show Kd.M (Kd.int .i64) _ _ _ t146 [.int .i64 t146] from rfl) (Reps.one (show Kd.M (Kd.int .i64) _ _ _ (wrap64 (4096 + (Int.tmod (Int.tmod a0 512) 8))) [.int .i64 (wrap64 (4096 + (Int.tmod (Int.tmod a0 512) 8)))] from rfl) (Reps.none _ _)))); intro v148 w9 ho10 hb hg_ hnew_; clear hg_ hnew_; (first | rw [← Ny147.out] at ho10 | (simp only [Int.reduceToNat] at ho10; rw [← Ny147.out] at ho10)); have HO149 := am (Kd.R_lower ho10 (below_size bB)); replace HB := am (below_step bB hb); clear hb ho10))
     go_ret
     exact ⟨_, rv, kR HO149.out, bB⟩
    ·rw [if_neg c7] at H
     have c7b0 : ((wrap64 (Int.tdiv a0 512)) == 16) = false := beq_eq_false_iff_ne.mpr c7
     have c7b1 : ((wrap64 (Int.tdiv a0 512)) != 16) = true := bne_iff_ne.mpr c7
     by_cases c11 : (wrap64 (Int.tdiv a0 512)) = 17
     ·rw [if_pos c11] at H
      have c11b0 : ((wrap64 (Int.tdiv a0 512)) == 17) = true := beq_iff_eq.mpr c11
      have c11b1 : ((wrap64 (Int.tdiv a0 512)) != 17) = false := bne_eq_false_iff_eq.mpr c11
      clear c11
      replace H := Option.bind_eq_some_iff.mp H
      obtain ⟨t150, A120, H⟩ := H
      replace H : (some (([t150, wrap64 (4112 + (Int.tmod (Int.tmod a0 512) 8))] : List Int))) = some r := H
      have A12 := am A120
      clear A120
      obtain ⟨y151, hy151⟩ : ∃ y_ : List Int, y_ = (([t150, wrap64 (4112 + (Int.tmod (Int.tmod a0 512) 8))] : List Int)) := ⟨_, rfl⟩
      replace H : (some y151) = some r := by first | (rw [hy151]; with_reducible exact H) | (have H2_ := (Option.bind_some _ _).symm.trans H; rw [hy151]; with_reducible exact H2_) | (have H2_ := (Option.bind_some _ _).symm.trans H; with_reducible exact H2_) | with_reducible exact H | (rw [hy151]; exact H) | exact H
      have Ny151 := am hy151
      clear hy151
      obtain rfl := Option.some.inj H
      go_wp2_with (first | ((with_reducible refine gate_callee (f := 97) rfl ?_); refine gl 35 Tryd.func97 #[.int .i64 (wrap64 (Int.tdiv (Int.tmod a0 512) 8))] ?_; (with_reducible refine (spec_l05Letter.calls (wrap64 (Int.tdiv (Int.tmod a0 512) 8)) t150 _ A12.out).mono ?_); rintro e w' ⟨rfl, ⟨nd, rfl⟩⟩; refine ⟨_, rfl, ?_⟩) | ((with_reducible refine gate_dst (N := 39) rfl ?_); refine Kd.R_lit (Kd.int .i64) _ 2 ?hg (N := 39) ?hd (xs := ([t150, wrap64 (4112 + (Int.tmod (Int.tmod a0 512) 8))] : List Int)) (inner := [.int .i64 t150, .int .i64 (wrap64 (4112 + (Int.tmod (Int.tmod a0 512) 8)))]) (ok := fun _ => True) (okp := fun _ => True) ?hr ?hp (fun _ hk => hk) trivial (Below.refl _ _) (Nat.le_refl _) (by simp) ?_; (case hd => rfl); (case hg => rfl); (case hr => first | (go_simp; done) | (go_simp; rfl)); (case hp => exact (Reps.one (show Kd.M (Kd.int .i64) _ _ _ t150 [.int .i64 t150] from rfl) (Reps.one (show Kd.M (Kd.int .i64) _ _ _ (wrap64 (4112 + (Int.tmod (Int.tmod a0 512) 8))) [.int .i64 (wrap64 (4112 + (Int.tmod (Int.tmod a0 512) 8)))] from rfl) (Reps.none _ _)))); intro v152 w13 ho14 hb hg_ hnew_; clear hg_ hnew_; (first | rw [← Ny151.out] at ho14 | (simp only [Int.reduceToNat] at ho14; rw [← Ny151.out] at ho14)); have HO153 := am (Kd.R_lower ho14 (below_size bB)); replace HB := am (below_step bB hb); clear hb ho14))
      go_ret
      exact ⟨_, rv, kR HO153.out, bB⟩
     ·rw [if_neg c11] at H
      have c11b0 : ((wrap64 (Int.tdiv a0 512)) == 17) = false := beq_eq_false_iff_ne.mpr c11
      have c11b1 : ((wrap64 (Int.tdiv a0 512)) != 17) = true := bne_iff_ne.mpr c11
      obtain ⟨y154, hy154⟩ : ∃ y_ : List Int, y_ = (([wrap64 (8704 + (Int.tmod a0 512)), 4096] : List Int)) := ⟨_, rfl⟩
      replace H : (some y154) = some r := by first | (rw [hy154]; with_reducible exact H) | (have H2_ := (Option.bind_some _ _).symm.trans H; rw [hy154]; with_reducible exact H2_) | (have H2_ := (Option.bind_some _ _).symm.trans H; with_reducible exact H2_) | with_reducible exact H | (rw [hy154]; exact H) | exact H
      have Ny154 := am hy154
      clear hy154
      obtain rfl := Option.some.inj H
      go_wp2_with (first | ((with_reducible refine gate_dst (N := 42) rfl ?_); refine Kd.R_lit (Kd.int .i64) _ 2 ?hg (N := 42) ?hd (xs := ([wrap64 (8704 + (Int.tmod a0 512)), 4096] : List Int)) (inner := [.int .i64 (wrap64 (8704 + (Int.tmod a0 512))), .int .i64 4096]) (ok := fun _ => True) (okp := fun _ => True) ?hr ?hp (fun _ hk => hk) trivial (Below.refl _ _) (Nat.le_refl _) (by simp) ?_; (case hd => rfl); (case hg => rfl); (case hr => first | (go_simp; done) | (go_simp; rfl)); (case hp => exact (Reps.one (show Kd.M (Kd.int .i64) _ _ _ (wrap64 (8704 + (Int.tmod a0 512))) [.int .i64 (wrap64 (8704 + (Int.tmod a0 512)))] from rfl) (Reps.one (show Kd.M (Kd.int .i64) _ _ _ 4096 [.int .i64 4096] from rfl) (Reps.none _ _)))); intro v155 w15 ho16 hb hg_ hnew_; clear hg_ hnew_; (first | rw [← Ny154.out] at ho16 | (simp only [Int.reduceToNat] at ho16; rw [← Ny154.out] at ho16)); have HO156 := am (Kd.R_lower ho16 (below_size bB)); replace HB := am (below_step bB hb); clear hb ho16))
      go_ret
      exact ⟨_, rv, kR HO156.out, bB⟩
   ·replace c6 := Bool.eq_false_iff.mpr c6
    subst c6
    have H1 : (if a0 ≥ 9728 then (spec_l05Parts.j1 kj2 a0 a1 (decide (a0 ≤ 9753))) else (spec_l05Parts.j1 kj2 a0 a1 false)) = some r := by rw [if_neg (show ¬ (false = true) by decide)] at H; exact H
    clear H
    have H := H1
    clear H1
    have HC17 := am H
    clear H
    go_upto_region 9 with (fail)
    go_cut [43] (fun v43 wc => ∃ (kq : Nat) (x43_16 : Bool), v43 = .bool x43_16 ∧ Aside0 (spec_l05Parts.j1 kq a0 a1 x43_16 = some r) ∧ Aside0 (kq ≤ kj2) ∧ Aside0 (Below w.heap.size w wc))
    case first =>
     have H := HC17.out
     clear HC17
     by_cases c18 : a0 ≥ 9728
     ·rw [if_pos c18] at H
      have c18b0 : decide (9728 ≤ a0) = true := decide_eq_true c18
      clear c18
      (first | rw [c18b0] | (simp only [i64_w, i32_w]; rw [c18b0]) | skip)
      have H' := am H
      clear H
      go_wp2
      go_meet
      case rel => exact ⟨_, (decide (a0 ≤ 9753)), (by first | rfl | (simp; done) | (simp [*]; done)), H', ⟨by have := HJ2.out; first | omega | exact Nat.le_refl _⟩, ⟨bB⟩⟩
     ·rw [if_neg c18] at H
      have c18b0 : decide (9728 ≤ a0) = false := decide_eq_false c18
      clear c18
      (first | rw [c18b0] | (simp only [i64_w, i32_w]; rw [c18b0]) | skip)
      have H' := am H
      clear H
      go_wp2
      go_meet
      case rel => exact ⟨_, (false), (by first | rfl | (simp; done) | (simp [*]; done)), H', ⟨by have := HJ2.out; first | omega | exact Nat.le_refl _⟩, ⟨bB⟩⟩
    case rest =>
     clear HC17
     try clear c1
     try clear p2
     try clear c4
     try clear c4b0
     try clear c5
     try clear c5b0
     try clear c6
     try clear p6
     try clear c7
     try clear c7b0
     try clear c7b1
     try clear c8
     try clear c9
     try clear c11
     try clear c11b0
     try clear c11b1
     try clear c18
     try clear c18b0
     try clear p2
     obtain ⟨kq, x43_16, rfl, HA, HJ16, HB⟩ := hcut
     cases kq with
     | zero => exact absurd HA.out (by simp [spec_l05Parts.j1])
     | succ kj16 =>
      have H := HA.out
      clear HA
      simp only [spec_l05Parts.j1] at H
      by_cases c19 : x43_16 = true
      ·subst c19
       have H1 : (some (([wrap64 ((wrap64 (a0 - 9728)) + 65)] : List Int))) = some r := by rw [if_pos rfl] at H; exact H
       clear H
       have H := H1
       clear H1
       obtain ⟨y157, hy157⟩ : ∃ y_ : List Int, y_ = (([wrap64 ((wrap64 (a0 - 9728)) + 65)] : List Int)) := ⟨_, rfl⟩
       replace H : (some y157) = some r := by first | (rw [hy157]; with_reducible exact H) | (have H2_ := (Option.bind_some _ _).symm.trans H; rw [hy157]; with_reducible exact H2_) | (have H2_ := (Option.bind_some _ _).symm.trans H; with_reducible exact H2_) | with_reducible exact H | (rw [hy157]; exact H) | exact H
       have Ny157 := am hy157
       clear hy157
       obtain rfl := Option.some.inj H
       go_wp2_with (first | ((with_reducible refine gate_dst (N := 53) rfl ?_); refine Kd.R_lit (Kd.int .i64) _ 2 ?hg (N := 53) ?hd (xs := ([wrap64 ((wrap64 (a0 - 9728)) + 65)] : List Int)) (inner := [.int .i64 (wrap64 ((wrap64 (a0 - 9728)) + 65))]) (ok := fun _ => True) (okp := fun _ => True) ?hr ?hp (fun _ hk => hk) trivial (Below.refl _ _) (Nat.le_refl _) (by simp) ?_; (case hd => rfl); (case hg => rfl); (case hr => first | (go_simp; done) | (go_simp; rfl)); (case hp => exact (Reps.one (show Kd.M (Kd.int .i64) _ _ _ (wrap64 ((wrap64 (a0 - 9728)) + 65)) [.int .i64 (wrap64 ((wrap64 (a0 - 9728)) + 65))] from rfl) (Reps.none _ _))); intro v158 w20 ho21 hb hg_ hnew_; clear hg_ hnew_; (first | rw [← Ny157.out] at ho21 | (simp only [Int.reduceToNat] at ho21; rw [← Ny157.out] at ho21)); have HO159 := am (Kd.R_lower ho21 (below_size bB)); replace HB := am (below_step bB hb); clear hb ho21))
       go_ret
       exact ⟨_, rv, kR HO159.out, bB⟩
      ·replace c19 := Bool.eq_false_iff.mpr c19
       subst c19
       have H1 : (if a0 ≥ 12288 then (spec_l05Parts.j2 kj16 a0 a1 (decide (a0 ≤ 23459))) else (spec_l05Parts.j2 kj16 a0 a1 false)) = some r := by rw [if_neg (show ¬ (false = true) by decide)] at H; exact H
       clear H
       have H := H1
       clear H1
       have HC22 := am H
       clear H
       go_upto_region 11 with (fail)
       go_cut [54] (fun v54 wc => ∃ (kq : Nat) (x54_21 : Bool), v54 = .bool x54_21 ∧ Aside0 (spec_l05Parts.j2 kq a0 a1 x54_21 = some r) ∧ Aside0 (kq ≤ kj16) ∧ Aside0 (Below w.heap.size w wc))
       case first =>
        have H := HC22.out
        clear HC22
        by_cases c23 : a0 ≥ 12288
        ·rw [if_pos c23] at H
         have c23b0 : decide (12288 ≤ a0) = true := decide_eq_true c23
         clear c23
         (first | rw [c23b0] | (simp only [i64_w, i32_w]; rw [c23b0]) | skip)
         have H' := am H
         clear H
         go_wp2
         go_meet
         case rel => exact ⟨_, (decide (a0 ≤ 23459)), (by first | rfl | (simp; done) | (simp [*]; done)), H', ⟨by have := HJ2.out; have := HJ16.out; first | omega | exact Nat.le_refl _⟩, ⟨bB⟩⟩
        ·rw [if_neg c23] at H
         have c23b0 : decide (12288 ≤ a0) = false := decide_eq_false c23
         clear c23
         (first | rw [c23b0] | (simp only [i64_w, i32_w]; rw [c23b0]) | skip)
         have H' := am H
         clear H
         go_wp2
         go_meet
         case rel => exact ⟨_, (false), (by first | rfl | (simp; done) | (simp [*]; done)), H', ⟨by have := HJ2.out; have := HJ16.out; first | omega | exact Nat.le_refl _⟩, ⟨bB⟩⟩
       case rest =>
        clear HC22
        try clear c1
        try clear c2
        try clear p2
        try clear c4
        try clear c4b0
        try clear c5
        try clear c5b0
        try clear c6
        try clear p6
        try clear c7
        try clear c7b0
        try clear c7b1
        try clear c8
        try clear c9
        try clear c11
        try clear c11b0
        try clear c11b1
        try clear c18
        try clear c18b0
        try clear c19
        try clear c23
        try clear c23b0
        try clear p2
        try clear p6
        obtain ⟨kq, x54_21, rfl, HA, HJ21, HB⟩ := hcut
        cases kq with
        | zero => exact absurd HA.out (by simp [spec_l05Parts.j2])
        | succ kj21 =>
         have H := HA.out
         clear HA
         simp only [spec_l05Parts.j2] at H
         by_cases c24 : x54_21 = true
         ·subst c24
          have H1 : (if (Int.tmod (wrap64 (a0 - 12288)) 28) > 0 then (some (([wrap64 (a0 - (Int.tmod (wrap64 (a0 - 12288)) 28)), wrap64 (1856 + (Int.tmod (wrap64 (a0 - 12288)) 28))] : List Int))) else (some (([wrap64 (1792 + (wrap64 (Int.tdiv (wrap64 (a0 - 12288)) 588))), wrap64 (1824 + (Int.tmod (wrap64 (Int.tdiv (wrap64 (a0 - 12288)) 28)) 21))] : List Int)))) = some r := by rw [if_pos rfl] at H; exact H
          clear H
          have H := H1
          clear H1
          by_cases c25 : (Int.tmod (wrap64 (a0 - 12288)) 28) > 0
          ·rw [if_pos c25] at H
           have c25b0 : decide (0 < (Int.tmod (wrap64 (a0 - 12288)) 28)) = true := decide_eq_true c25
           clear c25
           obtain ⟨y160, hy160⟩ : ∃ y_ : List Int, y_ = (([wrap64 (a0 - (Int.tmod (wrap64 (a0 - 12288)) 28)), wrap64 (1856 + (Int.tmod (wrap64 (a0 - 12288)) 28))] : List Int)) := ⟨_, rfl⟩
           replace H : (some y160) = some r := by first | (rw [hy160]; with_reducible exact H) | (have H2_ := (Option.bind_some _ _).symm.trans H; rw [hy160]; with_reducible exact H2_) | (have H2_ := (Option.bind_some _ _).symm.trans H; with_reducible exact H2_) | with_reducible exact H | (rw [hy160]; exact H) | exact H
           have Ny160 := am hy160
           clear hy160
           obtain rfl := Option.some.inj H
           go_wp2_with (first | ((with_reducible refine gate_dst (N := 73) rfl ?_); refine Kd.R_lit (Kd.int .i64) _ 2 ?hg (N := 73) ?hd (xs := ([wrap64 (a0 - (Int.tmod (wrap64 (a0 - 12288)) 28)), wrap64 (1856 + (Int.tmod (wrap64 (a0 - 12288)) 28))] : List Int)) (inner := [.int .i64 (wrap64 (a0 - (Int.tmod (wrap64 (a0 - 12288)) 28))), .int .i64 (wrap64 (1856 + (Int.tmod (wrap64 (a0 - 12288)) 28)))]) (ok := fun _ => True) (okp := fun _ => True) ?hr ?hp (fun _ hk => hk) trivial (Below.refl _ _) (Nat.le_refl _) (by simp) ?_; (case hd => rfl); (case hg => rfl); (case hr => first | (go_simp; done) | (go_simp; rfl)); (case hp => exact (Reps.one (show Kd.M (Kd.int .i64) _ _ _ (wrap64 (a0 - (Int.tmod (wrap64 (a0 - 12288)) 28))) [.int .i64 (wrap64 (a0 - (Int.tmod (wrap64 (a0 - 12288)) 28)))] from rfl) (Reps.one (show Kd.M (Kd.int .i64) _ _ _ (wrap64 (1856 + (Int.tmod (wrap64 (a0 - 12288)) 28))) [.int .i64 (wrap64 (1856 + (Int.tmod (wrap64 (a0 - 12288)) 28)))] from rfl) (Reps.none _ _)))); intro v161 w26 ho27 hb hg_ hnew_; clear hg_ hnew_; (first | rw [← Ny160.out] at ho27 | (simp only [Int.reduceToNat] at ho27; rw [← Ny160.out] at ho27)); have HO162 := am (Kd.R_lower ho27 (below_size bB)); replace HB := am (below_step bB hb); clear hb ho27))
           go_ret
           exact ⟨_, rv, kR HO162.out, bB⟩
          ·rw [if_neg c25] at H
           have c25b0 : decide (0 < (Int.tmod (wrap64 (a0 - 12288)) 28)) = false := decide_eq_false c25
           clear c25
           obtain ⟨y163, hy163⟩ : ∃ y_ : List Int, y_ = (([wrap64 (1792 + (wrap64 (Int.tdiv (wrap64 (a0 - 12288)) 588))), wrap64 (1824 + (Int.tmod (wrap64 (Int.tdiv (wrap64 (a0 - 12288)) 28)) 21))] : List Int)) := ⟨_, rfl⟩
           replace H : (some y163) = some r := by first | (rw [hy163]; with_reducible exact H) | (have H2_ := (Option.bind_some _ _).symm.trans H; rw [hy163]; with_reducible exact H2_) | (have H2_ := (Option.bind_some _ _).symm.trans H; with_reducible exact H2_) | with_reducible exact H | (rw [hy163]; exact H) | exact H
           have Ny163 := am hy163
           clear hy163
           obtain rfl := Option.some.inj H
           go_wp2_with (first | ((with_reducible refine gate_dst (N := 81) rfl ?_); refine Kd.R_lit (Kd.int .i64) _ 2 ?hg (N := 81) ?hd (xs := ([wrap64 (1792 + (wrap64 (Int.tdiv (wrap64 (a0 - 12288)) 588))), wrap64 (1824 + (Int.tmod (wrap64 (Int.tdiv (wrap64 (a0 - 12288)) 28)) 21))] : List Int)) (inner := [.int .i64 (wrap64 (1792 + (wrap64 (Int.tdiv (wrap64 (a0 - 12288)) 588)))), .int .i64 (wrap64 (1824 + (Int.tmod (wrap64 (Int.tdiv (wrap64 (a0 - 12288)) 28)) 21)))]) (ok := fun _ => True) (okp := fun _ => True) ?hr ?hp (fun _ hk => hk) trivial (Below.refl _ _) (Nat.le_refl _) (by simp) ?_; (case hd => rfl); (case hg => rfl); (case hr => first | (go_simp; done) | (go_simp; rfl)); (case hp => exact (Reps.one (show Kd.M (Kd.int .i64) _ _ _ (wrap64 (1792 + (wrap64 (Int.tdiv (wrap64 (a0 - 12288)) 588)))) [.int .i64 (wrap64 (1792 + (wrap64 (Int.tdiv (wrap64 (a0 - 12288)) 588))))] from rfl) (Reps.one (show Kd.M (Kd.int .i64) _ _ _ (wrap64 (1824 + (Int.tmod (wrap64 (Int.tdiv (wrap64 (a0 - 12288)) 28)) 21))) [.int .i64 (wrap64 (1824 + (Int.tmod (wrap64 (Int.tdiv (wrap64 (a0 - 12288)) 28)) 21)))] from rfl) (Reps.none _ _)))); intro v164 w28 ho29 hb hg_ hnew_; clear hg_ hnew_; (first | rw [← Ny163.out] at ho29 | (simp only [Int.reduceToNat] at ho29; rw [← Ny163.out] at ho29)); have HO165 := am (Kd.R_lower ho29 (below_size bB)); replace HB := am (below_step bB hb); clear hb ho29))
           go_ret
           exact ⟨_, rv, kR HO165.out, bB⟩
         ·replace c24 := Bool.eq_false_iff.mpr c24
          subst c24
          have H1 : (if a1 = true then ((spec_l05Wide.f kj21 a0).bind fun t166 => (some t166)) else (some (([] : List Int)))) = some r := by rw [if_neg (show ¬ (false = true) by decide)] at H; exact H
          clear H
          have H := H1
          clear H1
          by_cases c30 : a1 = true
          ·subst c30
           have H1 : ((spec_l05Wide.f kj21 a0).bind fun t166 => (some t166)) = some r := by rw [if_pos rfl] at H; exact H
           clear H
           have H := H1
           clear H1
           replace H := Option.bind_eq_some_iff.mp H
           obtain ⟨t166, A310, H⟩ := H
           replace H : (some t166) = some r := H
           have A31 := am A310
           clear A310
           obtain rfl := Option.some.inj H
           go_wp2_with (first | ((with_reducible refine gate_callee (f := 98) rfl ?_); refine gl 85 Tryd.func98 #[.int .i64 a0] ?_; (with_reducible refine (spec_l05Wide.calls kj21 a0 t166 _ A31.out).mono ?_); rintro e w32 ⟨v167, rfl, ho0, hb⟩; refine ⟨_, rfl, ?_⟩; have HO168 := am (Kd.R_lower ho0 (below_size bB)); replace HB := am (below_step bB hb); (try clear hb); (try clear hb2); (try clear hk); (try clear hi); (try clear ho0)))
           go_ret
           exact ⟨_, rv, kR HO168.out, bB⟩
          ·replace c30 := Bool.eq_false_iff.mpr c30
           subst c30
           have H1 : (some (([] : List Int))) = some r := by rw [if_neg (show ¬ (false = true) by decide)] at H; exact H
           clear H
           have H := H1
           clear H1
           obtain ⟨y169, hy169⟩ : ∃ y_ : List Int, y_ = (([] : List Int)) := ⟨_, rfl⟩
           replace H : (some y169) = some r := by first | (rw [hy169]; with_reducible exact H) | (have H2_ := (Option.bind_some _ _).symm.trans H; rw [hy169]; with_reducible exact H2_) | (have H2_ := (Option.bind_some _ _).symm.trans H; with_reducible exact H2_) | with_reducible exact H | (rw [hy169]; exact H) | exact H
           have Ny169 := am hy169
           clear hy169
           obtain rfl := Option.some.inj H
           go_wp2_with (first | ((with_reducible refine gate_dst (N := 86) rfl ?_); refine Kd.R_lit (Kd.int .i64) _ 2 ?hg (N := 86) ?hd (xs := ([] : List Int)) (inner := []) (ok := fun _ => True) (okp := fun _ => True) ?hr ?hp (fun _ hk => hk) trivial (Below.refl _ _) (Nat.le_refl _) (by simp) ?_; (case hd => rfl); (case hg => rfl); (case hr => first | (go_simp; done) | (go_simp; rfl)); (case hp => exact (Reps.none _ _)); intro v170 w33 ho34 hb hg_ hnew_; clear hg_ hnew_; (first | rw [← Ny169.out] at ho34 | (simp only [Int.reduceToNat] at ho34; rw [← Ny169.out] at ho34)); have HO171 := am (Kd.R_lower ho34 (below_size bB)); replace HB := am (below_step bB hb); clear hb ho34))
           go_ret
           exact ⟨_, rv, kR HO171.out, bB⟩
end Go.Proofs.YtnbedmihgnjdpaaDoor.PFnExactCollatorFault

-- Written by a program of this session: what the printed functions compute.
import Derived.Test.YtnbedmihgnjdpaaDoorPFnExactCollatorFaultx0
import Derived.Test.YtnbedmihgnjdpaaDoorSlimMore
import Derived.Test.YtnbedmihgnjdpaaDoorPFnExactCollatorFaultx8
namespace Go.Proofs.YtnbedmihgnjdpaaDoor.PFnExactCollatorFault
open Go.RowKit Go.Proofs.YtnbedmihgnjdpaaDoorW.PrintWords Go.Proofs.YtnbedmihgnjdpaaDoorW.PrintLast Go.Proofs.YtnbedmihgnjdpaaDoorW.PrintMore
attribute [local go_sem] max2_int min2_int max_two min_two max_three min_three max_four min_four
set_option linter.unusedVariables false
set_option linter.unusedSimpArgs false
mutual
def impl_parts.j0 : Nat → Int → Bool → Bool → Option (List Int)
 | 0, _, _, _ => none
 | k + 1, x0, x1, x8 => if x8 = true then (if (wrap64 (Int.tdiv (wrap64 (x0 - 8192)) 512)) = 0 then ((impl_letter.f (wrap64 (Int.tdiv (Int.tmod (wrap64 (x0 - 8192)) 512) 8))).bind fun t306 => (some (([t306, wrap64 (4096 + (Int.tmod (Int.tmod (wrap64 (x0 - 8192)) 512) 8))] : List Int)))) else (if (wrap64 (Int.tdiv (wrap64 (x0 - 8192)) 512)) = 1 then ((impl_letter.f (wrap64 (Int.tdiv (Int.tmod (wrap64 (x0 - 8192)) 512) 8))).bind fun t310 => (some (([t310, wrap64 (4112 + (Int.tmod (Int.tmod (wrap64 (x0 - 8192)) 512) 8))] : List Int)))) else (some (([wrap64 (8704 + (Int.tmod (wrap64 (x0 - 8192)) 512)), 4096] : List Int))))) else ((impl_in.f x0 9728 9753).bind fun t317 => (if t317 = true then (some (([wrap64 ((wrap64 (65 + x0)) - 9728)] : List Int))) else ((impl_in.f x0 12288 23459).bind fun t321 => (if t321 = true then (if (Int.tmod (wrap64 (x0 - 12288)) 28) > 0 then (some (([wrap64 (x0 - (Int.tmod (wrap64 (x0 - 12288)) 28)), wrap64 (1856 + (Int.tmod (wrap64 (x0 - 12288)) 28))] : List Int))) else (some (([wrap64 (1792 + (wrap64 (Int.tdiv (wrap64 (Int.tdiv (wrap64 (x0 - 12288)) 28)) 21))), wrap64 (1824 + (Int.tmod (wrap64 (Int.tdiv (wrap64 (x0 - 12288)) 28)) 21))] : List Int)))) else (if x1 = true then ((impl_in.f x0 9984 10009).bind fun t328 => (if t328 = true then (some (([wrap64 ((wrap64 (65 + x0)) - 9984)] : List Int))) else ((impl_in.f x0 10016 10025).bind fun t332 => (if t332 = true then (some (([wrap64 ((wrap64 (48 + x0)) - 10016)] : List Int))) else (if x0 = 8064 then (impl_parts.j1 k x0 true) else (impl_parts.j1 k x0 (x0 == 160))))))) else (some ([] : List Int)))))))
def impl_parts.j1 : Nat → Int → Bool → Option (List Int)
 | 0, _, _ => none
 | k + 1, x0, x92 => if x92 = true then (some (([32] : List Int))) else ((impl_in.f x0 10032 10035).bind fun t339 => (if t339 = true then ((some (([(([102, 102] : List Int)), (([102, 105] : List Int)), (([102, 108] : List Int)), (([115, 116] : List Int))] : List (List Int)) : List (List Int))).bind fun y352 => (if 0 ≤ (wrap64 (x0 - 10032)) then (if (wrap64 (x0 - 10032)) < (y352.length : Int) then (some (rd_L9 y352 (wrap64 (x0 - 10032)))) else (none)) else (none))) else (some ([] : List Int))))
end
def impl_parts.f (k : Nat) (a0 : Int) (a1 : Bool) : Option (List Int) := (impl_in.f a0 8192 9631).bind fun t305 => (if t305 = true then (impl_parts.j0 k a0 a1 (decide ((Int.tmod (wrap64 (a0 - 8192)) 512) < 416))) else (impl_parts.j0 k a0 a1 false))
theorem rd4_ne {y : List (List Int)} {i : Int} (hy : y = (([(([102, 102] : List Int)), (([102, 105] : List Int)), (([102, 108] : List Int)), (([115, 116] : List Int))] : List (List Int)))) (h0 : 0 ≤ i) (h1 : i < (y.length : Int)) : ¬ rd_L9 y i = [] := by
 subst hy
 have h2 : i = 0 ∨ i = 1 ∨ i = 2 ∨ i = 3 := by simp at h1; omega
 rcases h2 with rfl | rfl | rfl | rfl <;> decide
set_option maxHeartbeats 8000000 in
set_option maxRecDepth 100000 in
theorem impl_parts.calls_nil (k : Nat) (a0 : Int) (a1 : Bool) (r : List Int) (w : World) (h : impl_parts.f k a0 a1 = some r) :
  Calls Tryd.prog 90 #[.int .i64 a0, .bool a1] w fun e w' => ∃ v0_ : Value, e = .returned (v0_) ∧ (r = [] → v0_ = .slice none 0 0) ∧ Kd.V (Kd.int .i64) 2 w' w.heap.size (fun k_ => (w.heap.size ≤ k_)) v0_ r ∧ Below w.heap.size w w' := by
 have HB := am (Below.refl w.heap.size w)
 have H : ((impl_in.f a0 8192 9631).bind fun t305 => (if t305 = true then (impl_parts.j0 k a0 a1 (decide ((Int.tmod (wrap64 (a0 - 8192)) 512) < 416))) else (impl_parts.j0 k a0 a1 false))) = some r := h
 clear h
 have HC3 := am H
 clear H
 go_enter Tryd.func90, Tryd.ntmps90
 go_upto_region 1 with (fail)
 go_cut [8] (fun v8 wc => ∃ (kq : Nat) (x8_2 : Bool), v8 = .bool x8_2 ∧ Aside0 (impl_parts.j0 kq a0 a1 x8_2 = some r) ∧ Aside0 (kq ≤ k) ∧ Aside0 (Below w.heap.size w wc))
 case first =>
  as_aux_lemma =>
   have H := HC3.out
   clear HC3
   replace H := Option.bind_eq_some_iff.mp H
   obtain ⟨t305, A40, H⟩ := H
   replace H : (if t305 = true then (impl_parts.j0 k a0 a1 (decide ((Int.tmod (wrap64 (a0 - 8192)) 512) < 416))) else (impl_parts.j0 k a0 a1 false)) = some r := H
   have A4 := am A40
   clear A40
   by_cases c5 : t305 = true
   ·subst c5
    have H1 : (impl_parts.j0 k a0 a1 (decide ((Int.tmod (wrap64 (a0 - 8192)) 512) < 416))) = some r := by rw [if_pos rfl] at H; exact H
    clear H
    have H := H1
    clear H1
    have H' := am H
    clear H
    go_wp2_with (first | ((with_reducible refine gate_callee (f := 67) rfl ?_); refine gl 10 Tryd.func67 #[.int .i64 a0, .int .i64 8192, .int .i64 9631] ?_; (with_reducible refine (impl_in.calls a0 8192 9631 true _ A4.out).mono ?_); rintro e w' ⟨rfl, ⟨nd, rfl⟩⟩; refine ⟨_, rfl, ?_⟩))
    go_meet
    case rel => exact ⟨_, (decide ((Int.tmod (wrap64 (a0 - 8192)) 512) < 416)), (by first | rfl | (simp; done) | (simp [*]; done)), H', ⟨by first | omega | exact Nat.le_refl _⟩, ⟨bB⟩⟩
   ·replace c5 := Bool.eq_false_iff.mpr c5
    subst c5
    have H1 : (impl_parts.j0 k a0 a1 false) = some r := by rw [if_neg (show ¬ (false = true) by decide)] at H; exact H
    clear H
    have H := H1
    clear H1
    have H' := am H
    clear H
    go_wp2_with (first | ((with_reducible refine gate_callee (f := 67) rfl ?_); refine gl 10 Tryd.func67 #[.int .i64 a0, .int .i64 8192, .int .i64 9631] ?_; (with_reducible refine (impl_in.calls a0 8192 9631 false _ A4.out).mono ?_); rintro e w' ⟨rfl, ⟨nd, rfl⟩⟩; refine ⟨_, rfl, ?_⟩))
    go_meet
    case rel => exact ⟨_, (false), (by first | rfl | (simp; done) | (simp [*]; done)), H', ⟨by first | omega | exact Nat.le_refl _⟩, ⟨bB⟩⟩
 case rest =>
  as_aux_lemma =>
   clear HC3
   try clear p2
   try clear c5
   obtain ⟨kq, x8_2, rfl, HA, HJ2, HB⟩ := hcut
   cases kq with
   | zero => exact absurd HA.out (by simp [impl_parts.j0])
   | succ kj2 =>
    have H := HA.out
    clear HA
    simp only [impl_parts.j0] at H
    by_cases c6 : x8_2 = true
    ·subst c6
     have H1 : (if (wrap64 (Int.tdiv (wrap64 (a0 - 8192)) 512)) = 0 then ((impl_letter.f (wrap64 (Int.tdiv (Int.tmod (wrap64 (a0 - 8192)) 512) 8))).bind fun t306 => (some (([t306, wrap64 (4096 + (Int.tmod (Int.tmod (wrap64 (a0 - 8192)) 512) 8))] : List Int)))) else (if (wrap64 (Int.tdiv (wrap64 (a0 - 8192)) 512)) = 1 then ((impl_letter.f (wrap64 (Int.tdiv (Int.tmod (wrap64 (a0 - 8192)) 512) 8))).bind fun t310 => (some (([t310, wrap64 (4112 + (Int.tmod (Int.tmod (wrap64 (a0 - 8192)) 512) 8))] : List Int)))) else (some (([wrap64 (8704 + (Int.tmod (wrap64 (a0 - 8192)) 512)), 4096] : List Int))))) = some r := by rw [if_pos rfl] at H; exact H
     clear H
     have H := H1
     clear H1
     by_cases c7 : (wrap64 (Int.tdiv (wrap64 (a0 - 8192)) 512)) = 0
     ·rw [if_pos c7] at H
      have c7b0 : ((wrap64 (Int.tdiv (wrap64 (a0 - 8192)) 512)) == 0) = true := beq_iff_eq.mpr c7
      have c7b1 : ((wrap64 (Int.tdiv (wrap64 (a0 - 8192)) 512)) != 0) = false := bne_eq_false_iff_eq.mpr c7
      clear c7
      replace H := Option.bind_eq_some_iff.mp H
      obtain ⟨t306, A80, H⟩ := H
      replace H : (some (([t306, wrap64 (4096 + (Int.tmod (Int.tmod (wrap64 (a0 - 8192)) 512) 8))] : List Int))) = some r := H
      have A8 := am A80
      clear A80
      obtain ⟨y307, hy307⟩ : ∃ y_ : List Int, y_ = (([t306, wrap64 (4096 + (Int.tmod (Int.tmod (wrap64 (a0 - 8192)) 512) 8))] : List Int)) := ⟨_, rfl⟩
      replace H : (some y307) = some r := by first | (rw [hy307]; with_reducible exact H) | (have H2_ := (Option.bind_some _ _).symm.trans H; rw [hy307]; with_reducible exact H2_) | (have H2_ := (Option.bind_some _ _).symm.trans H; with_reducible exact H2_) | with_reducible exact H | (rw [hy307]; exact H) | exact H
      have Ny307 := am hy307
      clear hy307
      obtain rfl := Option.some.inj H
      go_wp2_with (first | ((with_reducible refine gate_callee (f := 100) rfl ?_); refine gl 27 Tryd.func100 #[.int .i64 (wrap64 (Int.tdiv (Int.tmod (wrap64 (a0 - 8192)) 512) 8))] ?_; (with_reducible refine (impl_letter.calls (wrap64 (Int.tdiv (Int.tmod (wrap64 (a0 - 8192)) 512) 8)) t306 _ A8.out).mono ?_); rintro e w' ⟨rfl, ⟨nd, rfl⟩⟩; refine ⟨_, rfl, ?_⟩) | ((with_reducible refine gate_dst (N := 31) rfl ?_); refine Kd.R_lit (Kd.int .i64) _ 2 ?hg (N := 31) ?hd (xs := ([t306, wrap64 (4096 + (Int.tmod (Int.tmod (wrap64 (a0 - 8192)) 512) 8))] : List Int)) (inner := [.int .i64 t306, .int .i64 (wrap64 (4096 + (Int.tmod (Int.tmod (wrap64 (a0 - 8192)) 512) 8)))]) (ok := fun _ => True) (okp := fun _ => True) ?hr ?hp (fun _ hk => hk) trivial (Below.refl _ _) (Nat.le_refl _) (by simp) ?_; (case hd => rfl); (case hg => rfl); (case hr => first | (go_simp; done) | (go_simp; rfl)); (case hp => exact (Reps.one (show Kd.M (Kd.int .i64) _ _ _ t306 [.int .i64 t306] from rfl) (Reps.one (show Kd.M (Kd.int .i64) _ _ _ (wrap64 (4096 + (Int.tmod (Int.tmod (wrap64 (a0 - 8192)) 512) 8))) [.int .i64 (wrap64 (4096 + (Int.tmod (Int.tmod (wrap64 (a0 - 8192)) 512) 8)))] from rfl) (Reps.none _ _)))); intro v308 w9 ho10 hb hg_ hnew_; clear hg_ hnew_; (first | rw [← Ny307.out] at ho10 | (simp only [Int.reduceToNat] at ho10; rw [← Ny307.out] at ho10)); have HO309 := am (Kd.R_lower (Kd.R_newM (M := fun k_ => (w.heap.size ≤ k_)) ho10 (below_size bB) (fun k_ h_ => h_)) (below_size bB)); replace HB := am (below_step bB hb); clear hb ho10))
      go_ret
      exact ⟨_, rv, (fun hr_ => by first | (have hr2_ := hr_; rw [Ny307.out] at hr2_; exact absurd hr2_ (by simp))), Kd.R_V (kR (Kd.R_mono HO309.out (fun _ hk => hk.1))), bB⟩
     ·rw [if_neg c7] at H
      have c7b0 : ((wrap64 (Int.tdiv (wrap64 (a0 - 8192)) 512)) == 0) = false := beq_eq_false_iff_ne.mpr c7
      have c7b1 : ((wrap64 (Int.tdiv (wrap64 (a0 - 8192)) 512)) != 0) = true := bne_iff_ne.mpr c7
      by_cases c11 : (wrap64 (Int.tdiv (wrap64 (a0 - 8192)) 512)) = 1
      ·rw [if_pos c11] at H
       have c11b0 : ((wrap64 (Int.tdiv (wrap64 (a0 - 8192)) 512)) == 1) = true := beq_iff_eq.mpr c11
       have c11b1 : ((wrap64 (Int.tdiv (wrap64 (a0 - 8192)) 512)) != 1) = false := bne_eq_false_iff_eq.mpr c11
       clear c11
       replace H := Option.bind_eq_some_iff.mp H
       obtain ⟨t310, A120, H⟩ := H
       replace H : (some (([t310, wrap64 (4112 + (Int.tmod (Int.tmod (wrap64 (a0 - 8192)) 512) 8))] : List Int))) = some r := H
       have A12 := am A120
       clear A120
       obtain ⟨y311, hy311⟩ : ∃ y_ : List Int, y_ = (([t310, wrap64 (4112 + (Int.tmod (Int.tmod (wrap64 (a0 - 8192)) 512) 8))] : List Int)) := ⟨_, rfl⟩
       replace H : (some y311) = some r := by first | (rw [hy311]; with_reducible exact H) | (have H2_ := (Option.bind_some _ _).symm.trans H; rw [hy311]; with_reducible exact H2_) | (have H2_ := (Option.bind_some _ _).symm.trans H; with_reducible exact H2_) | with_reducible exact H | (rw [hy311]; exact H) | exact H
       have Ny311 := am hy311
       clear hy311
       obtain rfl := Option.some.inj H
       go_wp2_with (first | ((with_reducible refine gate_callee (f := 100) rfl ?_); refine gl 36 Tryd.func100 #[.int .i64 (wrap64 (Int.tdiv (Int.tmod (wrap64 (a0 - 8192)) 512) 8))] ?_; (with_reducible refine (impl_letter.calls (wrap64 (Int.tdiv (Int.tmod (wrap64 (a0 - 8192)) 512) 8)) t310 _ A12.out).mono ?_); rintro e w' ⟨rfl, ⟨nd, rfl⟩⟩; refine ⟨_, rfl, ?_⟩) | ((with_reducible refine gate_dst (N := 40) rfl ?_); refine Kd.R_lit (Kd.int .i64) _ 2 ?hg (N := 40) ?hd (xs := ([t310, wrap64 (4112 + (Int.tmod (Int.tmod (wrap64 (a0 - 8192)) 512) 8))] : List Int)) (inner := [.int .i64 t310, .int .i64 (wrap64 (4112 + (Int.tmod (Int.tmod (wrap64 (a0 - 8192)) 512) 8)))]) (ok := fun _ => True) (okp := fun _ => True) ?hr ?hp (fun _ hk => hk) trivial (Below.refl _ _) (Nat.le_refl _) (by simp) ?_; (case hd => rfl); (case hg => rfl); (case hr => first | (go_simp; done) | (go_simp; rfl)); (case hp => exact (Reps.one (show Kd.M (Kd.int .i64) _ _ _ t310 [.int .i64 t310] from rfl) (Reps.one (show Kd.M (Kd.int .i64) _ _ _ (wrap64 (4112 + (Int.tmod (Int.tmod (wrap64 (a0 - 8192)) 512) 8))) [.int .i64 (wrap64 (4112 + (Int.tmod (Int.tmod (wrap64 (a0 - 8192)) 512) 8)))] from rfl) (Reps.none _ _)))); intro v312 w13 ho14 hb hg_ hnew_; clear hg_ hnew_; (first | rw [← Ny311.out] at ho14 | (simp only [Int.reduceToNat] at ho14; rw [← Ny311.out] at ho14)); have HO313 := am (Kd.R_lower (Kd.R_newM (M := fun k_ => (w.heap.size ≤ k_)) ho14 (below_size bB) (fun k_ h_ => h_)) (below_size bB)); replace HB := am (below_step bB hb); clear hb ho14))
       go_ret
       exact ⟨_, rv, (fun hr_ => by first | (have hr2_ := hr_; rw [Ny311.out] at hr2_; exact absurd hr2_ (by simp))), Kd.R_V (kR (Kd.R_mono HO313.out (fun _ hk => hk.1))), bB⟩
      ·rw [if_neg c11] at H
       have c11b0 : ((wrap64 (Int.tdiv (wrap64 (a0 - 8192)) 512)) == 1) = false := beq_eq_false_iff_ne.mpr c11
       have c11b1 : ((wrap64 (Int.tdiv (wrap64 (a0 - 8192)) 512)) != 1) = true := bne_iff_ne.mpr c11
       obtain ⟨y314, hy314⟩ : ∃ y_ : List Int, y_ = (([wrap64 (8704 + (Int.tmod (wrap64 (a0 - 8192)) 512)), 4096] : List Int)) := ⟨_, rfl⟩
       replace H : (some y314) = some r := by first | (rw [hy314]; with_reducible exact H) | (have H2_ := (Option.bind_some _ _).symm.trans H; rw [hy314]; with_reducible exact H2_) | (have H2_ := (Option.bind_some _ _).symm.trans H; with_reducible exact H2_) | with_reducible exact H | (rw [hy314]; exact H) | exact H
       have Ny314 := am hy314
       clear hy314
       obtain rfl := Option.some.inj H
       go_wp2_with (first | ((with_reducible refine gate_dst (N := 43) rfl ?_); refine Kd.R_lit (Kd.int .i64) _ 2 ?hg (N := 43) ?hd (xs := ([wrap64 (8704 + (Int.tmod (wrap64 (a0 - 8192)) 512)), 4096] : List Int)) (inner := [.int .i64 (wrap64 (8704 + (Int.tmod (wrap64 (a0 - 8192)) 512))), .int .i64 4096]) (ok := fun _ => True) (okp := fun _ => True) ?hr ?hp (fun _ hk => hk) trivial (Below.refl _ _) (Nat.le_refl _) (by simp) ?_; (case hd => rfl); (case hg => rfl); (case hr => first | (go_simp; done) | (go_simp; rfl)); (case hp => exact (Reps.one (show Kd.M (Kd.int .i64) _ _ _ (wrap64 (8704 + (Int.tmod (wrap64 (a0 - 8192)) 512))) [.int .i64 (wrap64 (8704 + (Int.tmod (wrap64 (a0 - 8192)) 512)))] from rfl) (Reps.one (show Kd.M (Kd.int .i64) _ _ _ 4096 [.int .i64 4096] from rfl) (Reps.none _ _)))); intro v315 w15 ho16 hb hg_ hnew_; clear hg_ hnew_; (first | rw [← Ny314.out] at ho16 | (simp only [Int.reduceToNat] at ho16; rw [← Ny314.out] at ho16)); have HO316 := am (Kd.R_lower (Kd.R_newM (M := fun k_ => (w.heap.size ≤ k_)) ho16 (below_size bB) (fun k_ h_ => h_)) (below_size bB)); replace HB := am (below_step bB hb); clear hb ho16))
       go_ret
       exact ⟨_, rv, (fun hr_ => by first | (have hr2_ := hr_; rw [Ny314.out] at hr2_; exact absurd hr2_ (by simp))), Kd.R_V (kR (Kd.R_mono HO316.out (fun _ hk => hk.1))), bB⟩
    ·replace c6 := Bool.eq_false_iff.mpr c6
     subst c6
     have H1 : ((impl_in.f a0 9728 9753).bind fun t317 => (if t317 = true then (some (([wrap64 ((wrap64 (65 + a0)) - 9728)] : List Int))) else ((impl_in.f a0 12288 23459).bind fun t321 => (if t321 = true then (if (Int.tmod (wrap64 (a0 - 12288)) 28) > 0 then (some (([wrap64 (a0 - (Int.tmod (wrap64 (a0 - 12288)) 28)), wrap64 (1856 + (Int.tmod (wrap64 (a0 - 12288)) 28))] : List Int))) else (some (([wrap64 (1792 + (wrap64 (Int.tdiv (wrap64 (Int.tdiv (wrap64 (a0 - 12288)) 28)) 21))), wrap64 (1824 + (Int.tmod (wrap64 (Int.tdiv (wrap64 (a0 - 12288)) 28)) 21))] : List Int)))) else (if a1 = true then ((impl_in.f a0 9984 10009).bind fun t328 => (if t328 = true then (some (([wrap64 ((wrap64 (65 + a0)) - 9984)] : List Int))) else ((impl_in.f a0 10016 10025).bind fun t332 => (if t332 = true then (some (([wrap64 ((wrap64 (48 + a0)) - 10016)] : List Int))) else (if a0 = 8064 then (impl_parts.j1 kj2 a0 true) else (impl_parts.j1 kj2 a0 (a0 == 160))))))) else (some ([] : List Int))))))) = some r := by rw [if_neg (show ¬ (false = true) by decide)] at H; exact H
     clear H
     have H := H1
     clear H1
     replace H := Option.bind_eq_some_iff.mp H
     obtain ⟨t317, A170, H⟩ := H
     replace H : (if t317 = true then (some (([wrap64 ((wrap64 (65 + a0)) - 9728)] : List Int))) else ((impl_in.f a0 12288 23459).bind fun t321 => (if t321 = true then (if (Int.tmod (wrap64 (a0 - 12288)) 28) > 0 then (some (([wrap64 (a0 - (Int.tmod (wrap64 (a0 - 12288)) 28)), wrap64 (1856 + (Int.tmod (wrap64 (a0 - 12288)) 28))] : List Int))) else (some (([wrap64 (1792 + (wrap64 (Int.tdiv (wrap64 (Int.tdiv (wrap64 (a0 - 12288)) 28)) 21))), wrap64 (1824 + (Int.tmod (wrap64 (Int.tdiv (wrap64 (a0 - 12288)) 28)) 21))] : List Int)))) else (if a1 = true then ((impl_in.f a0 9984 10009).bind fun t328 => (if t328 = true then (some (([wrap64 ((wrap64 (65 + a0)) - 9984)] : List Int))) else ((impl_in.f a0 10016 10025).bind fun t332 => (if t332 = true then (some (([wrap64 ((wrap64 (48 + a0)) - 10016)] : List Int))) else (if a0 = 8064 then (impl_parts.j1 kj2 a0 true) else (impl_parts.j1 kj2 a0 (a0 == 160))))))) else (some ([] : List Int)))))) = some r := H
     have A17 := am A170
     clear A170
     by_cases c18 : t317 = true
     ·subst c18
      have H1 : (some (([wrap64 ((wrap64 (65 + a0)) - 9728)] : List Int))) = some r := by rw [if_pos rfl] at H; exact H
      clear H
      have H := H1
      clear H1
      obtain ⟨y318, hy318⟩ : ∃ y_ : List Int, y_ = (([wrap64 ((wrap64 (65 + a0)) - 9728)] : List Int)) := ⟨_, rfl⟩
      replace H : (some y318) = some r := by first | (rw [hy318]; with_reducible exact H) | (have H2_ := (Option.bind_some _ _).symm.trans H; rw [hy318]; with_reducible exact H2_) | (have H2_ := (Option.bind_some _ _).symm.trans H; with_reducible exact H2_) | with_reducible exact H | (rw [hy318]; exact H) | exact H
      have Ny318 := am hy318
      clear hy318
      obtain rfl := Option.some.inj H
      go_wp2_with (first | ((with_reducible refine gate_callee (f := 67) rfl ?_); refine gl 46 Tryd.func67 #[.int .i64 a0, .int .i64 9728, .int .i64 9753] ?_; (with_reducible refine (impl_in.calls a0 9728 9753 true _ A17.out).mono ?_); rintro e w' ⟨rfl, ⟨nd, rfl⟩⟩; refine ⟨_, rfl, ?_⟩) | ((with_reducible refine gate_dst (N := 50) rfl ?_); refine Kd.R_lit (Kd.int .i64) _ 2 ?hg (N := 50) ?hd (xs := ([wrap64 ((wrap64 (65 + a0)) - 9728)] : List Int)) (inner := [.int .i64 (wrap64 ((wrap64 (65 + a0)) - 9728))]) (ok := fun _ => True) (okp := fun _ => True) ?hr ?hp (fun _ hk => hk) trivial (Below.refl _ _) (Nat.le_refl _) (by simp) ?_; (case hd => rfl); (case hg => rfl); (case hr => first | (go_simp; done) | (go_simp; rfl)); (case hp => exact (Reps.one (show Kd.M (Kd.int .i64) _ _ _ (wrap64 ((wrap64 (65 + a0)) - 9728)) [.int .i64 (wrap64 ((wrap64 (65 + a0)) - 9728))] from rfl) (Reps.none _ _))); intro v319 w19 ho20 hb hg_ hnew_; clear hg_ hnew_; (first | rw [← Ny318.out] at ho20 | (simp only [Int.reduceToNat] at ho20; rw [← Ny318.out] at ho20)); have HO320 := am (Kd.R_lower (Kd.R_newM (M := fun k_ => (w.heap.size ≤ k_)) ho20 (below_size bB) (fun k_ h_ => h_)) (below_size bB)); replace HB := am (below_step bB hb); clear hb ho20))
      go_ret
      exact ⟨_, rv, (fun hr_ => by first | (have hr2_ := hr_; rw [Ny318.out] at hr2_; exact absurd hr2_ (by simp))), Kd.R_V (kR (Kd.R_mono HO320.out (fun _ hk => hk.1))), bB⟩
     ·replace c18 := Bool.eq_false_iff.mpr c18
      subst c18
      have H1 : ((impl_in.f a0 12288 23459).bind fun t321 => (if t321 = true then (if (Int.tmod (wrap64 (a0 - 12288)) 28) > 0 then (some (([wrap64 (a0 - (Int.tmod (wrap64 (a0 - 12288)) 28)), wrap64 (1856 + (Int.tmod (wrap64 (a0 - 12288)) 28))] : List Int))) else (some (([wrap64 (1792 + (wrap64 (Int.tdiv (wrap64 (Int.tdiv (wrap64 (a0 - 12288)) 28)) 21))), wrap64 (1824 + (Int.tmod (wrap64 (Int.tdiv (wrap64 (a0 - 12288)) 28)) 21))] : List Int)))) else (if a1 = true then ((impl_in.f a0 9984 10009).bind fun t328 => (if t328 = true then (some (([wrap64 ((wrap64 (65 + a0)) - 9984)] : List Int))) else ((impl_in.f a0 10016 10025).bind fun t332 => (if t332 = true then (some (([wrap64 ((wrap64 (48 + a0)) - 10016)] : List Int))) else (if a0 = 8064 then (impl_parts.j1 kj2 a0 true) else (impl_parts.j1 kj2 a0 (a0 == 160))))))) else (some ([] : List Int))))) = some r := by rw [if_neg (show ¬ (false = true) by decide)] at H; exact H
      clear H
      have H := H1
      clear H1
      replace H := Option.bind_eq_some_iff.mp H
      obtain ⟨t321, A210, H⟩ := H
      replace H : (if t321 = true then (if (Int.tmod (wrap64 (a0 - 12288)) 28) > 0 then (some (([wrap64 (a0 - (Int.tmod (wrap64 (a0 - 12288)) 28)), wrap64 (1856 + (Int.tmod (wrap64 (a0 - 12288)) 28))] : List Int))) else (some (([wrap64 (1792 + (wrap64 (Int.tdiv (wrap64 (Int.tdiv (wrap64 (a0 - 12288)) 28)) 21))), wrap64 (1824 + (Int.tmod (wrap64 (Int.tdiv (wrap64 (a0 - 12288)) 28)) 21))] : List Int)))) else (if a1 = true then ((impl_in.f a0 9984 10009).bind fun t328 => (if t328 = true then (some (([wrap64 ((wrap64 (65 + a0)) - 9984)] : List Int))) else ((impl_in.f a0 10016 10025).bind fun t332 => (if t332 = true then (some (([wrap64 ((wrap64 (48 + a0)) - 10016)] : List Int))) else (if a0 = 8064 then (impl_parts.j1 kj2 a0 true) else (impl_parts.j1 kj2 a0 (a0 == 160))))))) else (some ([] : List Int)))) = some r := H
      have A21 := am A210
      clear A210
      by_cases c22 : t321 = true
      ·subst c22
       have H1 : (if (Int.tmod (wrap64 (a0 - 12288)) 28) > 0 then (some (([wrap64 (a0 - (Int.tmod (wrap64 (a0 - 12288)) 28)), wrap64 (1856 + (Int.tmod (wrap64 (a0 - 12288)) 28))] : List Int))) else (some (([wrap64 (1792 + (wrap64 (Int.tdiv (wrap64 (Int.tdiv (wrap64 (a0 - 12288)) 28)) 21))), wrap64 (1824 + (Int.tmod (wrap64 (Int.tdiv (wrap64 (a0 - 12288)) 28)) 21))] : List Int)))) = some r := by rw [if_pos rfl] at H; exact H
       clear H
       have H := H1
       clear H1
       by_cases c23 : (Int.tmod (wrap64 (a0 - 12288)) 28) > 0
       ·rw [if_pos c23] at H
        have c23b0 : decide (0 < (Int.tmod (wrap64 (a0 - 12288)) 28)) = true := decide_eq_true c23
        clear c23
        obtain ⟨y322, hy322⟩ : ∃ y_ : List Int, y_ = (([wrap64 (a0 - (Int.tmod (wrap64 (a0 - 12288)) 28)), wrap64 (1856 + (Int.tmod (wrap64 (a0 - 12288)) 28))] : List Int)) := ⟨_, rfl⟩
        replace H : (some y322) = some r := by first | (rw [hy322]; with_reducible exact H) | (have H2_ := (Option.bind_some _ _).symm.trans H; rw [hy322]; with_reducible exact H2_) | (have H2_ := (Option.bind_some _ _).symm.trans H; with_reducible exact H2_) | with_reducible exact H | (rw [hy322]; exact H) | exact H
        have Ny322 := am hy322
        clear hy322
        obtain rfl := Option.some.inj H
        go_wp2_with (first | ((with_reducible refine gate_callee (f := 67) rfl ?_); refine gl 46 Tryd.func67 #[.int .i64 a0, .int .i64 9728, .int .i64 9753] ?_; (with_reducible refine (impl_in.calls a0 9728 9753 false _ A17.out).mono ?_); rintro e w' ⟨rfl, ⟨nd, rfl⟩⟩; refine ⟨_, rfl, ?_⟩) | ((with_reducible refine gate_callee (f := 67) rfl ?_); refine gl 53 Tryd.func67 #[.int .i64 a0, .int .i64 12288, .int .i64 23459] ?_; (with_reducible refine (impl_in.calls a0 12288 23459 true _ A21.out).mono ?_); rintro e w' ⟨rfl, ⟨nd, rfl⟩⟩; refine ⟨_, rfl, ?_⟩) | ((with_reducible refine gate_dst (N := 65) rfl ?_); refine Kd.R_lit (Kd.int .i64) _ 2 ?hg (N := 65) ?hd (xs := ([wrap64 (a0 - (Int.tmod (wrap64 (a0 - 12288)) 28)), wrap64 (1856 + (Int.tmod (wrap64 (a0 - 12288)) 28))] : List Int)) (inner := [.int .i64 (wrap64 (a0 - (Int.tmod (wrap64 (a0 - 12288)) 28))), .int .i64 (wrap64 (1856 + (Int.tmod (wrap64 (a0 - 12288)) 28)))]) (ok := fun _ => True) (okp := fun _ => True) ?hr ?hp (fun _ hk => hk) trivial (Below.refl _ _) (Nat.le_refl _) (by simp) ?_; (case hd => rfl); (case hg => rfl); (case hr => first | (go_simp; done) | (go_simp; rfl)); (case hp => exact (Reps.one (show Kd.M (Kd.int .i64) _ _ _ (wrap64 (a0 - (Int.tmod (wrap64 (a0 - 12288)) 28))) [.int .i64 (wrap64 (a0 - (Int.tmod (wrap64 (a0 - 12288)) 28)))] from rfl) (Reps.one (show Kd.M (Kd.int .i64) _ _ _ (wrap64 (1856 + (Int.tmod (wrap64 (a0 - 12288)) 28))) [.int .i64 (wrap64 (1856 + (Int.tmod (wrap64 (a0 - 12288)) 28)))] from rfl) (Reps.none _ _)))); intro v323 w24 ho25 hb hg_ hnew_; clear hg_ hnew_; (first | rw [← Ny322.out] at ho25 | (simp only [Int.reduceToNat] at ho25; rw [← Ny322.out] at ho25)); have HO324 := am (Kd.R_lower (Kd.R_newM (M := fun k_ => (w.heap.size ≤ k_)) ho25 (below_size bB) (fun k_ h_ => h_)) (below_size bB)); replace HB := am (below_step bB hb); clear hb ho25))
        go_ret
        exact ⟨_, rv, (fun hr_ => by first | (have hr2_ := hr_; rw [Ny322.out] at hr2_; exact absurd hr2_ (by simp))), Kd.R_V (kR (Kd.R_mono HO324.out (fun _ hk => hk.1))), bB⟩
       ·rw [if_neg c23] at H
        have c23b0 : decide (0 < (Int.tmod (wrap64 (a0 - 12288)) 28)) = false := decide_eq_false c23
        clear c23
        obtain ⟨y325, hy325⟩ : ∃ y_ : List Int, y_ = (([wrap64 (1792 + (wrap64 (Int.tdiv (wrap64 (Int.tdiv (wrap64 (a0 - 12288)) 28)) 21))), wrap64 (1824 + (Int.tmod (wrap64 (Int.tdiv (wrap64 (a0 - 12288)) 28)) 21))] : List Int)) := ⟨_, rfl⟩
        replace H : (some y325) = some r := by first | (rw [hy325]; with_reducible exact H) | (have H2_ := (Option.bind_some _ _).symm.trans H; rw [hy325]; with_reducible exact H2_) | (have H2_ := (Option.bind_some _ _).symm.trans H; with_reducible exact H2_) | with_reducible exact H | (rw [hy325]; exact H) | exact H
        have Ny325 := am hy325
        clear hy325
        obtain rfl := Option.some.inj H
        go_wp2_with (first | ((with_reducible refine gate_callee (f := 67) rfl ?_); refine gl 46 Tryd.func67 #[.int .i64 a0, .int .i64 9728, .int .i64 9753] ?_; (with_reducible refine (impl_in.calls a0 9728 9753 false _ A17.out).mono ?_); rintro e w' ⟨rfl, ⟨nd, rfl⟩⟩; refine ⟨_, rfl, ?_⟩) | ((with_reducible refine gate_callee (f := 67) rfl ?_); refine gl 53 Tryd.func67 #[.int .i64 a0, .int .i64 12288, .int .i64 23459] ?_; (with_reducible refine (impl_in.calls a0 12288 23459 true _ A21.out).mono ?_); rintro e w' ⟨rfl, ⟨nd, rfl⟩⟩; refine ⟨_, rfl, ?_⟩) | ((with_reducible refine gate_dst (N := 74) rfl ?_); refine Kd.R_lit (Kd.int .i64) _ 2 ?hg (N := 74) ?hd (xs := ([wrap64 (1792 + (wrap64 (Int.tdiv (wrap64 (Int.tdiv (wrap64 (a0 - 12288)) 28)) 21))), wrap64 (1824 + (Int.tmod (wrap64 (Int.tdiv (wrap64 (a0 - 12288)) 28)) 21))] : List Int)) (inner := [.int .i64 (wrap64 (1792 + (wrap64 (Int.tdiv (wrap64 (Int.tdiv (wrap64 (a0 - 12288)) 28)) 21)))), .int .i64 (wrap64 (1824 + (Int.tmod (wrap64 (Int.tdiv (wrap64 (a0 - 12288)) 28)) 21)))]) (ok := fun _ => True) (okp := fun _ => True) ?hr ?hp (fun _ hk => hk) trivial (Below.refl _ _) (Nat.le_refl _) (by simp) ?_; (case hd => rfl); (case hg => rfl); (case hr => first | (go_simp; done) | (go_simp; rfl)); (case hp => exact (Reps.one (show Kd.M (Kd.int .i64) _ _ _ (wrap64 (1792 + (wrap64 (Int.tdiv (wrap64 (Int.tdiv (wrap64 (a0 - 12288)) 28)) 21)))) [.int .i64 (wrap64 (1792 + (wrap64 (Int.tdiv (wrap64 (Int.tdiv (wrap64 (a0 - 12288)) 28)) 21))))] from rfl) (Reps.one (show Kd.M (Kd.int .i64) _ _ _ (wrap64 (1824 + (Int.tmod (wrap64 (Int.tdiv (wrap64 (a0 - 12288)) 28)) 21))) [.int .i64 (wrap64 (1824 + (Int.tmod (wrap64 (Int.tdiv (wrap64 (a0 - 12288)) 28)) 21)))] from rfl) (Reps.none _ _)))); intro v326 w26 ho27 hb hg_ hnew_; clear hg_ hnew_; (first | rw [← Ny325.out] at ho27 | (simp only [Int.reduceToNat] at ho27; rw [← Ny325.out] at ho27)); have HO327 := am (Kd.R_lower (Kd.R_newM (M := fun k_ => (w.heap.size ≤ k_)) ho27 (below_size bB) (fun k_ h_ => h_)) (below_size bB)); replace HB := am (below_step bB hb); clear hb ho27))
        go_ret
        exact ⟨_, rv, (fun hr_ => by first | (have hr2_ := hr_; rw [Ny325.out] at hr2_; exact absurd hr2_ (by simp))), Kd.R_V (kR (Kd.R_mono HO327.out (fun _ hk => hk.1))), bB⟩
      ·replace c22 := Bool.eq_false_iff.mpr c22
       subst c22
       have H1 : (if a1 = true then ((impl_in.f a0 9984 10009).bind fun t328 => (if t328 = true then (some (([wrap64 ((wrap64 (65 + a0)) - 9984)] : List Int))) else ((impl_in.f a0 10016 10025).bind fun t332 => (if t332 = true then (some (([wrap64 ((wrap64 (48 + a0)) - 10016)] : List Int))) else (if a0 = 8064 then (impl_parts.j1 kj2 a0 true) else (impl_parts.j1 kj2 a0 (a0 == 160))))))) else (some ([] : List Int))) = some r := by rw [if_neg (show ¬ (false = true) by decide)] at H; exact H
       clear H
       have H := H1
       clear H1
       by_cases c28 : a1 = true
       ·subst c28
        have H1 : ((impl_in.f a0 9984 10009).bind fun t328 => (if t328 = true then (some (([wrap64 ((wrap64 (65 + a0)) - 9984)] : List Int))) else ((impl_in.f a0 10016 10025).bind fun t332 => (if t332 = true then (some (([wrap64 ((wrap64 (48 + a0)) - 10016)] : List Int))) else (if a0 = 8064 then (impl_parts.j1 kj2 a0 true) else (impl_parts.j1 kj2 a0 (a0 == 160))))))) = some r := by rw [if_pos rfl] at H; exact H
        clear H
        have H := H1
        clear H1
        replace H := Option.bind_eq_some_iff.mp H
        obtain ⟨t328, A290, H⟩ := H
        replace H : (if t328 = true then (some (([wrap64 ((wrap64 (65 + a0)) - 9984)] : List Int))) else ((impl_in.f a0 10016 10025).bind fun t332 => (if t332 = true then (some (([wrap64 ((wrap64 (48 + a0)) - 10016)] : List Int))) else (if a0 = 8064 then (impl_parts.j1 kj2 a0 true) else (impl_parts.j1 kj2 a0 (a0 == 160)))))) = some r := H
        have A29 := am A290
        clear A290
        by_cases c30 : t328 = true
        ·subst c30
         have H1 : (some (([wrap64 ((wrap64 (65 + a0)) - 9984)] : List Int))) = some r := by rw [if_pos rfl] at H; exact H
         clear H
         have H := H1
         clear H1
         obtain ⟨y329, hy329⟩ : ∃ y_ : List Int, y_ = (([wrap64 ((wrap64 (65 + a0)) - 9984)] : List Int)) := ⟨_, rfl⟩
         replace H : (some y329) = some r := by first | (rw [hy329]; with_reducible exact H) | (have H2_ := (Option.bind_some _ _).symm.trans H; rw [hy329]; with_reducible exact H2_) | (have H2_ := (Option.bind_some _ _).symm.trans H; with_reducible exact H2_) | with_reducible exact H | (rw [hy329]; exact H) | exact H
         have Ny329 := am hy329
         clear hy329
         obtain rfl := Option.some.inj H
         go_wp2_with (first | ((with_reducible refine gate_callee (f := 67) rfl ?_); refine gl 46 Tryd.func67 #[.int .i64 a0, .int .i64 9728, .int .i64 9753] ?_; (with_reducible refine (impl_in.calls a0 9728 9753 false _ A17.out).mono ?_); rintro e w' ⟨rfl, ⟨nd, rfl⟩⟩; refine ⟨_, rfl, ?_⟩) | ((with_reducible refine gate_callee (f := 67) rfl ?_); refine gl 53 Tryd.func67 #[.int .i64 a0, .int .i64 12288, .int .i64 23459] ?_; (with_reducible refine (impl_in.calls a0 12288 23459 false _ A21.out).mono ?_); rintro e w' ⟨rfl, ⟨nd, rfl⟩⟩; refine ⟨_, rfl, ?_⟩) | ((with_reducible refine gate_callee (f := 67) rfl ?_); refine gl 80 Tryd.func67 #[.int .i64 a0, .int .i64 9984, .int .i64 10009] ?_; (with_reducible refine (impl_in.calls a0 9984 10009 true _ A29.out).mono ?_); rintro e w' ⟨rfl, ⟨nd, rfl⟩⟩; refine ⟨_, rfl, ?_⟩) | ((with_reducible refine gate_dst (N := 84) rfl ?_); refine Kd.R_lit (Kd.int .i64) _ 2 ?hg (N := 84) ?hd (xs := ([wrap64 ((wrap64 (65 + a0)) - 9984)] : List Int)) (inner := [.int .i64 (wrap64 ((wrap64 (65 + a0)) - 9984))]) (ok := fun _ => True) (okp := fun _ => True) ?hr ?hp (fun _ hk => hk) trivial (Below.refl _ _) (Nat.le_refl _) (by simp) ?_; (case hd => rfl); (case hg => rfl); (case hr => first | (go_simp; done) | (go_simp; rfl)); (case hp => exact (Reps.one (show Kd.M (Kd.int .i64) _ _ _ (wrap64 ((wrap64 (65 + a0)) - 9984)) [.int .i64 (wrap64 ((wrap64 (65 + a0)) - 9984))] from rfl) (Reps.none _ _))); intro v330 w31 ho32 hb hg_ hnew_; clear hg_ hnew_; (first | rw [← Ny329.out] at ho32 | (simp only [Int.reduceToNat] at ho32; rw [← Ny329.out] at ho32)); have HO331 := am (Kd.R_lower (Kd.R_newM (M := fun k_ => (w.heap.size ≤ k_)) ho32 (below_size bB) (fun k_ h_ => h_)) (below_size bB)); replace HB := am (below_step bB hb); clear hb ho32))
         go_ret
         exact ⟨_, rv, (fun hr_ => by first | (have hr2_ := hr_; rw [Ny329.out] at hr2_; exact absurd hr2_ (by simp))), Kd.R_V (kR (Kd.R_mono HO331.out (fun _ hk => hk.1))), bB⟩
        ·replace c30 := Bool.eq_false_iff.mpr c30
         subst c30
         have H1 : ((impl_in.f a0 10016 10025).bind fun t332 => (if t332 = true then (some (([wrap64 ((wrap64 (48 + a0)) - 10016)] : List Int))) else (if a0 = 8064 then (impl_parts.j1 kj2 a0 true) else (impl_parts.j1 kj2 a0 (a0 == 160))))) = some r := by rw [if_neg (show ¬ (false = true) by decide)] at H; exact H
         clear H
         have H := H1
         clear H1
         replace H := Option.bind_eq_some_iff.mp H
         obtain ⟨t332, A330, H⟩ := H
         replace H : (if t332 = true then (some (([wrap64 ((wrap64 (48 + a0)) - 10016)] : List Int))) else (if a0 = 8064 then (impl_parts.j1 kj2 a0 true) else (impl_parts.j1 kj2 a0 (a0 == 160)))) = some r := H
         have A33 := am A330
         clear A330
         by_cases c34 : t332 = true
         ·subst c34
          have H1 : (some (([wrap64 ((wrap64 (48 + a0)) - 10016)] : List Int))) = some r := by rw [if_pos rfl] at H; exact H
          clear H
          have H := H1
          clear H1
          obtain ⟨y333, hy333⟩ : ∃ y_ : List Int, y_ = (([wrap64 ((wrap64 (48 + a0)) - 10016)] : List Int)) := ⟨_, rfl⟩
          replace H : (some y333) = some r := by first | (rw [hy333]; with_reducible exact H) | (have H2_ := (Option.bind_some _ _).symm.trans H; rw [hy333]; with_reducible exact H2_) | (have H2_ := (Option.bind_some _ _).symm.trans H; with_reducible exact H2_) | with_reducible exact H | (rw [hy333]; exact H) | exact H
          have Ny333 := am hy333
          clear hy333
          obtain rfl := Option.some.inj H
          go_wp2_with (first | ((with_reducible refine gate_callee (f := 67) rfl ?_); refine gl 46 Tryd.func67 #[.int .i64 a0, .int .i64 9728, .int .i64 9753] ?_; (with_reducible refine (impl_in.calls a0 9728 9753 false _ A17.out).mono ?_); rintro e w' ⟨rfl, ⟨nd, rfl⟩⟩; refine ⟨_, rfl, ?_⟩) | ((with_reducible refine gate_callee (f := 67) rfl ?_); refine gl 53 Tryd.func67 #[.int .i64 a0, .int .i64 12288, .int .i64 23459] ?_; (with_reducible refine (impl_in.calls a0 12288 23459 false _ A21.out).mono ?_); rintro e w' ⟨rfl, ⟨nd, rfl⟩⟩; refine ⟨_, rfl, ?_⟩) | ((with_reducible refine gate_callee (f := 67) rfl ?_); refine gl 80 Tryd.func67 #[.int .i64 a0, .int .i64 9984, .int .i64 10009] ?_; (with_reducible refine (impl_in.calls a0 9984 10009 false _ A29.out).mono ?_); rintro e w' ⟨rfl, ⟨nd, rfl⟩⟩; refine ⟨_, rfl, ?_⟩) | ((with_reducible refine gate_callee (f := 67) rfl ?_); refine gl 87 Tryd.func67 #[.int .i64 a0, .int .i64 10016, .int .i64 10025] ?_; (with_reducible refine (impl_in.calls a0 10016 10025 true _ A33.out).mono ?_); rintro e w' ⟨rfl, ⟨nd, rfl⟩⟩; refine ⟨_, rfl, ?_⟩) | ((with_reducible refine gate_dst (N := 91) rfl ?_); refine Kd.R_lit (Kd.int .i64) _ 2 ?hg (N := 91) ?hd (xs := ([wrap64 ((wrap64 (48 + a0)) - 10016)] : List Int)) (inner := [.int .i64 (wrap64 ((wrap64 (48 + a0)) - 10016))]) (ok := fun _ => True) (okp := fun _ => True) ?hr ?hp (fun _ hk => hk) trivial (Below.refl _ _) (Nat.le_refl _) (by simp) ?_; (case hd => rfl); (case hg => rfl); (case hr => first | (go_simp; done) | (go_simp; rfl)); (case hp => exact (Reps.one (show Kd.M (Kd.int .i64) _ _ _ (wrap64 ((wrap64 (48 + a0)) - 10016)) [.int .i64 (wrap64 ((wrap64 (48 + a0)) - 10016))] from rfl) (Reps.none _ _))); intro v334 w35 ho36 hb hg_ hnew_; clear hg_ hnew_; (first | rw [← Ny333.out] at ho36 | (simp only [Int.reduceToNat] at ho36; rw [← Ny333.out] at ho36)); have HO335 := am (Kd.R_lower (Kd.R_newM (M := fun k_ => (w.heap.size ≤ k_)) ho36 (below_size bB) (fun k_ h_ => h_)) (below_size bB)); replace HB := am (below_step bB hb); clear hb ho36))
          go_ret
          exact ⟨_, rv, (fun hr_ => by first | (have hr2_ := hr_; rw [Ny333.out] at hr2_; exact absurd hr2_ (by simp))), Kd.R_V (kR (Kd.R_mono HO335.out (fun _ hk => hk.1))), bB⟩
         ·replace c34 := Bool.eq_false_iff.mpr c34
          subst c34
          have H1 : (if a0 = 8064 then (impl_parts.j1 kj2 a0 true) else (impl_parts.j1 kj2 a0 (a0 == 160))) = some r := by rw [if_neg (show ¬ (false = true) by decide)] at H; exact H
          clear H
          have H := H1
          clear H1
          have HC37 := am H
          clear H
          go_upto_region 22 with (first | ((with_reducible refine gate_callee (f := 67) rfl ?_); refine gl 46 Tryd.func67 #[.int .i64 a0, .int .i64 9728, .int .i64 9753] ?_; (with_reducible refine (impl_in.calls a0 9728 9753 false _ A17.out).mono ?_); rintro e w' ⟨rfl, ⟨nd, rfl⟩⟩; refine ⟨_, rfl, ?_⟩) | ((with_reducible refine gate_callee (f := 67) rfl ?_); refine gl 53 Tryd.func67 #[.int .i64 a0, .int .i64 12288, .int .i64 23459] ?_; (with_reducible refine (impl_in.calls a0 12288 23459 false _ A21.out).mono ?_); rintro e w' ⟨rfl, ⟨nd, rfl⟩⟩; refine ⟨_, rfl, ?_⟩) | ((with_reducible refine gate_callee (f := 67) rfl ?_); refine gl 80 Tryd.func67 #[.int .i64 a0, .int .i64 9984, .int .i64 10009] ?_; (with_reducible refine (impl_in.calls a0 9984 10009 false _ A29.out).mono ?_); rintro e w' ⟨rfl, ⟨nd, rfl⟩⟩; refine ⟨_, rfl, ?_⟩) | ((with_reducible refine gate_callee (f := 67) rfl ?_); refine gl 87 Tryd.func67 #[.int .i64 a0, .int .i64 10016, .int .i64 10025] ?_; (with_reducible refine (impl_in.calls a0 10016 10025 false _ A33.out).mono ?_); rintro e w' ⟨rfl, ⟨nd, rfl⟩⟩; refine ⟨_, rfl, ?_⟩))
          (try simp only [Act.put, List.setIfInBounds_toArray, List.set_cons_zero, List.set_cons_succ])
          go_cut [92] (fun v92 wc => ∃ (kq : Nat) (x92_36 : Bool), v92 = .bool x92_36 ∧ Aside0 (impl_parts.j1 kq a0 x92_36 = some r) ∧ Aside0 (kq ≤ kj2) ∧ Aside0 (Below w.heap.size w wc))
          case first =>
           as_aux_lemma =>
            have H := HC37.out
            clear HC37
            by_cases c38 : a0 = 8064
            ·rw [if_pos c38] at H
             have c38b0 : (a0 == 8064) = true := beq_iff_eq.mpr c38
             have c38b1 : (a0 != 8064) = false := bne_eq_false_iff_eq.mpr c38
             clear c38
             (first | rw [c38b0] | (simp only [i64_w, i32_w]; rw [c38b0]) | skip)
             have H' := am H
             clear H
             go_wp2
             go_meet
             case rel => exact ⟨_, (true), (by first | rfl | (simp; done) | (simp [*]; done)), H', ⟨by have := HJ2.out; first | omega | exact Nat.le_refl _⟩, ⟨bB⟩⟩
            ·rw [if_neg c38] at H
             have c38b0 : (a0 == 8064) = false := beq_eq_false_iff_ne.mpr c38
             have c38b1 : (a0 != 8064) = true := bne_iff_ne.mpr c38
             (first | rw [c38b0] | (simp only [i64_w, i32_w]; rw [c38b0]) | skip)
             have H' := am H
             clear H
             go_wp2
             go_meet
             case rel => exact ⟨_, ((a0 == 160)), (by first | rfl | (simp; done) | (simp [*]; done)), H', ⟨by have := HJ2.out; first | omega | exact Nat.le_refl _⟩, ⟨bB⟩⟩
          case rest =>
           as_aux_lemma =>
            clear HC37
            try clear c1
            try clear c2
            try clear p2
            try clear c3
            try clear c5
            try clear c6
            try clear p6
            try clear c7
            try clear c7b0
            try clear c7b1
            try clear c9
            try clear c10
            try clear c11
            try clear c11b0
            try clear c11b1
            try clear c18
            try clear c22
            try clear c23
            try clear c23b0
            try clear c28
            try clear c30
            try clear c34
            try clear c38
            try clear c38b0
            try clear c38b1
            try clear p2
            obtain ⟨kq, x92_36, rfl, HA, HJ36, HB⟩ := hcut
            cases kq with
            | zero => exact absurd HA.out (by simp [impl_parts.j1])
            | succ kj36 =>
             have H := HA.out
             clear HA
             simp only [impl_parts.j1] at H
             by_cases c39 : x92_36 = true
             ·subst c39
              have H1 : (some (([32] : List Int))) = some r := by rw [if_pos rfl] at H; exact H
              clear H
              have H := H1
              clear H1
              obtain ⟨y336, hy336⟩ : ∃ y_ : List Int, y_ = (([32] : List Int)) := ⟨_, rfl⟩
              replace H : (some y336) = some r := by first | (rw [hy336]; with_reducible exact H) | (have H2_ := (Option.bind_some _ _).symm.trans H; rw [hy336]; with_reducible exact H2_) | (have H2_ := (Option.bind_some _ _).symm.trans H; with_reducible exact H2_) | with_reducible exact H | (rw [hy336]; exact H) | exact H
              have Ny336 := am hy336
              clear hy336
              obtain rfl := Option.some.inj H
              go_wp2_with (first | ((with_reducible refine gate_dst (N := 99) rfl ?_); refine Kd.R_lit (Kd.int .i64) _ 2 ?hg (N := 99) ?hd (xs := ([32] : List Int)) (inner := [.int .i64 32]) (ok := fun _ => True) (okp := fun _ => True) ?hr ?hp (fun _ hk => hk) trivial (Below.refl _ _) (Nat.le_refl _) (by simp) ?_; (case hd => rfl); (case hg => rfl); (case hr => first | (go_simp; done) | (go_simp; rfl)); (case hp => exact (Reps.one (show Kd.M (Kd.int .i64) _ _ _ 32 [.int .i64 32] from rfl) (Reps.none _ _))); intro v337 w40 ho41 hb hg_ hnew_; clear hg_ hnew_; (first | rw [← Ny336.out] at ho41 | (simp only [Int.reduceToNat] at ho41; rw [← Ny336.out] at ho41)); have HO338 := am (Kd.R_lower (Kd.R_newM (M := fun k_ => (w.heap.size ≤ k_)) ho41 (below_size bB) (fun k_ h_ => h_)) (below_size bB)); replace HB := am (below_step bB hb); clear hb ho41))
              go_ret
              exact ⟨_, rv, (fun hr_ => by first | (have hr2_ := hr_; rw [Ny336.out] at hr2_; exact absurd hr2_ (by simp))), Kd.R_V (kR (Kd.R_mono HO338.out (fun _ hk => hk.1))), bB⟩
             ·replace c39 := Bool.eq_false_iff.mpr c39
              subst c39
              have H1 : ((impl_in.f a0 10032 10035).bind fun t339 => (if t339 = true then ((some (([(([102, 102] : List Int)), (([102, 105] : List Int)), (([102, 108] : List Int)), (([115, 116] : List Int))] : List (List Int)) : List (List Int))).bind fun y352 => (if 0 ≤ (wrap64 (a0 - 10032)) then (if (wrap64 (a0 - 10032)) < (y352.length : Int) then (some (rd_L9 y352 (wrap64 (a0 - 10032)))) else (none)) else (none))) else (some ([] : List Int)))) = some r := by rw [if_neg (show ¬ (false = true) by decide)] at H; exact H
              clear H
              have H := H1
              clear H1
              replace H := Option.bind_eq_some_iff.mp H
              obtain ⟨t339, A420, H⟩ := H
              replace H : (if t339 = true then ((some (([(([102, 102] : List Int)), (([102, 105] : List Int)), (([102, 108] : List Int)), (([115, 116] : List Int))] : List (List Int)) : List (List Int))).bind fun y352 => (if 0 ≤ (wrap64 (a0 - 10032)) then (if (wrap64 (a0 - 10032)) < (y352.length : Int) then (some (rd_L9 y352 (wrap64 (a0 - 10032)))) else (none)) else (none))) else (some ([] : List Int))) = some r := H
              have A42 := am A420
              clear A420
              by_cases c43 : t339 = true
              ·subst c43
               have H1 : ((some (([(([102, 102] : List Int)), (([102, 105] : List Int)), (([102, 108] : List Int)), (([115, 116] : List Int))] : List (List Int)) : List (List Int))).bind fun y352 => (if 0 ≤ (wrap64 (a0 - 10032)) then (if (wrap64 (a0 - 10032)) < (y352.length : Int) then (some (rd_L9 y352 (wrap64 (a0 - 10032)))) else (none)) else (none))) = some r := by rw [if_pos rfl] at H; exact H
               clear H
               have H := H1
               clear H1
               obtain ⟨y340, hy340⟩ : ∃ y_ : List Int, y_ = (([102, 102] : List Int)) := ⟨_, rfl⟩
               replace H : ((some (([y340, (([102, 105] : List Int)), (([102, 108] : List Int)), (([115, 116] : List Int))] : List (List Int)) : List (List Int))).bind fun y352 => (if 0 ≤ (wrap64 (a0 - 10032)) then (if (wrap64 (a0 - 10032)) < (y352.length : Int) then (some (rd_L9 y352 (wrap64 (a0 - 10032)))) else (none)) else (none))) = some r := by first | (rw [hy340]; with_reducible exact H) | (have H2_ := (Option.bind_some _ _).symm.trans H; rw [hy340]; with_reducible exact H2_) | (have H2_ := (Option.bind_some _ _).symm.trans H; with_reducible exact H2_) | with_reducible exact H | (rw [hy340]; exact H) | exact H
               have Ny340 := am hy340
               clear hy340
               obtain ⟨y343, hy343⟩ : ∃ y_ : List Int, y_ = (([102, 105] : List Int)) := ⟨_, rfl⟩
               replace H : ((some (([y340, y343, (([102, 108] : List Int)), (([115, 116] : List Int))] : List (List Int)) : List (List Int))).bind fun y352 => (if 0 ≤ (wrap64 (a0 - 10032)) then (if (wrap64 (a0 - 10032)) < (y352.length : Int) then (some (rd_L9 y352 (wrap64 (a0 - 10032)))) else (none)) else (none))) = some r := by first | (rw [hy343]; with_reducible exact H) | (have H2_ := (Option.bind_some _ _).symm.trans H; rw [hy343]; with_reducible exact H2_) | (have H2_ := (Option.bind_some _ _).symm.trans H; with_reducible exact H2_) | with_reducible exact H | (rw [hy343]; exact H) | exact H
               have Ny343 := am hy343
               clear hy343
               obtain ⟨y346, hy346⟩ : ∃ y_ : List Int, y_ = (([102, 108] : List Int)) := ⟨_, rfl⟩
               replace H : ((some (([y340, y343, y346, (([115, 116] : List Int))] : List (List Int)) : List (List Int))).bind fun y352 => (if 0 ≤ (wrap64 (a0 - 10032)) then (if (wrap64 (a0 - 10032)) < (y352.length : Int) then (some (rd_L9 y352 (wrap64 (a0 - 10032)))) else (none)) else (none))) = some r := by first | (rw [hy346]; with_reducible exact H) | (have H2_ := (Option.bind_some _ _).symm.trans H; rw [hy346]; with_reducible exact H2_) | (have H2_ := (Option.bind_some _ _).symm.trans H; with_reducible exact H2_) | with_reducible exact H | (rw [hy346]; exact H) | exact H
               have Ny346 := am hy346
               clear hy346
               obtain ⟨y349, hy349⟩ : ∃ y_ : List Int, y_ = (([115, 116] : List Int)) := ⟨_, rfl⟩
               replace H : ((some (([y340, y343, y346, y349] : List (List Int)) : List (List Int))).bind fun y352 => (if 0 ≤ (wrap64 (a0 - 10032)) then (if (wrap64 (a0 - 10032)) < (y352.length : Int) then (some (rd_L9 y352 (wrap64 (a0 - 10032)))) else (none)) else (none))) = some r := by first | (rw [hy349]; with_reducible exact H) | (have H2_ := (Option.bind_some _ _).symm.trans H; rw [hy349]; with_reducible exact H2_) | (have H2_ := (Option.bind_some _ _).symm.trans H; with_reducible exact H2_) | with_reducible exact H | (rw [hy349]; exact H) | exact H
               have Ny349 := am hy349
               clear hy349
               obtain ⟨y352, hy352⟩ : ∃ y_ : List (List Int), y_ = (([y340, y343, y346, y349] : List (List Int))) := ⟨_, rfl⟩
               replace H : (if 0 ≤ (wrap64 (a0 - 10032)) then (if (wrap64 (a0 - 10032)) < (y352.length : Int) then (some (rd_L9 y352 (wrap64 (a0 - 10032)))) else (none)) else (none)) = some r := by first | (rw [hy352]; with_reducible exact H) | (have H2_ := (Option.bind_some _ _).symm.trans H; rw [hy352]; with_reducible exact H2_) | (have H2_ := (Option.bind_some _ _).symm.trans H; with_reducible exact H2_) | with_reducible exact H | (rw [hy352]; exact H) | exact H
               have Ny352 := am hy352
               clear hy352
               obtain ⟨ji44, hji44⟩ : ∃ j_ : Int, (wrap64 (a0 - 10032)) = j_ := ⟨_, rfl⟩
               replace H : (if 0 ≤ (ji44) then (if (ji44) < (y352.length : Int) then (some (rd_L9 y352 (ji44))) else (none)) else (none)) = some r := by first | (rw [hji44] at H; exact H) | (simp only [hji44] at H ⊢; exact H)
               (try rw [hji44] at A42)
               have hji44w : (IntKind.i64.wrap (a0 - 10032)) = ji44 := (i64_w _).trans hji44
               by_cases c45 : 0 ≤ (ji44)
               ·rw [if_pos c45] at H
                have c45b0 : decide (0 ≤ (ji44)) = true := decide_eq_true c45
                clear c45
                by_cases c46 : (ji44) < (y352.length : Int)
                ·rw [if_pos c46] at H
                 have c46b0 : decide ((ji44) < (y352.length : Int)) = true := decide_eq_true c46
                 clear c46
                 obtain rfl := Option.some.inj H
                 go_wp2_with (first | ((with_reducible refine gate_callee (f := 67) rfl ?_); refine gl 102 Tryd.func67 #[.int .i64 a0, .int .i64 10032, .int .i64 10035] ?_; (with_reducible refine (impl_in.calls a0 10032 10035 true _ A42.out).mono ?_); rintro e w' ⟨rfl, ⟨nd, rfl⟩⟩; refine ⟨_, rfl, ?_⟩) | ((with_reducible refine gate_dst (N := 103) rfl ?_); refine Kd.R_lit (Kd.int .i64) _ 2 ?hg (N := 103) ?hd (xs := ([102, 102] : List Int)) (inner := [.int .i64 102, .int .i64 102]) (ok := fun _ => True) (okp := fun _ => True) ?hr ?hp (fun _ hk => hk) trivial (Below.refl _ _) (Nat.le_refl _) (by simp) ?_; (case hd => rfl); (case hg => rfl); (case hr => first | (go_simp; done) | (go_simp; rfl)); (case hp => exact (Reps.one (show Kd.M (Kd.int .i64) _ _ _ 102 [.int .i64 102] from rfl) (Reps.one (show Kd.M (Kd.int .i64) _ _ _ 102 [.int .i64 102] from rfl) (Reps.none _ _)))); intro v341 w47 ho48 hb hg_ hnew_; clear hg_ hnew_; (first | rw [← Ny340.out] at ho48 | (simp only [Int.reduceToNat] at ho48; rw [← Ny340.out] at ho48)); have HO342 := am (Kd.R_lower (Kd.R_newM (M := fun k_ => (w.heap.size ≤ k_)) ho48 (below_size bB) (fun k_ h_ => h_)) (below_size bB)); replace HB := am (below_step bB hb); clear hb ho48) | ((with_reducible refine gate_dst (N := 104) rfl ?_); refine Kd.R_lit (Kd.int .i64) _ 2 ?hg (N := 104) ?hd (xs := ([102, 105] : List Int)) (inner := [.int .i64 102, .int .i64 105]) (ok := fun _ => True) (okp := fun _ => True) ?hr ?hp (fun _ hk => hk) trivial (Below.refl _ _) (Nat.le_refl _) (by simp) ?_; (case hd => rfl); (case hg => rfl); (case hr => first | (go_simp; done) | (go_simp; rfl)); (case hp => exact (Reps.one (show Kd.M (Kd.int .i64) _ _ _ 102 [.int .i64 102] from rfl) (Reps.one (show Kd.M (Kd.int .i64) _ _ _ 105 [.int .i64 105] from rfl) (Reps.none _ _)))); intro v344 w49 ho50 hb hg_ hnew_; clear hg_ hnew_; (first | rw [← Ny343.out] at ho50 | (simp only [Int.reduceToNat] at ho50; rw [← Ny343.out] at ho50)); have HO345 := am (Kd.R_lower (Kd.R_new' (Kd.R_newM (M := fun k_ => (w.heap.size ≤ k_)) ho50 (below_size bB) (fun k_ h_ => h_)) (Kd.R_lt (kR HO342.out))) (below_size bB)); replace HO342 := am (Kd.R_elder' (kR HO342.out) (Kd.R_base ho50) hb); replace HB := am (below_step bB hb); clear hb ho50) | ((with_reducible refine gate_dst (N := 105) rfl ?_); refine Kd.R_lit (Kd.int .i64) _ 2 ?hg (N := 105) ?hd (xs := ([102, 108] : List Int)) (inner := [.int .i64 102, .int .i64 108]) (ok := fun _ => True) (okp := fun _ => True) ?hr ?hp (fun _ hk => hk) trivial (Below.refl _ _) (Nat.le_refl _) (by simp) ?_; (case hd => rfl); (case hg => rfl); (case hr => first | (go_simp; done) | (go_simp; rfl)); (case hp => exact (Reps.one (show Kd.M (Kd.int .i64) _ _ _ 102 [.int .i64 102] from rfl) (Reps.one (show Kd.M (Kd.int .i64) _ _ _ 108 [.int .i64 108] from rfl) (Reps.none _ _)))); intro v347 w51 ho52 hb hg_ hnew_; clear hg_ hnew_; (first | rw [← Ny346.out] at ho52 | (simp only [Int.reduceToNat] at ho52; rw [← Ny346.out] at ho52)); have HO348 := am (Kd.R_lower (Kd.R_new' (Kd.R_new' (Kd.R_newM (M := fun k_ => (w.heap.size ≤ k_)) ho52 (below_size bB) (fun k_ h_ => h_)) (Kd.R_lt (kR HO342.out))) (Kd.R_lt (kR HO345.out))) (below_size bB)); replace HO342 := am (Kd.R_elder' (kR HO342.out) (Kd.R_base ho52) hb); replace HO345 := am (Kd.R_elder' (kR HO345.out) (Kd.R_base ho52) hb); replace HB := am (below_step bB hb); clear hb ho52) | ((with_reducible refine gate_dst (N := 106) rfl ?_); refine Kd.R_lit (Kd.int .i64) _ 2 ?hg (N := 106) ?hd (xs := ([115, 116] : List Int)) (inner := [.int .i64 115, .int .i64 116]) (ok := fun _ => True) (okp := fun _ => True) ?hr ?hp (fun _ hk => hk) trivial (Below.refl _ _) (Nat.le_refl _) (by simp) ?_; (case hd => rfl); (case hg => rfl); (case hr => first | (go_simp; done) | (go_simp; rfl)); (case hp => exact (Reps.one (show Kd.M (Kd.int .i64) _ _ _ 115 [.int .i64 115] from rfl) (Reps.one (show Kd.M (Kd.int .i64) _ _ _ 116 [.int .i64 116] from rfl) (Reps.none _ _)))); intro v350 w53 ho54 hb hg_ hnew_; clear hg_ hnew_; (first | rw [← Ny349.out] at ho54 | (simp only [Int.reduceToNat] at ho54; rw [← Ny349.out] at ho54)); have HO351 := am (Kd.R_lower (Kd.R_new' (Kd.R_new' (Kd.R_new' (Kd.R_newM (M := fun k_ => (w.heap.size ≤ k_)) ho54 (below_size bB) (fun k_ h_ => h_)) (Kd.R_lt (kR HO342.out))) (Kd.R_lt (kR HO345.out))) (Kd.R_lt (kR HO348.out))) (below_size bB)); replace HO342 := am (Kd.R_elder' (kR HO342.out) (Kd.R_base ho54) hb); replace HO345 := am (Kd.R_elder' (kR HO345.out) (Kd.R_base ho54) hb); replace HO348 := am (Kd.R_elder' (kR HO348.out) (Kd.R_base ho54) hb); replace HB := am (below_step bB hb); clear hb ho54; obtain ⟨Ao55, co55, eo55⟩ := Kd.R_slice HO342.out; subst eo55; obtain ⟨Ao56, co56, eo56⟩ := Kd.R_slice HO345.out; subst eo56; obtain ⟨Ao57, co57, eo57⟩ := Kd.R_slice HO348.out; subst eo57; obtain ⟨Ao58, co58, eo58⟩ := Kd.R_slice HO351.out; subst eo58) | ((with_reducible refine gate_dst (N := 107) rfl ?_); refine Kd.N_lit (Kd.slice 2 (Kd.int .i64)) _ 58 ?hg (N' := 107) ?hd (xs := ([y340, y343, y346, y349] : List (List Int))) (inner := [.slice Ao55 y340.length co55, .slice Ao56 y343.length co56, .slice Ao57 y346.length co57, .slice Ao58 y349.length co58]) (ok := (fun k_ => (w.heap.size ≤ k_))) (okp := (fun k_ => (w.heap.size ≤ k_))) ?hr ?hp (fun _ hk => hk) ((show ∀ k_, w53.heap.size ≤ k_ → (fun k_ => (w.heap.size ≤ k_)) k_ from fun k_ hk => (Nat.le_trans (below_size bB) hk)) _ (Nat.le_refl _)) (Below.refl _ _) (Nat.le_refl _) (by simp) ?_; (case hd => rfl); (case hg => rfl); (case hr => first | (go_simp; done) | (go_simp; rfl)); (case hp => exact (Reps.one (show Kd.FK (Kd.slice 2 (Kd.int .i64)) _ _ y340 [.slice Ao55 y340.length co55] from (Kd.FK_slice_mk (Kd.R_reads' (Kd.R_mono (ok' := (fun k_ => (w.heap.size ≤ k_))) (HO342.out) (fun k_ hk => hk.1.1.1.1))).2.1 (Kd.R_F (Kd.R_mono (ok' := (fun k_ => (w.heap.size ≤ k_))) (HO342.out) (fun k_ hk => hk.1.1.1.1))))) (Reps.one (show Kd.FK (Kd.slice 2 (Kd.int .i64)) _ _ y343 [.slice Ao56 y343.length co56] from (Kd.FK_slice_mk (Kd.R_reads' (Kd.R_mono (ok' := (fun k_ => (w.heap.size ≤ k_))) (HO345.out) (fun k_ hk => hk.1.1.1.1))).2.1 (Kd.R_F (Kd.R_mono (ok' := (fun k_ => (w.heap.size ≤ k_))) (HO345.out) (fun k_ hk => hk.1.1.1.1))))) (Reps.one (show Kd.FK (Kd.slice 2 (Kd.int .i64)) _ _ y346 [.slice Ao57 y346.length co57] from (Kd.FK_slice_mk (Kd.R_reads' (Kd.R_mono (ok' := (fun k_ => (w.heap.size ≤ k_))) (HO348.out) (fun k_ hk => hk.1.1.1.1))).2.1 (Kd.R_F (Kd.R_mono (ok' := (fun k_ => (w.heap.size ≤ k_))) (HO348.out) (fun k_ hk => hk.1.1.1.1))))) (Reps.one (show Kd.FK (Kd.slice 2 (Kd.int .i64)) _ _ y349 [.slice Ao58 y349.length co58] from (Kd.FK_slice_mk (Kd.R_reads' (Kd.R_mono (ok' := (fun k_ => (w.heap.size ≤ k_))) (HO351.out) (fun k_ hk => hk.1.1.1.1))).2.1 (Kd.R_F (Kd.R_mono (ok' := (fun k_ => (w.heap.size ≤ k_))) (HO351.out) (fun k_ hk => hk.1.1.1.1))))) (Reps.none _ _)))))); intro v353 w59 ho60 hb hg_ hnew_; clear hg_ hnew_; (first | rw [← Ny352.out] at ho60 | (simp only [Int.reduceToNat] at ho60; rw [← Ny352.out] at ho60)); have HO354 := am (Kd.N_lower ho60 (below_size bB)); replace HB := am (below_step bB hb); clear HO342 HO345 HO348 HO351; clear hb ho60; obtain ⟨Ao61, co61, eo61⟩ := Kd.N_slice HO354.out; subst eo61; have p355 : 0 ≤ ((ji44) : Int) := od; have q355 : (ji44) < (y352.length : Int) := od; obtain ⟨ad355, A355_0, c355_0, e355, hx355_0, hl355_0, hi355_0⟩ := at_L9 (Kd.N_reads' HO354.out).2.2 (ji44) p355 q355; cases e355; obtain ⟨ce355, hce355, hMe355, hcc355⟩ := Kd.N_get HO354.out [] (ji44) p355 (by first | exact q355 | exact od | (have e_ := (Kd.N_reads' HO354.out).1; omega)); obtain ⟨ua355_0, uc355_0, rfl, ul355_0, ge355_0⟩ := Kd.FK_slice_open hMe355; have hv355_0 := hcc355 0 _ rfl; rw [Nat.add_zero, show ((Kd.slice 2 (Kd.int .i64))).sz = 1 from rfl, Nat.mul_one] at hv355_0; replace hv355_0 := Option.some.inj (hv355_0.symm.trans hx355_0); injection hv355_0 with hva_ hvn_ hvc_; rw [hva_] at ge355_0; rw [hvc_] at ul355_0; have HL355_0 := am (show Kd.V (Kd.int .i64) 2 _ w.heap.size _ _ (rd_L9 y352 (ji44)) from Kd.V_mk ul355_0 ge355_0); clear hva_ hvn_ hvc_ ge355_0 ul355_0; clear hcc355 hce355; have HR355_0 := am hi355_0; have HC355_0 := am hl355_0; clear hi355_0 hl355_0; replace p355 := eq_true p355; replace q355 := eq_true q355))
                 go_ret
                 exact ⟨_, by first | rfl | (simp [errW_none, errW_some] <;> rfl) | (simp only [← hji44]; first | rfl | (simp [errW_none, errW_some] <;> rfl)) | (simp [*, errW_none, errW_some] <;> rfl), (fun hr_ => by first | (exact absurd hr_ (rd4_ne (by rw [Ny352.out, Ny340.out, Ny343.out, Ny346.out, Ny349.out]) (of_decide_eq_true (by assumption)) (of_decide_eq_true (by assumption)))) | (have hr2_ := hr_; rw [Ny352.out] at hr2_; exact absurd hr2_ (by simp))), by (with_reducible repeat (first | apply Kd.V_alloc | apply Kd.V_drewN | apply Kd.V_drew)); exact Kd.V_mono HL355_0.out (fun _ hk => hk.1), bB⟩
                ·rw [if_neg c46] at H
                 exact absurd H (by simp)
               ·rw [if_neg c45] at H
                exact absurd H (by simp)
              ·replace c43 := Bool.eq_false_iff.mpr c43
               subst c43
               have H1 : (some ([] : List Int)) = some r := by rw [if_neg (show ¬ (false = true) by decide)] at H; exact H
               clear H
               have H := H1
               clear H1
               obtain rfl := Option.some.inj H
               go_wp2_with (first | ((with_reducible refine gate_callee (f := 67) rfl ?_); refine gl 102 Tryd.func67 #[.int .i64 a0, .int .i64 10032, .int .i64 10035] ?_; (with_reducible refine (impl_in.calls a0 10032 10035 false _ A42.out).mono ?_); rintro e w' ⟨rfl, ⟨nd, rfl⟩⟩; refine ⟨_, rfl, ?_⟩))
               go_ret
               exact ⟨.slice none 0 0, rv, (by intros; rfl), Kd.R_V (Kd.R_nil _ _ _ w.heap.size _), bB⟩
       ·replace c28 := Bool.eq_false_iff.mpr c28
        subst c28
        have H1 : (some ([] : List Int)) = some r := by rw [if_neg (show ¬ (false = true) by decide)] at H; exact H
        clear H
        have H := H1
        clear H1
        obtain rfl := Option.some.inj H
        go_wp2_with (first | ((with_reducible refine gate_callee (f := 67) rfl ?_); refine gl 46 Tryd.func67 #[.int .i64 a0, .int .i64 9728, .int .i64 9753] ?_; (with_reducible refine (impl_in.calls a0 9728 9753 false _ A17.out).mono ?_); rintro e w' ⟨rfl, ⟨nd, rfl⟩⟩; refine ⟨_, rfl, ?_⟩) | ((with_reducible refine gate_callee (f := 67) rfl ?_); refine gl 53 Tryd.func67 #[.int .i64 a0, .int .i64 12288, .int .i64 23459] ?_; (with_reducible refine (impl_in.calls a0 12288 23459 false _ A21.out).mono ?_); rintro e w' ⟨rfl, ⟨nd, rfl⟩⟩; refine ⟨_, rfl, ?_⟩))
        go_ret
        exact ⟨.slice none 0 0, rv, (by intros; rfl), Kd.R_V (Kd.R_nil _ _ _ w.heap.size _), bB⟩
mutual
def impl_decompose.l0 : Nat → Bool → List Int → List Int → Int → Int → Option (List Int)
 | 0, _, _, _, _, _ => none
 | k + 1, x1, x6, x16, x17, x18 => if x18 < x17 then (if 0 ≤ x18 then (if x18 < (x16.length : Int) then ((impl_decompose.f k (rd x16 x18) x1).bind fun t363 => (if x6.length + t363.length < 17592186044416 then (impl_decompose.l0 k x1 (x6 ++ t363) x16 x17 (wrap64 (x18 + 1))) else (none))) else (none)) else (none)) else (some x6)
def impl_decompose.f : Nat → Int → Bool → Option (List Int)
 | 0, _, _ => none
 | k + 1, a0, a1 => (impl_parts.f k a0 a1).bind fun t356 => (if (t356.length : Int) = 0 then (some (([a0] : List Int))) else (impl_decompose.l0 k a1 ([] : List Int) t356 (t356.length : Int) 0))
end
set_option maxHeartbeats 8000000 in
set_option maxRecDepth 100000 in
theorem impl_decompose.calls (k : Nat) : ∀ (a0 : Int) (a1 : Bool) (r : List Int) (w : World) (h : impl_decompose.f k a0 a1 = some r),
  Calls Tryd.prog 77 #[.int .i64 a0, .bool a1] w fun e w' => ∃ v0_ : Value, e = .returned (v0_) ∧ Kd.R (Kd.int .i64) 2 w' w.heap.size (fun _ => True) v0_ r ∧ Below w.heap.size w w' := by
 induction k using Nat.strongRecOn with
 | _ k ih =>
 intro a0 a1 r w h
 cases k with
 | zero => exact absurd h (by simp [impl_decompose.f])
 | succ k =>
 simp only [impl_decompose.f] at h
 have HB := am (Below.refl w.heap.size w)
 have H : ((impl_parts.f k a0 a1).bind fun t356 => (if (t356.length : Int) = 0 then (some (([a0] : List Int))) else (impl_decompose.l0 k a1 ([] : List Int) t356 (t356.length : Int) 0))) = some r := h
 clear h
 replace H := Option.bind_eq_some_iff.mp H
 obtain ⟨t356, A30, H⟩ := H
 replace H : (if (t356.length : Int) = 0 then (some (([a0] : List Int))) else (impl_decompose.l0 k a1 ([] : List Int) t356 (t356.length : Int) 0)) = some r := H
 have A3 := am A30
 clear A30
 by_cases c4 : (t356.length : Int) = 0
 ·rw [if_pos c4] at H
  have c4b0 : ((t356.length : Int) == 0) = true := beq_iff_eq.mpr c4
  have c4b1 : ((t356.length : Int) != 0) = false := bne_eq_false_iff_eq.mpr c4
  clear c4
  obtain ⟨y359, hy359⟩ : ∃ y_ : List Int, y_ = (([a0] : List Int)) := ⟨_, rfl⟩
  replace H : (some y359) = some r := by first | (rw [hy359]; with_reducible exact H) | (have H2_ := (Option.bind_some _ _).symm.trans H; rw [hy359]; with_reducible exact H2_) | (have H2_ := (Option.bind_some _ _).symm.trans H; with_reducible exact H2_) | with_reducible exact H | (rw [hy359]; exact H) | exact H
  have Ny359 := am hy359
  clear hy359
  obtain rfl := Option.some.inj H
  have qT_ : ∀ (w : World) (a : Option Addr) (n c : Nat), (binOp .eql 58 (.slice a n c) (.slice none 0 0)).run Tryd.prog w = .ok (.bool a.isNone) w := fun w a n c => Lib.run_eql_slice_nil w _ _ a n c 0 0 Tryd.underlying58
  go_enter Tryd.func77, Tryd.ntmps77
  go_wp2_with (first | ((with_reducible refine gate_callee (f := 90) rfl ?_); refine gl 11 Tryd.func90 #[.int .i64 a0, .bool a1] ?_; (with_reducible refine (impl_parts.calls_nil k a0 a1 t356 _ A3.out).mono ?_); rintro e w5 ⟨v357, rfl, hnil_, ho0, hb⟩; have hv_ := hnil_ (List.eq_nil_of_length_eq_zero (by have := eq_of_beq c4b0; omega)); subst hv_; clear hnil_; refine ⟨_, rfl, ?_⟩; have HO358 := am (Kd.V_lower (Kd.V_mono (ok' := fun k_ => True) ho0 (fun k_ hk_ => trivial)) (below_size bB)); replace HB := am (below_step bB hb); (try clear hb); (try clear hb2); (try clear hk); (try clear hi); (try clear ho0)) | ((with_reducible refine gate_dst (N := 15) rfl ?_); refine Kd.R_lit (Kd.int .i64) _ 2 ?hg (N := 15) ?hd (xs := ([a0] : List Int)) (inner := [.int .i64 a0]) (ok := fun _ => True) (okp := fun _ => True) ?hr ?hp (fun _ hk => hk) trivial (Below.refl _ _) (Nat.le_refl _) (by simp) ?_; (case hd => rfl); (case hg => rfl); (case hr => first | (go_simp; done) | (go_simp; rfl)); (case hp => exact (Reps.one (show Kd.M (Kd.int .i64) _ _ _ a0 [.int .i64 a0] from rfl) (Reps.none _ _))); intro v360 w7 ho8 hb hg_ hnew_; clear hg_ hnew_; (first | rw [← Ny359.out] at ho8 | (simp only [Int.reduceToNat] at ho8; rw [← Ny359.out] at ho8)); replace HO358 := am (Kd.V_elder' (by (with_reducible repeat (first | apply Kd.V_alloc | apply Kd.V_drewN | apply Kd.V_drew)); exact HO358.out) (Kd.R_base ho8) hb); have HO361 := am (Kd.R_lower ho8 (below_size bB)); replace HB := am (below_step bB hb); clear hb ho8))
  go_ret
  exact ⟨_, rv, kR HO361.out, bB⟩
 ·rw [if_neg c4] at H
  have c4b0 : ((t356.length : Int) == 0) = false := beq_eq_false_iff_ne.mpr c4
  have c4b1 : ((t356.length : Int) != 0) = true := bne_iff_ne.mpr c4
  have c4b2 : ¬ (t356 = []) := fun h_ => c4 (by rw [h_]; rfl)
  have H' := am H
  clear H
  have qT_ : ∀ (w : World) (a : Option Addr) (n c : Nat), (binOp .eql 58 (.slice a n c) (.slice none 0 0)).run Tryd.prog w = .ok (.bool a.isNone) w := fun w a n c => Lib.run_eql_slice_nil w _ _ a n c 0 0 Tryd.underlying58
  go_enter Tryd.func77, Tryd.ntmps77
  go_wp2_with (first | ((with_reducible refine gate_callee (f := 90) rfl ?_); refine gl 11 Tryd.func90 #[.int .i64 a0, .bool a1] ?_; (with_reducible refine (impl_parts.calls_nil k a0 a1 t356 _ A3.out).mono ?_); rintro e w9 ⟨v357, rfl, hnil_, ho0, hb⟩; clear hnil_; refine ⟨_, rfl, ?_⟩; have HO358 := am (Kd.V_lower (Kd.V_mono (ok' := fun k_ => True) ho0 (fun k_ hk_ => trivial)) (below_size bB)); replace HB := am (below_step bB hb); (try clear hb); (try clear hb2); (try clear hk); (try clear hi); (try clear ho0); obtain ⟨Ao10, co10, eo10⟩ := Kd.V_slice HO358.out; subst eo10; have hsn_ : Ao10.isNone = false := (by obtain ⟨ad_, e_, _⟩ := Kd.at_int (Kd.V_reads' HO358.out).2.2 0 (Int.le_refl 0) (by have := beq_eq_false_iff_ne.mp c4b0; omega); rw [e_]; rfl)))
  go_loopg [6, 18] k (fun kq v6 v18 w' => ∃ (x6_1 : List Int) (x18_1 : Int), v18 = .int .i64 x18_1 ∧ Aside0 (impl_decompose.l0 kq a1 x6_1 t356 (t356.length : Int) x18_1 = some r) ∧ Aside0 (kq ≤ k) ∧ Aside0 (Kd.R (Kd.int .i64) 2 w' w.heap.size (fun _ => True) v6 x6_1) ∧ Aside0 (Kd.V (Kd.int .i64) 2 w' w.heap.size (fun k_ => some k_ ≠ (v6 : Value).ownBlock) (.slice Ao10 t356.length co10) t356) ∧ Aside0 (Below w.heap.size w w'))
  case atStart => exact ⟨(([] : List Int)), (0), (by first | rfl | (simp; done) | (simp [*]; done)), H', ⟨Nat.le_refl _⟩, ⟨by first | exact Kd.R_nil _ _ _ _ _ | exact Kd.N_nil _ _ _ _ _ | exact Kd.V_nil _ _ _ _ _ | exact Kd.Q_nil _ _ _ _ _ | exact Kd.S_nil _ _ _ _ _⟩, ⟨by (with_reducible repeat (first | apply Kd.V_alloc | apply Kd.V_drewN | apply Kd.V_drew)); exact Kd.V_mono HO358.out (fun _ hk => (by simp [Value.ownBlock]))⟩, ⟨bB⟩⟩
  case round =>
   clear H'
   try clear p2
   try clear c4
   try clear c4b0
   try clear c4b1
   try clear c4b2
   try clear c7
   try clear c9
   obtain ⟨x6_1, x18_1, rfl, HA, HK1, HO_6, HO_16, HB⟩ := hrel
   cases gk with
   | zero => exact absurd HA.out (by simp [impl_decompose.l0])
   | succ k1 =>
    have H := HA.out
    clear HA
    simp only [impl_decompose.l0] at H
    by_cases c11 : x18_1 < (t356.length : Int)
    ·rw [if_pos c11] at H
     have c11b0 : decide (x18_1 < (t356.length : Int)) = true := decide_eq_true c11
     clear c11
     by_cases c12 : 0 ≤ x18_1
     ·rw [if_pos c12] at H
      have c12b0 : decide (0 ≤ x18_1) = true := decide_eq_true c12
      clear c12
      by_cases c13 : x18_1 < (t356.length : Int)
      ·rw [if_pos c13] at H
       have c13b0 : decide (x18_1 < (t356.length : Int)) = true := decide_eq_true c13
       clear c13
       replace H := Option.bind_eq_some_iff.mp H
       obtain ⟨t363, A140, H⟩ := H
       replace H : (if x6_1.length + t363.length < 17592186044416 then (impl_decompose.l0 k1 a1 (x6_1 ++ t363) t356 (t356.length : Int) (wrap64 (x18_1 + 1))) else (none)) = some r := H
       have A14 := am A140
       clear A140
       by_cases c15 : x6_1.length + t363.length < 17592186044416
       ·rw [if_pos c15] at H
        have LMc15 := am c15
        clear c15
        obtain ⟨y366, hy366⟩ : ∃ y_ : List Int, y_ = (x6_1 ++ t363) := ⟨_, rfl⟩
        replace H : (impl_decompose.l0 k1 a1 y366 t356 (t356.length : Int) (wrap64 (x18_1 + 1))) = some r := by first | (rw [hy366]; with_reducible exact H) | (have H2_ := (Option.bind_some _ _).symm.trans H; rw [hy366]; with_reducible exact H2_) | (have H2_ := (Option.bind_some _ _).symm.trans H; with_reducible exact H2_) | with_reducible exact H | (rw [hy366]; exact H) | exact H
        have Ny366 := am hy366
        clear hy366
        have H' := am H
        clear H
        have p362 : 0 ≤ (x18_1 : Int) := od
        have q362 : x18_1 < (t356.length : Int) := od
        obtain ⟨ad362, e362, hx362_0⟩ := Kd.at_int (Kd.V_reads' HO_16.out).2.2 x18_1 p362 q362
        cases e362
        replace p362 := eq_true p362
        replace q362 := eq_true q362
        go_wp2_with (first | ((with_reducible refine gate_callee (f := 77) rfl ?_); refine gl 25 Tryd.func77 #[.int .i64 (rd t356 x18_1), .bool a1] ?_; (with_reducible refine (ih k1 (by have := HK1.out; omega) (rd t356 x18_1) a1 t363 _ A14.out).mono ?_); rintro e w16 ⟨v364, rfl, ho0, hb⟩; refine ⟨_, rfl, ?_⟩; replace HO_16 := am (Kd.V_elder' (by (with_reducible repeat (first | apply Kd.V_alloc | apply Kd.V_drewN | apply Kd.V_drew)); exact HO_16.out) (Kd.R_base ho0) hb); have HO365 := am (Kd.R_lower (Kd.R_new' ho0 (Kd.R_lt (kR HO_6.out))) (below_size bB)); replace HO_6 := am (Kd.R_elder' (kR HO_6.out) (Kd.R_base ho0) hb); replace HB := am (below_step bB hb); (try clear hb); (try clear hb2); (try clear hk); (try clear hi); (try clear ho0); obtain ⟨Ao18, co18, eo18⟩ := Kd.R_slice HO365.out; subst eo18) | ((with_reducible refine gate_builtin (b := .append) (xs := #[.tmp 22, .tmp 25]) rfl ?_); at_builtin; refine Kd.R_append_rows (Kd.int .i64) (w0 := w) w.heap.size rfl (.tmp 22) (.tmp 25) 58 2 (.int .i64 0) 8 rfl Tryd.underlying58 info2 rfl (by decide) (by omega) u6 x6_1 t363 _ _ _ (fun k_ => some k_ ≠ (.slice Ao18 t363.length co18 : Value).ownBlock) (fun _ => False) rfl rfl ?aO ?aR (fun _ _ h => h) (fun _ h => h.elim) ?aF ?aB ?aS ?aL ?_; (case aR => repeat (first | exact (Kd.R_reads' HO365.out).2.2 | (with_reducible refine Kd.C_alloc ?_ _) | (with_reducible refine Kd.C_drewN ?_ _) | (with_reducible refine Kd.C_drew ?_))); (case aB => exact bB); (case aF => exact (fun k_ hk => Kd.fresh' (Kd.R_lt (kR HO365.out)) k_ hk)); (case aO => exact (kR (Kd.R_mono HO_6.out (fun _ hk => hk.2)))); (case aS => exact (below_size bB)); (case aL => have := LMc15.out; omega); intro v367 w17 ho hb hg hat; rw [← Ny366.out] at ho; replace HO_16 := am (Kd.V_afterv (ok := (fun k_ => some k_ ≠ (.slice Ao18 t363.length co18 : Value).ownBlock)) (by (with_reducible repeat (first | apply Kd.V_alloc | apply Kd.V_drewN | apply Kd.V_drew)); exact Kd.V_mono HO_16.out (fun _ hk => ⟨hk.2, hk.1⟩)) hg hat); replace HO365 := am (Kd.R_after (ok := (fun _ => True)) (kR HO365.out) hg hat); replace HB := am (hb); have HO368 := am (ho); clear HO_6; clear ho hb hg hat))
        go_roundg k1
        case measure => have := HK1.out; omega
        case rel => exact ⟨(y366), (wrap64 (x18_1 + 1)), (by first | rfl | (simp; done) | (simp [*]; done)), H', ⟨by have := HK1.out; omega⟩, ⟨kR (Kd.R_mono HO368.out (fun _ hk => trivial))⟩, ⟨by (with_reducible repeat (first | apply Kd.V_alloc | apply Kd.V_drewN | apply Kd.V_drew)); exact Kd.V_mono HO_16.out (fun _ hk => hk.2)⟩, ⟨bB⟩⟩
       ·rw [if_neg c15] at H
        exact absurd H (by simp)
      ·rw [if_neg c13] at H
       exact absurd H (by simp)
     ·rw [if_neg c12] at H
      exact absurd H (by simp)
    ·rw [if_neg c11] at H
     have c11b0 : decide (x18_1 < (t356.length : Int)) = false := decide_eq_false c11
     clear c11
     obtain rfl := Option.some.inj H
     go_wp2
     go_ret
     exact ⟨_, rv, kR HO_6.out, bB⟩
-- NOT PRINTED: function 101 (slices_insertionSortCmpFunc_int64)
-- NOT PRINTED: function 107 (slices_swapRangeCmpFunc_int64)
-- NOT PRINTED: function 106 (slices_rotateCmpFunc_int64)
-- NOT PRINTED: function 102 (slices_symMergeCmpFunc_int64)
-- NOT PRINTED: function 91 (slices_stableCmpFunc_int64)
-- NOT PRINTED: function 78 (slices_SortStableFunc_int64_int64)
def impl_normal_1.f (a0 : Int) (a1 : Int) : Option (Int) := (impl_MarkClass.f a0).bind fun t369 => ((impl_MarkClass.f a1).bind fun t370 => (some (wrap64 (t369 - t370))))
set_option maxHeartbeats 8000000 in
set_option maxRecDepth 100000 in
theorem impl_normal_1.calls (a0 : Int) (a1 : Int) (r : Int) (w : World) (h : impl_normal_1.f a0 a1 = some r) :
  Calls Tryd.prog 79 #[.int .i64 a0, .int .i64 a1] w fun e w' => e = .returned (.int .i64 r) ∧ Drawn0 w w' := by
 have H : ((impl_MarkClass.f a0).bind fun t369 => ((impl_MarkClass.f a1).bind fun t370 => (some (wrap64 (t369 - t370))))) = some r := h
 clear h
 replace H := Option.bind_eq_some_iff.mp H
 obtain ⟨t369, A30, H⟩ := H
 replace H : ((impl_MarkClass.f a1).bind fun t370 => (some (wrap64 (t369 - t370)))) = some r := H
 have A3 := am A30
 clear A30
 replace H := Option.bind_eq_some_iff.mp H
 obtain ⟨t370, A40, H⟩ := H
 replace H : (some (wrap64 (t369 - t370))) = some r := H
 have A4 := am A40
 clear A40
 obtain rfl := Option.some.inj H
 go_enter Tryd.func79, Tryd.ntmps79
 go_wp2_with (first | ((with_reducible refine gate_callee (f := 51) rfl ?_); refine gl 6 Tryd.func51 #[.int .i64 a0] ?_; (with_reducible refine (impl_MarkClass.calls a0 t369 _ A3.out).mono ?_); rintro e w' ⟨rfl, ⟨nd, rfl⟩⟩; refine ⟨_, rfl, ?_⟩) | ((with_reducible refine gate_callee (f := 51) rfl ?_); refine gl 8 Tryd.func51 #[.int .i64 a1] ?_; (with_reducible refine (impl_MarkClass.calls a1 t370 _ A4.out).mono ?_); rintro e w' ⟨rfl, ⟨nd, rfl⟩⟩; refine ⟨_, rfl, ?_⟩))
 go_ret
 exact rdd
def impl_isSyllable.f (a0 : Int) : Option (Bool) := (impl_in.f a0 12288 23459).bind fun t371 => (some t371)
set_option maxHeartbeats 8000000 in
set_option maxRecDepth 100000 in
theorem impl_isSyllable.calls (a0 : Int) (r : Bool) (w : World) (h : impl_isSyllable.f a0 = some r) :
  Calls Tryd.prog 103 #[.int .i64 a0] w fun e w' => e = .returned (.bool r) ∧ Drawn0 w w' := by
 have H : ((impl_in.f a0 12288 23459).bind fun t371 => (some t371)) = some r := h
 clear h
 replace H := Option.bind_eq_some_iff.mp H
 obtain ⟨t371, A20, H⟩ := H
 replace H : (some t371) = some r := H
 have A2 := am A20
 clear A20
 obtain rfl := Option.some.inj H
 go_enter Tryd.func103, Tryd.ntmps103
 go_wp2_with (first | ((with_reducible refine gate_callee (f := 67) rfl ?_); refine gl 4 Tryd.func67 #[.int .i64 a0, .int .i64 12288, .int .i64 23459] ?_; (with_reducible refine (impl_in.calls a0 12288 23459 t371 _ A2.out).mono ?_); rintro e w' ⟨rfl, ⟨nd, rfl⟩⟩; refine ⟨_, rfl, ?_⟩))
 go_ret
 exact rdd
def impl_isOpen.f (a0 : Int) : Option (Bool) := (impl_isSyllable.f a0).bind fun t372 => (if t372 = true then (some ((Int.tmod (wrap64 (a0 - 12288)) 28) == 0)) else (some false))
set_option maxHeartbeats 8000000 in
set_option maxRecDepth 100000 in
theorem impl_isOpen.calls (a0 : Int) (r : Bool) (w : World) (h : impl_isOpen.f a0 = some r) :
  Calls Tryd.prog 92 #[.int .i64 a0] w fun e w' => e = .returned (.bool r) ∧ Drawn0 w w' := by
 have H : ((impl_isSyllable.f a0).bind fun t372 => (if t372 = true then (some ((Int.tmod (wrap64 (a0 - 12288)) 28) == 0)) else (some false))) = some r := h
 clear h
 replace H := Option.bind_eq_some_iff.mp H
 obtain ⟨t372, A20, H⟩ := H
 replace H : (if t372 = true then (some ((Int.tmod (wrap64 (a0 - 12288)) 28) == 0)) else (some false)) = some r := H
 have A2 := am A20
 clear A20
 by_cases c3 : t372 = true
 ·subst c3
  have H1 : (some ((Int.tmod (wrap64 (a0 - 12288)) 28) == 0)) = some r := by rw [if_pos rfl] at H; exact H
  clear H
  have H := H1
  clear H1
  obtain rfl := Option.some.inj H
  go_enter Tryd.func92, Tryd.ntmps92
  go_wp2_with (first | ((with_reducible refine gate_callee (f := 103) rfl ?_); refine gl 4 Tryd.func103 #[.int .i64 a0] ?_; (with_reducible refine (impl_isSyllable.calls a0 true _ A2.out).mono ?_); rintro e w' ⟨rfl, ⟨nd, rfl⟩⟩; refine ⟨_, rfl, ?_⟩))
  go_ret
  exact rdd
 ·replace c3 := Bool.eq_false_iff.mpr c3
  subst c3
  have H1 : (some false) = some r := by rw [if_neg (show ¬ (false = true) by decide)] at H; exact H
  clear H
  have H := H1
  clear H1
  obtain rfl := Option.some.inj H
  go_enter Tryd.func92, Tryd.ntmps92
  go_wp2_with (first | ((with_reducible refine gate_callee (f := 103) rfl ?_); refine gl 4 Tryd.func103 #[.int .i64 a0] ?_; (with_reducible refine (impl_isSyllable.calls a0 false _ A2.out).mono ?_); rintro e w' ⟨rfl, ⟨nd, rfl⟩⟩; refine ⟨_, rfl, ?_⟩))
  go_ret
  exact rdd
end Go.Proofs.YtnbedmihgnjdpaaDoor.PFnExactCollatorFault

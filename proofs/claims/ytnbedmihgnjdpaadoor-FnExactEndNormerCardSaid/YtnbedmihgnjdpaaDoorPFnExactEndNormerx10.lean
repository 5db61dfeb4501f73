-- Written by a program of this session (wip/tools/myprint.py) that runs the kit's print with hooks of its own. Lean checks it.
import Derived.Test.YtnbedmihgnjdpaaDoorPFnExactEndNormerx0
import Derived.Test.YtnbedmihgnjdpaaDoorPFnExactEndNormerx9
namespace Go.Proofs.YtnbedmihgnjdpaaDoor.PFnExactEndNormer
open Go.RowKit Go.Proofs.YtnbedmihgnjdpaaDoorW.PrintWords Go.Proofs.YtnbedmihgnjdpaaDoorW.PrintLast Go.Proofs.YtnbedmihgnjdpaaDoorW.PrintMore
attribute [local go_sem] max2_int min2_int max_two min_two max_three min_three max_four min_four   -- for this text's walks alone
set_option linter.unusedVariables false
set_option linter.unusedSimpArgs false

/-! ### impl_parts: function 90 -/
mutual
def impl_parts.j0 : Nat → Int → Bool → Bool → Option (List Int)
 | 0, _, _, _ => none
 | k + 1, x0, x1, x8 => if x8 = true then (if (wrap64 (Int.tdiv (wrap64 (x0 - 8192)) 512)) = 0 then ((impl_letter.f (wrap64 (Int.tdiv (Int.tmod (wrap64 (x0 - 8192)) 512) 8))).bind fun t309 => (some (([t309, wrap64 (4096 + (Int.tmod (Int.tmod (wrap64 (x0 - 8192)) 512) 8))] : List Int)))) else (if (wrap64 (Int.tdiv (wrap64 (x0 - 8192)) 512)) = 1 then ((impl_letter.f (wrap64 (Int.tdiv (Int.tmod (wrap64 (x0 - 8192)) 512) 8))).bind fun t313 => (some (([t313, wrap64 (4112 + (Int.tmod (Int.tmod (wrap64 (x0 - 8192)) 512) 8))] : List Int)))) else (some (([wrap64 (8704 + (Int.tmod (wrap64 (x0 - 8192)) 512)), 4096] : List Int))))) else ((impl_in.f x0 9728 9753).bind fun t320 => (if t320 = true then (some (([wrap64 ((wrap64 (65 + x0)) - 9728)] : List Int))) else ((impl_in.f x0 12288 23459).bind fun t324 => (if t324 = true then (if (Int.tmod (wrap64 (x0 - 12288)) 28) > 0 then (some (([wrap64 (x0 - (Int.tmod (wrap64 (x0 - 12288)) 28)), wrap64 (1856 + (Int.tmod (wrap64 (x0 - 12288)) 28))] : List Int))) else (some (([wrap64 (1792 + (wrap64 (Int.tdiv (wrap64 (Int.tdiv (wrap64 (x0 - 12288)) 28)) 21))), wrap64 (1824 + (Int.tmod (wrap64 (Int.tdiv (wrap64 (x0 - 12288)) 28)) 21))] : List Int)))) else (if x1 = true then ((impl_in.f x0 9984 10009).bind fun t331 => (if t331 = true then (some (([wrap64 ((wrap64 (65 + x0)) - 9984)] : List Int))) else ((impl_in.f x0 10016 10025).bind fun t335 => (if t335 = true then (some (([wrap64 ((wrap64 (48 + x0)) - 10016)] : List Int))) else (if x0 = 8064 then (impl_parts.j1 k x0 true) else (impl_parts.j1 k x0 (x0 == 160))))))) else (some ([] : List Int)))))))
def impl_parts.j1 : Nat → Int → Bool → Option (List Int)
 | 0, _, _ => none
 | k + 1, x0, x92 => if x92 = true then (some (([32] : List Int))) else ((impl_in.f x0 10032 10035).bind fun t342 => (if t342 = true then ((some (([(([102, 102] : List Int)), (([102, 105] : List Int)), (([102, 108] : List Int)), (([115, 116] : List Int))] : List (List Int)) : List (List Int))).bind fun y355 => (if 0 ≤ (wrap64 (x0 - 10032)) then (if (wrap64 (x0 - 10032)) < (y355.length : Int) then (some (rd_L4 y355 (wrap64 (x0 - 10032)))) else (none)) else (none))) else (some ([] : List Int))))
end
def impl_parts.f (k : Nat) (a0 : Int) (a1 : Bool) : Option (List Int) := (impl_in.f a0 8192 9631).bind fun t308 => (if t308 = true then (impl_parts.j0 k a0 a1 (decide ((Int.tmod (wrap64 (a0 - 8192)) 512) < 416))) else (impl_parts.j0 k a0 a1 false))
theorem rd4_ne {y : List (List Int)} {i : Int} (hy : y = (([(([102, 102] : List Int)), (([102, 105] : List Int)), (([102, 108] : List Int)), (([115, 116] : List Int))] : List (List Int)))) (h0 : 0 ≤ i) (h1 : i < (y.length : Int)) : ¬ rd_L4 y i = [] := by
 subst hy
 have h2 : i = 0 ∨ i = 1 ∨ i = 2 ∨ i = 3 := by simp at h1; omega
 rcases h2 with rfl | rfl | rfl | rfl <;> decide

set_option maxHeartbeats 8000000 in
set_option maxRecDepth 100000 in
theorem impl_parts.calls_nil (k : Nat) (a0 : Int) (a1 : Bool) (r : List Int) (w : World) (h : impl_parts.f k a0 a1 = some r) :
  Calls Tryd.prog 90 #[.int .i64 a0, .bool a1] w fun e w' => ∃ v0_ : Value, e = .returned (v0_) ∧ (r = [] → v0_ = .slice none 0 0) ∧ Kd.V (Kd.int .i64) 2 w' w.heap.size (fun k_ => (w.heap.size ≤ k_)) v0_ r ∧ Below w.heap.size w w' := by
 have HB := Aside0.mk (Below.refl w.heap.size w)
 have H : ((impl_in.f a0 8192 9631).bind fun t308 => (if t308 = true then (impl_parts.j0 k a0 a1 (decide ((Int.tmod (wrap64 (a0 - 8192)) 512) < 416))) else (impl_parts.j0 k a0 a1 false))) = some r := h
 clear h
 have HC3 := Aside0.mk H
 clear H
 go_enter Tryd.func90, Tryd.ntmps90
 go_upto_region 1 with (fail)
 go_cut [8] (fun v8 wc => ∃ (kq : Nat) (x8_2 : Bool), v8 = .bool x8_2 ∧ Aside0 (impl_parts.j0 kq a0 a1 x8_2 = some r) ∧ Aside0 (kq ≤ k) ∧ Aside0 (Below w.heap.size w wc))
 case first =>
  as_aux_lemma =>
   have H := HC3.out
   clear HC3
   replace H := Option.bind_eq_some_iff.mp H
   obtain ⟨t308, A40, H⟩ := H
   replace H : (if t308 = true then (impl_parts.j0 k a0 a1 (decide ((Int.tmod (wrap64 (a0 - 8192)) 512) < 416))) else (impl_parts.j0 k a0 a1 false)) = some r := H
   have A4 := Aside0.mk A40
   clear A40
   by_cases c5 : t308 = true
   ·subst c5
    have H1 : (impl_parts.j0 k a0 a1 (decide ((Int.tmod (wrap64 (a0 - 8192)) 512) < 416))) = some r := by rw [if_pos rfl] at H; exact H
    clear H
    have H := H1
    clear H1
    have H' := Aside0.mk H
    clear H
    go_wp2_with (first | ((with_reducible refine gate_callee (f := 67) rfl ?_); refine goesL_ (some 10) rfl rfl Tryd.func67 (by kernel_rfl) rfl #[.int .i64 a0, .int .i64 8192, .int .i64 9631] rfl (by (try simp only [List.map_toArray, List.map_cons, List.map_nil]); first | done | rfl | (simp only [List.length_drop, List.length_take]; rfl)) ?_; (with_reducible refine (impl_in.calls a0 8192 9631 true _ A4.out).mono ?_); rintro e w' ⟨rfl, ⟨nd, rfl⟩⟩; refine ⟨_, rfl, ?_⟩))
    go_meet
    case rel => exact ⟨_, (decide ((Int.tmod (wrap64 (a0 - 8192)) 512) < 416)), (by first | rfl | (simp; done) | (simp [*]; done)), H', ⟨by first | omega | exact Nat.le_refl _⟩, ⟨by repeat (first | (with_reducible first | exact HB.out | apply below_alloc | apply pw_below_drewN | apply below_drew1) | exact HB.out)⟩⟩
   ·replace c5 := Bool.eq_false_iff.mpr c5
    subst c5
    have H1 : (impl_parts.j0 k a0 a1 false) = some r := by rw [if_neg (show ¬ (false = true) by decide)] at H; exact H
    clear H
    have H := H1
    clear H1
    have H' := Aside0.mk H
    clear H
    go_wp2_with (first | ((with_reducible refine gate_callee (f := 67) rfl ?_); refine goesL_ (some 10) rfl rfl Tryd.func67 (by kernel_rfl) rfl #[.int .i64 a0, .int .i64 8192, .int .i64 9631] rfl (by (try simp only [List.map_toArray, List.map_cons, List.map_nil]); first | done | rfl | (simp only [List.length_drop, List.length_take]; rfl)) ?_; (with_reducible refine (impl_in.calls a0 8192 9631 false _ A4.out).mono ?_); rintro e w' ⟨rfl, ⟨nd, rfl⟩⟩; refine ⟨_, rfl, ?_⟩))
    go_meet
    case rel => exact ⟨_, (false), (by first | rfl | (simp; done) | (simp [*]; done)), H', ⟨by first | omega | exact Nat.le_refl _⟩, ⟨by repeat (first | (with_reducible first | exact HB.out | apply below_alloc | apply pw_below_drewN | apply below_drew1) | exact HB.out)⟩⟩
 case rest =>
  as_aux_lemma =>
   clear HC3
   try clear p2
   try clear c5
   obtain ⟨kq, x8_2, rfl, HA, HJ2, HB⟩ := hcut
   cases kq with
   | zero => exact absurd HA.out (by simp [impl_parts.j0])
   | succ kj2 =>
    have H := HA.out
    clear HA
    simp only [impl_parts.j0] at H
    by_cases c6 : x8_2 = true
    ·subst c6
     have H1 : (if (wrap64 (Int.tdiv (wrap64 (a0 - 8192)) 512)) = 0 then ((impl_letter.f (wrap64 (Int.tdiv (Int.tmod (wrap64 (a0 - 8192)) 512) 8))).bind fun t309 => (some (([t309, wrap64 (4096 + (Int.tmod (Int.tmod (wrap64 (a0 - 8192)) 512) 8))] : List Int)))) else (if (wrap64 (Int.tdiv (wrap64 (a0 - 8192)) 512)) = 1 then ((impl_letter.f (wrap64 (Int.tdiv (Int.tmod (wrap64 (a0 - 8192)) 512) 8))).bind fun t313 => (some (([t313, wrap64 (4112 + (Int.tmod (Int.tmod (wrap64 (a0 - 8192)) 512) 8))] : List Int)))) else (some (([wrap64 (8704 + (Int.tmod (wrap64 (a0 - 8192)) 512)), 4096] : List Int))))) = some r := by rw [if_pos rfl] at H; exact H
     clear H
     have H := H1
     clear H1
     by_cases c7 : (wrap64 (Int.tdiv (wrap64 (a0 - 8192)) 512)) = 0
     ·rw [if_pos c7] at H
      have c7b0 : ((wrap64 (Int.tdiv (wrap64 (a0 - 8192)) 512)) == 0) = true := beq_iff_eq.mpr c7
      have c7b1 : ((wrap64 (Int.tdiv (wrap64 (a0 - 8192)) 512)) != 0) = false := bne_eq_false_iff_eq.mpr c7
      clear c7
      replace H := Option.bind_eq_some_iff.mp H
      obtain ⟨t309, A80, H⟩ := H
      replace H : (some (([t309, wrap64 (4096 + (Int.tmod (Int.tmod (wrap64 (a0 - 8192)) 512) 8))] : List Int))) = some r := H
      have A8 := Aside0.mk A80
      clear A80
      obtain ⟨y310, hy310⟩ : ∃ y_ : List Int, y_ = (([t309, wrap64 (4096 + (Int.tmod (Int.tmod (wrap64 (a0 - 8192)) 512) 8))] : List Int)) := ⟨_, rfl⟩
      replace H : (some y310) = some r := by first | (rw [hy310]; with_reducible exact H) | (have H2_ := (Option.bind_some _ _).symm.trans H; rw [hy310]; with_reducible exact H2_) | (have H2_ := (Option.bind_some _ _).symm.trans H; with_reducible exact H2_) | with_reducible exact H | (rw [hy310]; exact H) | exact H
      have Ny310 := Aside0.mk hy310
      clear hy310
      obtain rfl := Option.some.inj H
      go_wp2_with (first | ((with_reducible refine gate_callee (f := 100) rfl ?_); refine goesL_ (some 27) rfl rfl Tryd.func100 (by kernel_rfl) rfl #[.int .i64 (wrap64 (Int.tdiv (Int.tmod (wrap64 (a0 - 8192)) 512) 8))] rfl (by (try simp only [List.map_toArray, List.map_cons, List.map_nil]); first | done | rfl | (simp only [List.length_drop, List.length_take]; rfl)) ?_; (with_reducible refine (impl_letter.calls (wrap64 (Int.tdiv (Int.tmod (wrap64 (a0 - 8192)) 512) 8)) t309 _ A8.out).mono ?_); rintro e w' ⟨rfl, ⟨nd, rfl⟩⟩; refine ⟨_, rfl, ?_⟩) | ((with_reducible refine gate_dst (N := 31) rfl ?_); refine Kd.R_lit (Kd.int .i64) _ 2 ?hg (N := 31) ?hd (xs := ([t309, wrap64 (4096 + (Int.tmod (Int.tmod (wrap64 (a0 - 8192)) 512) 8))] : List Int)) (inner := [.int .i64 t309, .int .i64 (wrap64 (4096 + (Int.tmod (Int.tmod (wrap64 (a0 - 8192)) 512) 8)))]) (ok := fun _ => True) (okp := fun _ => True) ?hr ?hp (fun _ hk => hk) trivial (Below.refl _ _) (Nat.le_refl _) (by simp) ?_; (case hd => rfl); (case hg => rfl); (case hr => first | (go_simp; done) | (go_simp; rfl)); (case hp => exact (Reps.one (show Kd.M (Kd.int .i64) _ _ _ t309 [.int .i64 t309] from rfl) (Reps.one (show Kd.M (Kd.int .i64) _ _ _ (wrap64 (4096 + (Int.tmod (Int.tmod (wrap64 (a0 - 8192)) 512) 8))) [.int .i64 (wrap64 (4096 + (Int.tmod (Int.tmod (wrap64 (a0 - 8192)) 512) 8)))] from rfl) (Reps.none _ _)))); intro v311 w9 ho10 hb hg_ hnew_; clear hg_ hnew_; (first | rw [← Ny310.out] at ho10 | (simp only [Int.reduceToNat] at ho10; rw [← Ny310.out] at ho10)); have n0_ := Aside0.mk (Kd.R_lower (Kd.R_newM (M := fun k_ => (w.heap.size ≤ k_)) ho10 (below_size (by repeat (first | (with_reducible first | exact HB.out | apply below_alloc | apply pw_below_drewN | apply below_drew1) | exact HB.out))) (fun k_ h_ => h_)) (below_size (by repeat (first | (with_reducible first | exact HB.out | apply below_alloc | apply pw_below_drewN | apply below_drew1) | exact HB.out)))); have n1_ := Aside0.mk (below_step (by repeat (first | (with_reducible first | exact HB.out | apply below_alloc | apply pw_below_drewN | apply below_drew1) | exact HB.out)) hb); clear HB; have HO312 := n0_; have HB := n1_; clear n0_ n1_; clear hb ho10))
      go_ret
      exact ⟨_, by first | rfl | (simp [errW_none, errW_some] <;> rfl) | (simp [*, errW_none, errW_some] <;> rfl), (fun hr_ => by first | (have hr2_ := hr_; rw [Ny310.out] at hr2_; exact absurd hr2_ (by simp))), Kd.R_V (by (with_reducible repeat (first | apply Kd.R_alloc | apply Kd.R_drewN | apply Kd.R_drew)); exact Kd.R_mono HO312.out (fun _ hk => hk.1)), by repeat (first | (with_reducible first | exact HB.out | apply below_alloc | apply pw_below_drewN | apply below_drew1) | exact HB.out)⟩
     ·rw [if_neg c7] at H
      have c7b0 : ((wrap64 (Int.tdiv (wrap64 (a0 - 8192)) 512)) == 0) = false := beq_eq_false_iff_ne.mpr c7
      have c7b1 : ((wrap64 (Int.tdiv (wrap64 (a0 - 8192)) 512)) != 0) = true := bne_iff_ne.mpr c7
      by_cases c11 : (wrap64 (Int.tdiv (wrap64 (a0 - 8192)) 512)) = 1
      ·rw [if_pos c11] at H
       have c11b0 : ((wrap64 (Int.tdiv (wrap64 (a0 - 8192)) 512)) == 1) = true := beq_iff_eq.mpr c11
       have c11b1 : ((wrap64 (Int.tdiv (wrap64 (a0 - 8192)) 512)) != 1) = false := bne_eq_false_iff_eq.mpr c11
       clear c11
       replace H := Option.bind_eq_some_iff.mp H
       obtain ⟨t313, A120, H⟩ := H
       replace H : (some (([t313, wrap64 (4112 + (Int.tmod (Int.tmod (wrap64 (a0 - 8192)) 512) 8))] : List Int))) = some r := H
       have A12 := Aside0.mk A120
       clear A120
       obtain ⟨y314, hy314⟩ : ∃ y_ : List Int, y_ = (([t313, wrap64 (4112 + (Int.tmod (Int.tmod (wrap64 (a0 - 8192)) 512) 8))] : List Int)) := ⟨_, rfl⟩
       replace H : (some y314) = some r := by first | (rw [hy314]; with_reducible exact H) | (have H2_ := (Option.bind_some _ _).symm.trans H; rw [hy314]; with_reducible exact H2_) | (have H2_ := (Option.bind_some _ _).symm.trans H; with_reducible exact H2_) | with_reducible exact H | (rw [hy314]; exact H) | exact H
       have Ny314 := Aside0.mk hy314
       clear hy314
       obtain rfl := Option.some.inj H
       go_wp2_with (first | ((with_reducible refine gate_callee (f := 100) rfl ?_); refine goesL_ (some 36) rfl rfl Tryd.func100 (by kernel_rfl) rfl #[.int .i64 (wrap64 (Int.tdiv (Int.tmod (wrap64 (a0 - 8192)) 512) 8))] rfl (by (try simp only [List.map_toArray, List.map_cons, List.map_nil]); first | done | rfl | (simp only [List.length_drop, List.length_take]; rfl)) ?_; (with_reducible refine (impl_letter.calls (wrap64 (Int.tdiv (Int.tmod (wrap64 (a0 - 8192)) 512) 8)) t313 _ A12.out).mono ?_); rintro e w' ⟨rfl, ⟨nd, rfl⟩⟩; refine ⟨_, rfl, ?_⟩) | ((with_reducible refine gate_dst (N := 40) rfl ?_); refine Kd.R_lit (Kd.int .i64) _ 2 ?hg (N := 40) ?hd (xs := ([t313, wrap64 (4112 + (Int.tmod (Int.tmod (wrap64 (a0 - 8192)) 512) 8))] : List Int)) (inner := [.int .i64 t313, .int .i64 (wrap64 (4112 + (Int.tmod (Int.tmod (wrap64 (a0 - 8192)) 512) 8)))]) (ok := fun _ => True) (okp := fun _ => True) ?hr ?hp (fun _ hk => hk) trivial (Below.refl _ _) (Nat.le_refl _) (by simp) ?_; (case hd => rfl); (case hg => rfl); (case hr => first | (go_simp; done) | (go_simp; rfl)); (case hp => exact (Reps.one (show Kd.M (Kd.int .i64) _ _ _ t313 [.int .i64 t313] from rfl) (Reps.one (show Kd.M (Kd.int .i64) _ _ _ (wrap64 (4112 + (Int.tmod (Int.tmod (wrap64 (a0 - 8192)) 512) 8))) [.int .i64 (wrap64 (4112 + (Int.tmod (Int.tmod (wrap64 (a0 - 8192)) 512) 8)))] from rfl) (Reps.none _ _)))); intro v315 w13 ho14 hb hg_ hnew_; clear hg_ hnew_; (first | rw [← Ny314.out] at ho14 | (simp only [Int.reduceToNat] at ho14; rw [← Ny314.out] at ho14)); have n0_ := Aside0.mk (Kd.R_lower (Kd.R_newM (M := fun k_ => (w.heap.size ≤ k_)) ho14 (below_size (by repeat (first | (with_reducible first | exact HB.out | apply below_alloc | apply pw_below_drewN | apply below_drew1) | exact HB.out))) (fun k_ h_ => h_)) (below_size (by repeat (first | (with_reducible first | exact HB.out | apply below_alloc | apply pw_below_drewN | apply below_drew1) | exact HB.out)))); have n1_ := Aside0.mk (below_step (by repeat (first | (with_reducible first | exact HB.out | apply below_alloc | apply pw_below_drewN | apply below_drew1) | exact HB.out)) hb); clear HB; have HO316 := n0_; have HB := n1_; clear n0_ n1_; clear hb ho14))
       go_ret
       exact ⟨_, by first | rfl | (simp [errW_none, errW_some] <;> rfl) | (simp [*, errW_none, errW_some] <;> rfl), (fun hr_ => by first | (have hr2_ := hr_; rw [Ny314.out] at hr2_; exact absurd hr2_ (by simp))), Kd.R_V (by (with_reducible repeat (first | apply Kd.R_alloc | apply Kd.R_drewN | apply Kd.R_drew)); exact Kd.R_mono HO316.out (fun _ hk => hk.1)), by repeat (first | (with_reducible first | exact HB.out | apply below_alloc | apply pw_below_drewN | apply below_drew1) | exact HB.out)⟩
      ·rw [if_neg c11] at H
       have c11b0 : ((wrap64 (Int.tdiv (wrap64 (a0 - 8192)) 512)) == 1) = false := beq_eq_false_iff_ne.mpr c11
       have c11b1 : ((wrap64 (Int.tdiv (wrap64 (a0 - 8192)) 512)) != 1) = true := bne_iff_ne.mpr c11
       obtain ⟨y317, hy317⟩ : ∃ y_ : List Int, y_ = (([wrap64 (8704 + (Int.tmod (wrap64 (a0 - 8192)) 512)), 4096] : List Int)) := ⟨_, rfl⟩
       replace H : (some y317) = some r := by first | (rw [hy317]; with_reducible exact H) | (have H2_ := (Option.bind_some _ _).symm.trans H; rw [hy317]; with_reducible exact H2_) | (have H2_ := (Option.bind_some _ _).symm.trans H; with_reducible exact H2_) | with_reducible exact H | (rw [hy317]; exact H) | exact H
       have Ny317 := Aside0.mk hy317
       clear hy317
       obtain rfl := Option.some.inj H
       go_wp2_with (first | ((with_reducible refine gate_dst (N := 43) rfl ?_); refine Kd.R_lit (Kd.int .i64) _ 2 ?hg (N := 43) ?hd (xs := ([wrap64 (8704 + (Int.tmod (wrap64 (a0 - 8192)) 512)), 4096] : List Int)) (inner := [.int .i64 (wrap64 (8704 + (Int.tmod (wrap64 (a0 - 8192)) 512))), .int .i64 4096]) (ok := fun _ => True) (okp := fun _ => True) ?hr ?hp (fun _ hk => hk) trivial (Below.refl _ _) (Nat.le_refl _) (by simp) ?_; (case hd => rfl); (case hg => rfl); (case hr => first | (go_simp; done) | (go_simp; rfl)); (case hp => exact (Reps.one (show Kd.M (Kd.int .i64) _ _ _ (wrap64 (8704 + (Int.tmod (wrap64 (a0 - 8192)) 512))) [.int .i64 (wrap64 (8704 + (Int.tmod (wrap64 (a0 - 8192)) 512)))] from rfl) (Reps.one (show Kd.M (Kd.int .i64) _ _ _ 4096 [.int .i64 4096] from rfl) (Reps.none _ _)))); intro v318 w15 ho16 hb hg_ hnew_; clear hg_ hnew_; (first | rw [← Ny317.out] at ho16 | (simp only [Int.reduceToNat] at ho16; rw [← Ny317.out] at ho16)); have n0_ := Aside0.mk (Kd.R_lower (Kd.R_newM (M := fun k_ => (w.heap.size ≤ k_)) ho16 (below_size (by repeat (first | (with_reducible first | exact HB.out | apply below_alloc | apply pw_below_drewN | apply below_drew1) | exact HB.out))) (fun k_ h_ => h_)) (below_size (by repeat (first | (with_reducible first | exact HB.out | apply below_alloc | apply pw_below_drewN | apply below_drew1) | exact HB.out)))); have n1_ := Aside0.mk (below_step (by repeat (first | (with_reducible first | exact HB.out | apply below_alloc | apply pw_below_drewN | apply below_drew1) | exact HB.out)) hb); clear HB; have HO319 := n0_; have HB := n1_; clear n0_ n1_; clear hb ho16))
       go_ret
       exact ⟨_, by first | rfl | (simp [errW_none, errW_some] <;> rfl) | (simp [*, errW_none, errW_some] <;> rfl), (fun hr_ => by first | (have hr2_ := hr_; rw [Ny317.out] at hr2_; exact absurd hr2_ (by simp))), Kd.R_V (by (with_reducible repeat (first | apply Kd.R_alloc | apply Kd.R_drewN | apply Kd.R_drew)); exact Kd.R_mono HO319.out (fun _ hk => hk.1)), by repeat (first | (with_reducible first | exact HB.out | apply below_alloc | apply pw_below_drewN | apply below_drew1) | exact HB.out)⟩
    ·replace c6 := Bool.eq_false_iff.mpr c6
     subst c6
     have H1 : ((impl_in.f a0 9728 9753).bind fun t320 => (if t320 = true then (some (([wrap64 ((wrap64 (65 + a0)) - 9728)] : List Int))) else ((impl_in.f a0 12288 23459).bind fun t324 => (if t324 = true then (if (Int.tmod (wrap64 (a0 - 12288)) 28) > 0 then (some (([wrap64 (a0 - (Int.tmod (wrap64 (a0 - 12288)) 28)), wrap64 (1856 + (Int.tmod (wrap64 (a0 - 12288)) 28))] : List Int))) else (some (([wrap64 (1792 + (wrap64 (Int.tdiv (wrap64 (Int.tdiv (wrap64 (a0 - 12288)) 28)) 21))), wrap64 (1824 + (Int.tmod (wrap64 (Int.tdiv (wrap64 (a0 - 12288)) 28)) 21))] : List Int)))) else (if a1 = true then ((impl_in.f a0 9984 10009).bind fun t331 => (if t331 = true then (some (([wrap64 ((wrap64 (65 + a0)) - 9984)] : List Int))) else ((impl_in.f a0 10016 10025).bind fun t335 => (if t335 = true then (some (([wrap64 ((wrap64 (48 + a0)) - 10016)] : List Int))) else (if a0 = 8064 then (impl_parts.j1 kj2 a0 true) else (impl_parts.j1 kj2 a0 (a0 == 160))))))) else (some ([] : List Int))))))) = some r := by rw [if_neg (show ¬ (false = true) by decide)] at H; exact H
     clear H
     have H := H1
     clear H1
     replace H := Option.bind_eq_some_iff.mp H
     obtain ⟨t320, A170, H⟩ := H
     replace H : (if t320 = true then (some (([wrap64 ((wrap64 (65 + a0)) - 9728)] : List Int))) else ((impl_in.f a0 12288 23459).bind fun t324 => (if t324 = true then (if (Int.tmod (wrap64 (a0 - 12288)) 28) > 0 then (some (([wrap64 (a0 - (Int.tmod (wrap64 (a0 - 12288)) 28)), wrap64 (1856 + (Int.tmod (wrap64 (a0 - 12288)) 28))] : List Int))) else (some (([wrap64 (1792 + (wrap64 (Int.tdiv (wrap64 (Int.tdiv (wrap64 (a0 - 12288)) 28)) 21))), wrap64 (1824 + (Int.tmod (wrap64 (Int.tdiv (wrap64 (a0 - 12288)) 28)) 21))] : List Int)))) else (if a1 = true then ((impl_in.f a0 9984 10009).bind fun t331 => (if t331 = true then (some (([wrap64 ((wrap64 (65 + a0)) - 9984)] : List Int))) else ((impl_in.f a0 10016 10025).bind fun t335 => (if t335 = true then (some (([wrap64 ((wrap64 (48 + a0)) - 10016)] : List Int))) else (if a0 = 8064 then (impl_parts.j1 kj2 a0 true) else (impl_parts.j1 kj2 a0 (a0 == 160))))))) else (some ([] : List Int)))))) = some r := H
     have A17 := Aside0.mk A170
     clear A170
     by_cases c18 : t320 = true
     ·subst c18
      have H1 : (some (([wrap64 ((wrap64 (65 + a0)) - 9728)] : List Int))) = some r := by rw [if_pos rfl] at H; exact H
      clear H
      have H := H1
      clear H1
      obtain ⟨y321, hy321⟩ : ∃ y_ : List Int, y_ = (([wrap64 ((wrap64 (65 + a0)) - 9728)] : List Int)) := ⟨_, rfl⟩
      replace H : (some y321) = some r := by first | (rw [hy321]; with_reducible exact H) | (have H2_ := (Option.bind_some _ _).symm.trans H; rw [hy321]; with_reducible exact H2_) | (have H2_ := (Option.bind_some _ _).symm.trans H; with_reducible exact H2_) | with_reducible exact H | (rw [hy321]; exact H) | exact H
      have Ny321 := Aside0.mk hy321
      clear hy321
      obtain rfl := Option.some.inj H
      go_wp2_with (first | ((with_reducible refine gate_callee (f := 67) rfl ?_); refine goesL_ (some 46) rfl rfl Tryd.func67 (by kernel_rfl) rfl #[.int .i64 a0, .int .i64 9728, .int .i64 9753] rfl (by (try simp only [List.map_toArray, List.map_cons, List.map_nil]); first | done | rfl | (simp only [List.length_drop, List.length_take]; rfl)) ?_; (with_reducible refine (impl_in.calls a0 9728 9753 true _ A17.out).mono ?_); rintro e w' ⟨rfl, ⟨nd, rfl⟩⟩; refine ⟨_, rfl, ?_⟩) | ((with_reducible refine gate_dst (N := 50) rfl ?_); refine Kd.R_lit (Kd.int .i64) _ 2 ?hg (N := 50) ?hd (xs := ([wrap64 ((wrap64 (65 + a0)) - 9728)] : List Int)) (inner := [.int .i64 (wrap64 ((wrap64 (65 + a0)) - 9728))]) (ok := fun _ => True) (okp := fun _ => True) ?hr ?hp (fun _ hk => hk) trivial (Below.refl _ _) (Nat.le_refl _) (by simp) ?_; (case hd => rfl); (case hg => rfl); (case hr => first | (go_simp; done) | (go_simp; rfl)); (case hp => exact (Reps.one (show Kd.M (Kd.int .i64) _ _ _ (wrap64 ((wrap64 (65 + a0)) - 9728)) [.int .i64 (wrap64 ((wrap64 (65 + a0)) - 9728))] from rfl) (Reps.none _ _))); intro v322 w19 ho20 hb hg_ hnew_; clear hg_ hnew_; (first | rw [← Ny321.out] at ho20 | (simp only [Int.reduceToNat] at ho20; rw [← Ny321.out] at ho20)); have n0_ := Aside0.mk (Kd.R_lower (Kd.R_newM (M := fun k_ => (w.heap.size ≤ k_)) ho20 (below_size (by repeat (first | (with_reducible first | exact HB.out | apply below_alloc | apply pw_below_drewN | apply below_drew1) | exact HB.out))) (fun k_ h_ => h_)) (below_size (by repeat (first | (with_reducible first | exact HB.out | apply below_alloc | apply pw_below_drewN | apply below_drew1) | exact HB.out)))); have n1_ := Aside0.mk (below_step (by repeat (first | (with_reducible first | exact HB.out | apply below_alloc | apply pw_below_drewN | apply below_drew1) | exact HB.out)) hb); clear HB; have HO323 := n0_; have HB := n1_; clear n0_ n1_; clear hb ho20))
      go_ret
      exact ⟨_, by first | rfl | (simp [errW_none, errW_some] <;> rfl) | (simp [*, errW_none, errW_some] <;> rfl), (fun hr_ => by first | (have hr2_ := hr_; rw [Ny321.out] at hr2_; exact absurd hr2_ (by simp))), Kd.R_V (by (with_reducible repeat (first | apply Kd.R_alloc | apply Kd.R_drewN | apply Kd.R_drew)); exact Kd.R_mono HO323.out (fun _ hk => hk.1)), by repeat (first | (with_reducible first | exact HB.out | apply below_alloc | apply pw_below_drewN | apply below_drew1) | exact HB.out)⟩
     ·replace c18 := Bool.eq_false_iff.mpr c18
      subst c18
      have H1 : ((impl_in.f a0 12288 23459).bind fun t324 => (if t324 = true then (if (Int.tmod (wrap64 (a0 - 12288)) 28) > 0 then (some (([wrap64 (a0 - (Int.tmod (wrap64 (a0 - 12288)) 28)), wrap64 (1856 + (Int.tmod (wrap64 (a0 - 12288)) 28))] : List Int))) else (some (([wrap64 (1792 + (wrap64 (Int.tdiv (wrap64 (Int.tdiv (wrap64 (a0 - 12288)) 28)) 21))), wrap64 (1824 + (Int.tmod (wrap64 (Int.tdiv (wrap64 (a0 - 12288)) 28)) 21))] : List Int)))) else (if a1 = true then ((impl_in.f a0 9984 10009).bind fun t331 => (if t331 = true then (some (([wrap64 ((wrap64 (65 + a0)) - 9984)] : List Int))) else ((impl_in.f a0 10016 10025).bind fun t335 => (if t335 = true then (some (([wrap64 ((wrap64 (48 + a0)) - 10016)] : List Int))) else (if a0 = 8064 then (impl_parts.j1 kj2 a0 true) else (impl_parts.j1 kj2 a0 (a0 == 160))))))) else (some ([] : List Int))))) = some r := by rw [if_neg (show ¬ (false = true) by decide)] at H; exact H
      clear H
      have H := H1
      clear H1
      replace H := Option.bind_eq_some_iff.mp H
      obtain ⟨t324, A210, H⟩ := H
      replace H : (if t324 = true then (if (Int.tmod (wrap64 (a0 - 12288)) 28) > 0 then (some (([wrap64 (a0 - (Int.tmod (wrap64 (a0 - 12288)) 28)), wrap64 (1856 + (Int.tmod (wrap64 (a0 - 12288)) 28))] : List Int))) else (some (([wrap64 (1792 + (wrap64 (Int.tdiv (wrap64 (Int.tdiv (wrap64 (a0 - 12288)) 28)) 21))), wrap64 (1824 + (Int.tmod (wrap64 (Int.tdiv (wrap64 (a0 - 12288)) 28)) 21))] : List Int)))) else (if a1 = true then ((impl_in.f a0 9984 10009).bind fun t331 => (if t331 = true then (some (([wrap64 ((wrap64 (65 + a0)) - 9984)] : List Int))) else ((impl_in.f a0 10016 10025).bind fun t335 => (if t335 = true then (some (([wrap64 ((wrap64 (48 + a0)) - 10016)] : List Int))) else (if a0 = 8064 then (impl_parts.j1 kj2 a0 true) else (impl_parts.j1 kj2 a0 (a0 == 160))))))) else (some ([] : List Int)))) = some r := H
      have A21 := Aside0.mk A210
      clear A210
      by_cases c22 : t324 = true
      ·subst c22
       have H1 : (if (Int.tmod (wrap64 (a0 - 12288)) 28) > 0 then (some (([wrap64 (a0 - (Int.tmod (wrap64 (a0 - 12288)) 28)), wrap64 (1856 + (Int.tmod (wrap64 (a0 - 12288)) 28))] : List Int))) else (some (([wrap64 (1792 + (wrap64 (Int.tdiv (wrap64 (Int.tdiv (wrap64 (a0 - 12288)) 28)) 21))), wrap64 (1824 + (Int.tmod (wrap64 (Int.tdiv (wrap64 (a0 - 12288)) 28)) 21))] : List Int)))) = some r := by rw [if_pos rfl] at H; exact H
       clear H
       have H := H1
       clear H1
       by_cases c23 : (Int.tmod (wrap64 (a0 - 12288)) 28) > 0
       ·rw [if_pos c23] at H
        have c23b0 : decide (0 < (Int.tmod (wrap64 (a0 - 12288)) 28)) = true := decide_eq_true c23
        clear c23
        obtain ⟨y325, hy325⟩ : ∃ y_ : List Int, y_ = (([wrap64 (a0 - (Int.tmod (wrap64 (a0 - 12288)) 28)), wrap64 (1856 + (Int.tmod (wrap64 (a0 - 12288)) 28))] : List Int)) := ⟨_, rfl⟩
        replace H : (some y325) = some r := by first | (rw [hy325]; with_reducible exact H) | (have H2_ := (Option.bind_some _ _).symm.trans H; rw [hy325]; with_reducible exact H2_) | (have H2_ := (Option.bind_some _ _).symm.trans H; with_reducible exact H2_) | with_reducible exact H | (rw [hy325]; exact H) | exact H
        have Ny325 := Aside0.mk hy325
        clear hy325
        obtain rfl := Option.some.inj H
        go_wp2_with (first | ((with_reducible refine gate_callee (f := 67) rfl ?_); refine goesL_ (some 46) rfl rfl Tryd.func67 (by kernel_rfl) rfl #[.int .i64 a0, .int .i64 9728, .int .i64 9753] rfl (by (try simp only [List.map_toArray, List.map_cons, List.map_nil]); first | done | rfl | (simp only [List.length_drop, List.length_take]; rfl)) ?_; (with_reducible refine (impl_in.calls a0 9728 9753 false _ A17.out).mono ?_); rintro e w' ⟨rfl, ⟨nd, rfl⟩⟩; refine ⟨_, rfl, ?_⟩) | ((with_reducible refine gate_callee (f := 67) rfl ?_); refine goesL_ (some 53) rfl rfl Tryd.func67 (by kernel_rfl) rfl #[.int .i64 a0, .int .i64 12288, .int .i64 23459] rfl (by (try simp only [List.map_toArray, List.map_cons, List.map_nil]); first | done | rfl | (simp only [List.length_drop, List.length_take]; rfl)) ?_; (with_reducible refine (impl_in.calls a0 12288 23459 true _ A21.out).mono ?_); rintro e w' ⟨rfl, ⟨nd, rfl⟩⟩; refine ⟨_, rfl, ?_⟩) | ((with_reducible refine gate_dst (N := 65) rfl ?_); refine Kd.R_lit (Kd.int .i64) _ 2 ?hg (N := 65) ?hd (xs := ([wrap64 (a0 - (Int.tmod (wrap64 (a0 - 12288)) 28)), wrap64 (1856 + (Int.tmod (wrap64 (a0 - 12288)) 28))] : List Int)) (inner := [.int .i64 (wrap64 (a0 - (Int.tmod (wrap64 (a0 - 12288)) 28))), .int .i64 (wrap64 (1856 + (Int.tmod (wrap64 (a0 - 12288)) 28)))]) (ok := fun _ => True) (okp := fun _ => True) ?hr ?hp (fun _ hk => hk) trivial (Below.refl _ _) (Nat.le_refl _) (by simp) ?_; (case hd => rfl); (case hg => rfl); (case hr => first | (go_simp; done) | (go_simp; rfl)); (case hp => exact (Reps.one (show Kd.M (Kd.int .i64) _ _ _ (wrap64 (a0 - (Int.tmod (wrap64 (a0 - 12288)) 28))) [.int .i64 (wrap64 (a0 - (Int.tmod (wrap64 (a0 - 12288)) 28)))] from rfl) (Reps.one (show Kd.M (Kd.int .i64) _ _ _ (wrap64 (1856 + (Int.tmod (wrap64 (a0 - 12288)) 28))) [.int .i64 (wrap64 (1856 + (Int.tmod (wrap64 (a0 - 12288)) 28)))] from rfl) (Reps.none _ _)))); intro v326 w24 ho25 hb hg_ hnew_; clear hg_ hnew_; (first | rw [← Ny325.out] at ho25 | (simp only [Int.reduceToNat] at ho25; rw [← Ny325.out] at ho25)); have n0_ := Aside0.mk (Kd.R_lower (Kd.R_newM (M := fun k_ => (w.heap.size ≤ k_)) ho25 (below_size (by repeat (first | (with_reducible first | exact HB.out | apply below_alloc | apply pw_below_drewN | apply below_drew1) | exact HB.out))) (fun k_ h_ => h_)) (below_size (by repeat (first | (with_reducible first | exact HB.out | apply below_alloc | apply pw_below_drewN | apply below_drew1) | exact HB.out)))); have n1_ := Aside0.mk (below_step (by repeat (first | (with_reducible first | exact HB.out | apply below_alloc | apply pw_below_drewN | apply below_drew1) | exact HB.out)) hb); clear HB; have HO327 := n0_; have HB := n1_; clear n0_ n1_; clear hb ho25))
        go_ret
        exact ⟨_, by first | rfl | (simp [errW_none, errW_some] <;> rfl) | (simp [*, errW_none, errW_some] <;> rfl), (fun hr_ => by first | (have hr2_ := hr_; rw [Ny325.out] at hr2_; exact absurd hr2_ (by simp))), Kd.R_V (by (with_reducible repeat (first | apply Kd.R_alloc | apply Kd.R_drewN | apply Kd.R_drew)); exact Kd.R_mono HO327.out (fun _ hk => hk.1)), by repeat (first | (with_reducible first | exact HB.out | apply below_alloc | apply pw_below_drewN | apply below_drew1) | exact HB.out)⟩
       ·rw [if_neg c23] at H
        have c23b0 : decide (0 < (Int.tmod (wrap64 (a0 - 12288)) 28)) = false := decide_eq_false c23
        clear c23
        obtain ⟨y328, hy328⟩ : ∃ y_ : List Int, y_ = (([wrap64 (1792 + (wrap64 (Int.tdiv (wrap64 (Int.tdiv (wrap64 (a0 - 12288)) 28)) 21))), wrap64 (1824 + (Int.tmod (wrap64 (Int.tdiv (wrap64 (a0 - 12288)) 28)) 21))] : List Int)) := ⟨_, rfl⟩
        replace H : (some y328) = some r := by first | (rw [hy328]; with_reducible exact H) | (have H2_ := (Option.bind_some _ _).symm.trans H; rw [hy328]; with_reducible exact H2_) | (have H2_ := (Option.bind_some _ _).symm.trans H; with_reducible exact H2_) | with_reducible exact H | (rw [hy328]; exact H) | exact H
        have Ny328 := Aside0.mk hy328
        clear hy328
        obtain rfl := Option.some.inj H
        go_wp2_with (first | ((with_reducible refine gate_callee (f := 67) rfl ?_); refine goesL_ (some 46) rfl rfl Tryd.func67 (by kernel_rfl) rfl #[.int .i64 a0, .int .i64 9728, .int .i64 9753] rfl (by (try simp only [List.map_toArray, List.map_cons, List.map_nil]); first | done | rfl | (simp only [List.length_drop, List.length_take]; rfl)) ?_; (with_reducible refine (impl_in.calls a0 9728 9753 false _ A17.out).mono ?_); rintro e w' ⟨rfl, ⟨nd, rfl⟩⟩; refine ⟨_, rfl, ?_⟩) | ((with_reducible refine gate_callee (f := 67) rfl ?_); refine goesL_ (some 53) rfl rfl Tryd.func67 (by kernel_rfl) rfl #[.int .i64 a0, .int .i64 12288, .int .i64 23459] rfl (by (try simp only [List.map_toArray, List.map_cons, List.map_nil]); first | done | rfl | (simp only [List.length_drop, List.length_take]; rfl)) ?_; (with_reducible refine (impl_in.calls a0 12288 23459 true _ A21.out).mono ?_); rintro e w' ⟨rfl, ⟨nd, rfl⟩⟩; refine ⟨_, rfl, ?_⟩) | ((with_reducible refine gate_dst (N := 74) rfl ?_); refine Kd.R_lit (Kd.int .i64) _ 2 ?hg (N := 74) ?hd (xs := ([wrap64 (1792 + (wrap64 (Int.tdiv (wrap64 (Int.tdiv (wrap64 (a0 - 12288)) 28)) 21))), wrap64 (1824 + (Int.tmod (wrap64 (Int.tdiv (wrap64 (a0 - 12288)) 28)) 21))] : List Int)) (inner := [.int .i64 (wrap64 (1792 + (wrap64 (Int.tdiv (wrap64 (Int.tdiv (wrap64 (a0 - 12288)) 28)) 21)))), .int .i64 (wrap64 (1824 + (Int.tmod (wrap64 (Int.tdiv (wrap64 (a0 - 12288)) 28)) 21)))]) (ok := fun _ => True) (okp := fun _ => True) ?hr ?hp (fun _ hk => hk) trivial (Below.refl _ _) (Nat.le_refl _) (by simp) ?_; (case hd => rfl); (case hg => rfl); (case hr => first | (go_simp; done) | (go_simp; rfl)); (case hp => exact (Reps.one (show Kd.M (Kd.int .i64) _ _ _ (wrap64 (1792 + (wrap64 (Int.tdiv (wrap64 (Int.tdiv (wrap64 (a0 - 12288)) 28)) 21)))) [.int .i64 (wrap64 (1792 + (wrap64 (Int.tdiv (wrap64 (Int.tdiv (wrap64 (a0 - 12288)) 28)) 21))))] from rfl) (Reps.one (show Kd.M (Kd.int .i64) _ _ _ (wrap64 (1824 + (Int.tmod (wrap64 (Int.tdiv (wrap64 (a0 - 12288)) 28)) 21))) [.int .i64 (wrap64 (1824 + (Int.tmod (wrap64 (Int.tdiv (wrap64 (a0 - 12288)) 28)) 21)))] from rfl) (Reps.none _ _)))); intro v329 w26 ho27 hb hg_ hnew_; clear hg_ hnew_; (first | rw [← Ny328.out] at ho27 | (simp only [Int.reduceToNat] at ho27; rw [← Ny328.out] at ho27)); have n0_ := Aside0.mk (Kd.R_lower (Kd.R_newM (M := fun k_ => (w.heap.size ≤ k_)) ho27 (below_size (by repeat (first | (with_reducible first | exact HB.out | apply below_alloc | apply pw_below_drewN | apply below_drew1) | exact HB.out))) (fun k_ h_ => h_)) (below_size (by repeat (first | (with_reducible first | exact HB.out | apply below_alloc | apply pw_below_drewN | apply below_drew1) | exact HB.out)))); have n1_ := Aside0.mk (below_step (by repeat (first | (with_reducible first | exact HB.out | apply below_alloc | apply pw_below_drewN | apply below_drew1) | exact HB.out)) hb); clear HB; have HO330 := n0_; have HB := n1_; clear n0_ n1_; clear hb ho27))
        go_ret
        exact ⟨_, by first | rfl | (simp [errW_none, errW_some] <;> rfl) | (simp [*, errW_none, errW_some] <;> rfl), (fun hr_ => by first | (have hr2_ := hr_; rw [Ny328.out] at hr2_; exact absurd hr2_ (by simp))), Kd.R_V (by (with_reducible repeat (first | apply Kd.R_alloc | apply Kd.R_drewN | apply Kd.R_drew)); exact Kd.R_mono HO330.out (fun _ hk => hk.1)), by repeat (first | (with_reducible first | exact HB.out | apply below_alloc | apply pw_below_drewN | apply below_drew1) | exact HB.out)⟩
      ·replace c22 := Bool.eq_false_iff.mpr c22
       subst c22
       have H1 : (if a1 = true then ((impl_in.f a0 9984 10009).bind fun t331 => (if t331 = true then (some (([wrap64 ((wrap64 (65 + a0)) - 9984)] : List Int))) else ((impl_in.f a0 10016 10025).bind fun t335 => (if t335 = true then (some (([wrap64 ((wrap64 (48 + a0)) - 10016)] : List Int))) else (if a0 = 8064 then (impl_parts.j1 kj2 a0 true) else (impl_parts.j1 kj2 a0 (a0 == 160))))))) else (some ([] : List Int))) = some r := by rw [if_neg (show ¬ (false = true) by decide)] at H; exact H
       clear H
       have H := H1
       clear H1
       by_cases c28 : a1 = true
       ·subst c28
        have H1 : ((impl_in.f a0 9984 10009).bind fun t331 => (if t331 = true then (some (([wrap64 ((wrap64 (65 + a0)) - 9984)] : List Int))) else ((impl_in.f a0 10016 10025).bind fun t335 => (if t335 = true then (some (([wrap64 ((wrap64 (48 + a0)) - 10016)] : List Int))) else (if a0 = 8064 then (impl_parts.j1 kj2 a0 true) else (impl_parts.j1 kj2 a0 (a0 == 160))))))) = some r := by rw [if_pos rfl] at H; exact H
        clear H
        have H := H1
        clear H1
        replace H := Option.bind_eq_some_iff.mp H
        obtain ⟨t331, A290, H⟩ := H
        replace H : (if t331 = true then (some (([wrap64 ((wrap64 (65 + a0)) - 9984)] : List Int))) else ((impl_in.f a0 10016 10025).bind fun t335 => (if t335 = true then (some (([wrap64 ((wrap64 (48 + a0)) - 10016)] : List Int))) else (if a0 = 8064 then (impl_parts.j1 kj2 a0 true) else (impl_parts.j1 kj2 a0 (a0 == 160)))))) = some r := H
        have A29 := Aside0.mk A290
        clear A290
        by_cases c30 : t331 = true
        ·subst c30
         have H1 : (some (([wrap64 ((wrap64 (65 + a0)) - 9984)] : List Int))) = some r := by rw [if_pos rfl] at H; exact H
         clear H
         have H := H1
         clear H1
         obtain ⟨y332, hy332⟩ : ∃ y_ : List Int, y_ = (([wrap64 ((wrap64 (65 + a0)) - 9984)] : List Int)) := ⟨_, rfl⟩
         replace H : (some y332) = some r := by first | (rw [hy332]; with_reducible exact H) | (have H2_ := (Option.bind_some _ _).symm.trans H; rw [hy332]; with_reducible exact H2_) | (have H2_ := (Option.bind_some _ _).symm.trans H; with_reducible exact H2_) | with_reducible exact H | (rw [hy332]; exact H) | exact H
         have Ny332 := Aside0.mk hy332
         clear hy332
         obtain rfl := Option.some.inj H
         go_wp2_with (first | ((with_reducible refine gate_callee (f := 67) rfl ?_); refine goesL_ (some 46) rfl rfl Tryd.func67 (by kernel_rfl) rfl #[.int .i64 a0, .int .i64 9728, .int .i64 9753] rfl (by (try simp only [List.map_toArray, List.map_cons, List.map_nil]); first | done | rfl | (simp only [List.length_drop, List.length_take]; rfl)) ?_; (with_reducible refine (impl_in.calls a0 9728 9753 false _ A17.out).mono ?_); rintro e w' ⟨rfl, ⟨nd, rfl⟩⟩; refine ⟨_, rfl, ?_⟩) | ((with_reducible refine gate_callee (f := 67) rfl ?_); refine goesL_ (some 53) rfl rfl Tryd.func67 (by kernel_rfl) rfl #[.int .i64 a0, .int .i64 12288, .int .i64 23459] rfl (by (try simp only [List.map_toArray, List.map_cons, List.map_nil]); first | done | rfl | (simp only [List.length_drop, List.length_take]; rfl)) ?_; (with_reducible refine (impl_in.calls a0 12288 23459 false _ A21.out).mono ?_); rintro e w' ⟨rfl, ⟨nd, rfl⟩⟩; refine ⟨_, rfl, ?_⟩) | ((with_reducible refine gate_callee (f := 67) rfl ?_); refine goesL_ (some 80) rfl rfl Tryd.func67 (by kernel_rfl) rfl #[.int .i64 a0, .int .i64 9984, .int .i64 10009] rfl (by (try simp only [List.map_toArray, List.map_cons, List.map_nil]); first | done | rfl | (simp only [List.length_drop, List.length_take]; rfl)) ?_; (with_reducible refine (impl_in.calls a0 9984 10009 true _ A29.out).mono ?_); rintro e w' ⟨rfl, ⟨nd, rfl⟩⟩; refine ⟨_, rfl, ?_⟩) | ((with_reducible refine gate_dst (N := 84) rfl ?_); refine Kd.R_lit (Kd.int .i64) _ 2 ?hg (N := 84) ?hd (xs := ([wrap64 ((wrap64 (65 + a0)) - 9984)] : List Int)) (inner := [.int .i64 (wrap64 ((wrap64 (65 + a0)) - 9984))]) (ok := fun _ => True) (okp := fun _ => True) ?hr ?hp (fun _ hk => hk) trivial (Below.refl _ _) (Nat.le_refl _) (by simp) ?_; (case hd => rfl); (case hg => rfl); (case hr => first | (go_simp; done) | (go_simp; rfl)); (case hp => exact (Reps.one (show Kd.M (Kd.int .i64) _ _ _ (wrap64 ((wrap64 (65 + a0)) - 9984)) [.int .i64 (wrap64 ((wrap64 (65 + a0)) - 9984))] from rfl) (Reps.none _ _))); intro v333 w31 ho32 hb hg_ hnew_; clear hg_ hnew_; (first | rw [← Ny332.out] at ho32 | (simp only [Int.reduceToNat] at ho32; rw [← Ny332.out] at ho32)); have n0_ := Aside0.mk (Kd.R_lower (Kd.R_newM (M := fun k_ => (w.heap.size ≤ k_)) ho32 (below_size (by repeat (first | (with_reducible first | exact HB.out | apply below_alloc | apply pw_below_drewN | apply below_drew1) | exact HB.out))) (fun k_ h_ => h_)) (below_size (by repeat (first | (with_reducible first | exact HB.out | apply below_alloc | apply pw_below_drewN | apply below_drew1) | exact HB.out)))); have n1_ := Aside0.mk (below_step (by repeat (first | (with_reducible first | exact HB.out | apply below_alloc | apply pw_below_drewN | apply below_drew1) | exact HB.out)) hb); clear HB; have HO334 := n0_; have HB := n1_; clear n0_ n1_; clear hb ho32))
         go_ret
         exact ⟨_, by first | rfl | (simp [errW_none, errW_some] <;> rfl) | (simp [*, errW_none, errW_some] <;> rfl), (fun hr_ => by first | (have hr2_ := hr_; rw [Ny332.out] at hr2_; exact absurd hr2_ (by simp))), Kd.R_V (by (with_reducible repeat (first | apply Kd.R_alloc | apply Kd.R_drewN | apply Kd.R_drew)); exact Kd.R_mono HO334.out (fun _ hk => hk.1)), by repeat (first | (with_reducible first | exact HB.out | apply below_alloc | apply pw_below_drewN | apply below_drew1) | exact HB.out)⟩
        ·replace c30 := Bool.eq_false_iff.mpr c30
         subst c30
         have H1 : ((impl_in.f a0 10016 10025).bind fun t335 => (if t335 = true then (some (([wrap64 ((wrap64 (48 + a0)) - 10016)] : List Int))) else (if a0 = 8064 then (impl_parts.j1 kj2 a0 true) else (impl_parts.j1 kj2 a0 (a0 == 160))))) = some r := by rw [if_neg (show ¬ (false = true) by decide)] at H; exact H
         clear H
         have H := H1
         clear H1
         replace H := Option.bind_eq_some_iff.mp H
         obtain ⟨t335, A330, H⟩ := H
         replace H : (if t335 = true then (some (([wrap64 ((wrap64 (48 + a0)) - 10016)] : List Int))) else (if a0 = 8064 then (impl_parts.j1 kj2 a0 true) else (impl_parts.j1 kj2 a0 (a0 == 160)))) = some r := H
         have A33 := Aside0.mk A330
         clear A330
         by_cases c34 : t335 = true
         ·subst c34
          have H1 : (some (([wrap64 ((wrap64 (48 + a0)) - 10016)] : List Int))) = some r := by rw [if_pos rfl] at H; exact H
          clear H
          have H := H1
          clear H1
          obtain ⟨y336, hy336⟩ : ∃ y_ : List Int, y_ = (([wrap64 ((wrap64 (48 + a0)) - 10016)] : List Int)) := ⟨_, rfl⟩
          replace H : (some y336) = some r := by first | (rw [hy336]; with_reducible exact H) | (have H2_ := (Option.bind_some _ _).symm.trans H; rw [hy336]; with_reducible exact H2_) | (have H2_ := (Option.bind_some _ _).symm.trans H; with_reducible exact H2_) | with_reducible exact H | (rw [hy336]; exact H) | exact H
          have Ny336 := Aside0.mk hy336
          clear hy336
          obtain rfl := Option.some.inj H
          go_wp2_with (first | ((with_reducible refine gate_callee (f := 67) rfl ?_); refine goesL_ (some 46) rfl rfl Tryd.func67 (by kernel_rfl) rfl #[.int .i64 a0, .int .i64 9728, .int .i64 9753] rfl (by (try simp only [List.map_toArray, List.map_cons, List.map_nil]); first | done | rfl | (simp only [List.length_drop, List.length_take]; rfl)) ?_; (with_reducible refine (impl_in.calls a0 9728 9753 false _ A17.out).mono ?_); rintro e w' ⟨rfl, ⟨nd, rfl⟩⟩; refine ⟨_, rfl, ?_⟩) | ((with_reducible refine gate_callee (f := 67) rfl ?_); refine goesL_ (some 53) rfl rfl Tryd.func67 (by kernel_rfl) rfl #[.int .i64 a0, .int .i64 12288, .int .i64 23459] rfl (by (try simp only [List.map_toArray, List.map_cons, List.map_nil]); first | done | rfl | (simp only [List.length_drop, List.length_take]; rfl)) ?_; (with_reducible refine (impl_in.calls a0 12288 23459 false _ A21.out).mono ?_); rintro e w' ⟨rfl, ⟨nd, rfl⟩⟩; refine ⟨_, rfl, ?_⟩) | ((with_reducible refine gate_callee (f := 67) rfl ?_); refine goesL_ (some 80) rfl rfl Tryd.func67 (by kernel_rfl) rfl #[.int .i64 a0, .int .i64 9984, .int .i64 10009] rfl (by (try simp only [List.map_toArray, List.map_cons, List.map_nil]); first | done | rfl | (simp only [List.length_drop, List.length_take]; rfl)) ?_; (with_reducible refine (impl_in.calls a0 9984 10009 false _ A29.out).mono ?_); rintro e w' ⟨rfl, ⟨nd, rfl⟩⟩; refine ⟨_, rfl, ?_⟩) | ((with_reducible refine gate_callee (f := 67) rfl ?_); refine goesL_ (some 87) rfl rfl Tryd.func67 (by kernel_rfl) rfl #[.int .i64 a0, .int .i64 10016, .int .i64 10025] rfl (by (try simp only [List.map_toArray, List.map_cons, List.map_nil]); first | done | rfl | (simp only [List.length_drop, List.length_take]; rfl)) ?_; (with_reducible refine (impl_in.calls a0 10016 10025 true _ A33.out).mono ?_); rintro e w' ⟨rfl, ⟨nd, rfl⟩⟩; refine ⟨_, rfl, ?_⟩) | ((with_reducible refine gate_dst (N := 91) rfl ?_); refine Kd.R_lit (Kd.int .i64) _ 2 ?hg (N := 91) ?hd (xs := ([wrap64 ((wrap64 (48 + a0)) - 10016)] : List Int)) (inner := [.int .i64 (wrap64 ((wrap64 (48 + a0)) - 10016))]) (ok := fun _ => True) (okp := fun _ => True) ?hr ?hp (fun _ hk => hk) trivial (Below.refl _ _) (Nat.le_refl _) (by simp) ?_; (case hd => rfl); (case hg => rfl); (case hr => first | (go_simp; done) | (go_simp; rfl)); (case hp => exact (Reps.one (show Kd.M (Kd.int .i64) _ _ _ (wrap64 ((wrap64 (48 + a0)) - 10016)) [.int .i64 (wrap64 ((wrap64 (48 + a0)) - 10016))] from rfl) (Reps.none _ _))); intro v337 w35 ho36 hb hg_ hnew_; clear hg_ hnew_; (first | rw [← Ny336.out] at ho36 | (simp only [Int.reduceToNat] at ho36; rw [← Ny336.out] at ho36)); have n0_ := Aside0.mk (Kd.R_lower (Kd.R_newM (M := fun k_ => (w.heap.size ≤ k_)) ho36 (below_size (by repeat (first | (with_reducible first | exact HB.out | apply below_alloc | apply pw_below_drewN | apply below_drew1) | exact HB.out))) (fun k_ h_ => h_)) (below_size (by repeat (first | (with_reducible first | exact HB.out | apply below_alloc | apply pw_below_drewN | apply below_drew1) | exact HB.out)))); have n1_ := Aside0.mk (below_step (by repeat (first | (with_reducible first | exact HB.out | apply below_alloc | apply pw_below_drewN | apply below_drew1) | exact HB.out)) hb); clear HB; have HO338 := n0_; have HB := n1_; clear n0_ n1_; clear hb ho36))
          go_ret
          exact ⟨_, by first | rfl | (simp [errW_none, errW_some] <;> rfl) | (simp [*, errW_none, errW_some] <;> rfl), (fun hr_ => by first | (have hr2_ := hr_; rw [Ny336.out] at hr2_; exact absurd hr2_ (by simp))), Kd.R_V (by (with_reducible repeat (first | apply Kd.R_alloc | apply Kd.R_drewN | apply Kd.R_drew)); exact Kd.R_mono HO338.out (fun _ hk => hk.1)), by repeat (first | (with_reducible first | exact HB.out | apply below_alloc | apply pw_below_drewN | apply below_drew1) | exact HB.out)⟩
         ·replace c34 := Bool.eq_false_iff.mpr c34
          subst c34
          have H1 : (if a0 = 8064 then (impl_parts.j1 kj2 a0 true) else (impl_parts.j1 kj2 a0 (a0 == 160))) = some r := by rw [if_neg (show ¬ (false = true) by decide)] at H; exact H
          clear H
          have H := H1
          clear H1
          have HC37 := Aside0.mk H
          clear H
          go_upto_region 22 with (first | ((with_reducible refine gate_callee (f := 67) rfl ?_); refine goesL_ (some 46) rfl rfl Tryd.func67 (by kernel_rfl) rfl #[.int .i64 a0, .int .i64 9728, .int .i64 9753] rfl (by (try simp only [List.map_toArray, List.map_cons, List.map_nil]); first | done | rfl | (simp only [List.length_drop, List.length_take]; rfl)) ?_; (with_reducible refine (impl_in.calls a0 9728 9753 false _ A17.out).mono ?_); rintro e w' ⟨rfl, ⟨nd, rfl⟩⟩; refine ⟨_, rfl, ?_⟩) | ((with_reducible refine gate_callee (f := 67) rfl ?_); refine goesL_ (some 53) rfl rfl Tryd.func67 (by kernel_rfl) rfl #[.int .i64 a0, .int .i64 12288, .int .i64 23459] rfl (by (try simp only [List.map_toArray, List.map_cons, List.map_nil]); first | done | rfl | (simp only [List.length_drop, List.length_take]; rfl)) ?_; (with_reducible refine (impl_in.calls a0 12288 23459 false _ A21.out).mono ?_); rintro e w' ⟨rfl, ⟨nd, rfl⟩⟩; refine ⟨_, rfl, ?_⟩) | ((with_reducible refine gate_callee (f := 67) rfl ?_); refine goesL_ (some 80) rfl rfl Tryd.func67 (by kernel_rfl) rfl #[.int .i64 a0, .int .i64 9984, .int .i64 10009] rfl (by (try simp only [List.map_toArray, List.map_cons, List.map_nil]); first | done | rfl | (simp only [List.length_drop, List.length_take]; rfl)) ?_; (with_reducible refine (impl_in.calls a0 9984 10009 false _ A29.out).mono ?_); rintro e w' ⟨rfl, ⟨nd, rfl⟩⟩; refine ⟨_, rfl, ?_⟩) | ((with_reducible refine gate_callee (f := 67) rfl ?_); refine goesL_ (some 87) rfl rfl Tryd.func67 (by kernel_rfl) rfl #[.int .i64 a0, .int .i64 10016, .int .i64 10025] rfl (by (try simp only [List.map_toArray, List.map_cons, List.map_nil]); first | done | rfl | (simp only [List.length_drop, List.length_take]; rfl)) ?_; (with_reducible refine (impl_in.calls a0 10016 10025 false _ A33.out).mono ?_); rintro e w' ⟨rfl, ⟨nd, rfl⟩⟩; refine ⟨_, rfl, ?_⟩))
          (try simp only [Act.put, List.setIfInBounds_toArray, List.set_cons_zero, List.set_cons_succ])
          go_cut [92] (fun v92 wc => ∃ (kq : Nat) (x92_36 : Bool), v92 = .bool x92_36 ∧ Aside0 (impl_parts.j1 kq a0 x92_36 = some r) ∧ Aside0 (kq ≤ kj2) ∧ Aside0 (Below w.heap.size w wc))
          case first =>
           as_aux_lemma =>
            have H := HC37.out
            clear HC37
            by_cases c38 : a0 = 8064
            ·rw [if_pos c38] at H
             have c38b0 : (a0 == 8064) = true := beq_iff_eq.mpr c38
             have c38b1 : (a0 != 8064) = false := bne_eq_false_iff_eq.mpr c38
             clear c38
             (first | rw [c38b0] | (simp only [i64_w, i32_w]; rw [c38b0]) | skip)
             have H' := Aside0.mk H
             clear H
             go_wp2
             go_meet
             case rel => exact ⟨_, (true), (by first | rfl | (simp; done) | (simp [*]; done)), H', ⟨by have := HJ2.out; first | omega | exact Nat.le_refl _⟩, ⟨by repeat (first | (with_reducible first | exact HB.out | apply below_alloc | apply pw_below_drewN | apply below_drew1) | exact HB.out)⟩⟩
            ·rw [if_neg c38] at H
             have c38b0 : (a0 == 8064) = false := beq_eq_false_iff_ne.mpr c38
             have c38b1 : (a0 != 8064) = true := bne_iff_ne.mpr c38
             (first | rw [c38b0] | (simp only [i64_w, i32_w]; rw [c38b0]) | skip)
             have H' := Aside0.mk H
             clear H
             go_wp2
             go_meet
             case rel => exact ⟨_, ((a0 == 160)), (by first | rfl | (simp; done) | (simp [*]; done)), H', ⟨by have := HJ2.out; first | omega | exact Nat.le_refl _⟩, ⟨by repeat (first | (with_reducible first | exact HB.out | apply below_alloc | apply pw_below_drewN | apply below_drew1) | exact HB.out)⟩⟩
          case rest =>
           as_aux_lemma =>
            clear HC37
            try clear c1
            try clear c2
            try clear p2
            try clear c3
            try clear c5
            try clear c6
            try clear p6
            try clear c7
            try clear c7b0
            try clear c7b1
            try clear c9
            try clear c10
            try clear c11
            try clear c11b0
            try clear c11b1
            try clear c18
            try clear c22
            try clear c23
            try clear c23b0
            try clear c28
            try clear c30
            try clear c34
            try clear c38
            try clear c38b0
            try clear c38b1
            try clear p2
            obtain ⟨kq, x92_36, rfl, HA, HJ36, HB⟩ := hcut
            cases kq with
            | zero => exact absurd HA.out (by simp [impl_parts.j1])
            | succ kj36 =>
             have H := HA.out
             clear HA
             simp only [impl_parts.j1] at H
             by_cases c39 : x92_36 = true
             ·subst c39
              have H1 : (some (([32] : List Int))) = some r := by rw [if_pos rfl] at H; exact H
              clear H
              have H := H1
              clear H1
              obtain ⟨y339, hy339⟩ : ∃ y_ : List Int, y_ = (([32] : List Int)) := ⟨_, rfl⟩
              replace H : (some y339) = some r := by first | (rw [hy339]; with_reducible exact H) | (have H2_ := (Option.bind_some _ _).symm.trans H; rw [hy339]; with_reducible exact H2_) | (have H2_ := (Option.bind_some _ _).symm.trans H; with_reducible exact H2_) | with_reducible exact H | (rw [hy339]; exact H) | exact H
              have Ny339 := Aside0.mk hy339
              clear hy339
              obtain rfl := Option.some.inj H
              go_wp2_with (first | ((with_reducible refine gate_dst (N := 99) rfl ?_); refine Kd.R_lit (Kd.int .i64) _ 2 ?hg (N := 99) ?hd (xs := ([32] : List Int)) (inner := [.int .i64 32]) (ok := fun _ => True) (okp := fun _ => True) ?hr ?hp (fun _ hk => hk) trivial (Below.refl _ _) (Nat.le_refl _) (by simp) ?_; (case hd => rfl); (case hg => rfl); (case hr => first | (go_simp; done) | (go_simp; rfl)); (case hp => exact (Reps.one (show Kd.M (Kd.int .i64) _ _ _ 32 [.int .i64 32] from rfl) (Reps.none _ _))); intro v340 w40 ho41 hb hg_ hnew_; clear hg_ hnew_; (first | rw [← Ny339.out] at ho41 | (simp only [Int.reduceToNat] at ho41; rw [← Ny339.out] at ho41)); have n0_ := Aside0.mk (Kd.R_lower (Kd.R_newM (M := fun k_ => (w.heap.size ≤ k_)) ho41 (below_size (by repeat (first | (with_reducible first | exact HB.out | apply below_alloc | apply pw_below_drewN | apply below_drew1) | exact HB.out))) (fun k_ h_ => h_)) (below_size (by repeat (first | (with_reducible first | exact HB.out | apply below_alloc | apply pw_below_drewN | apply below_drew1) | exact HB.out)))); have n1_ := Aside0.mk (below_step (by repeat (first | (with_reducible first | exact HB.out | apply below_alloc | apply pw_below_drewN | apply below_drew1) | exact HB.out)) hb); clear HB; have HO341 := n0_; have HB := n1_; clear n0_ n1_; clear hb ho41))
              go_ret
              exact ⟨_, by first | rfl | (simp [errW_none, errW_some] <;> rfl) | (simp [*, errW_none, errW_some] <;> rfl), (fun hr_ => by first | (have hr2_ := hr_; rw [Ny339.out] at hr2_; exact absurd hr2_ (by simp))), Kd.R_V (by (with_reducible repeat (first | apply Kd.R_alloc | apply Kd.R_drewN | apply Kd.R_drew)); exact Kd.R_mono HO341.out (fun _ hk => hk.1)), by repeat (first | (with_reducible first | exact HB.out | apply below_alloc | apply pw_below_drewN | apply below_drew1) | exact HB.out)⟩
             ·replace c39 := Bool.eq_false_iff.mpr c39
              subst c39
              have H1 : ((impl_in.f a0 10032 10035).bind fun t342 => (if t342 = true then ((some (([(([102, 102] : List Int)), (([102, 105] : List Int)), (([102, 108] : List Int)), (([115, 116] : List Int))] : List (List Int)) : List (List Int))).bind fun y355 => (if 0 ≤ (wrap64 (a0 - 10032)) then (if (wrap64 (a0 - 10032)) < (y355.length : Int) then (some (rd_L4 y355 (wrap64 (a0 - 10032)))) else (none)) else (none))) else (some ([] : List Int)))) = some r := by rw [if_neg (show ¬ (false = true) by decide)] at H; exact H
              clear H
              have H := H1
              clear H1
              replace H := Option.bind_eq_some_iff.mp H
              obtain ⟨t342, A420, H⟩ := H
              replace H : (if t342 = true then ((some (([(([102, 102] : List Int)), (([102, 105] : List Int)), (([102, 108] : List Int)), (([115, 116] : List Int))] : List (List Int)) : List (List Int))).bind fun y355 => (if 0 ≤ (wrap64 (a0 - 10032)) then (if (wrap64 (a0 - 10032)) < (y355.length : Int) then (some (rd_L4 y355 (wrap64 (a0 - 10032)))) else (none)) else (none))) else (some ([] : List Int))) = some r := H
              have A42 := Aside0.mk A420
              clear A420
              by_cases c43 : t342 = true
              ·subst c43
               have H1 : ((some (([(([102, 102] : List Int)), (([102, 105] : List Int)), (([102, 108] : List Int)), (([115, 116] : List Int))] : List (List Int)) : List (List Int))).bind fun y355 => (if 0 ≤ (wrap64 (a0 - 10032)) then (if (wrap64 (a0 - 10032)) < (y355.length : Int) then (some (rd_L4 y355 (wrap64 (a0 - 10032)))) else (none)) else (none))) = some r := by rw [if_pos rfl] at H; exact H
               clear H
               have H := H1
               clear H1
               obtain ⟨y343, hy343⟩ : ∃ y_ : List Int, y_ = (([102, 102] : List Int)) := ⟨_, rfl⟩
               replace H : ((some (([y343, (([102, 105] : List Int)), (([102, 108] : List Int)), (([115, 116] : List Int))] : List (List Int)) : List (List Int))).bind fun y355 => (if 0 ≤ (wrap64 (a0 - 10032)) then (if (wrap64 (a0 - 10032)) < (y355.length : Int) then (some (rd_L4 y355 (wrap64 (a0 - 10032)))) else (none)) else (none))) = some r := by first | (rw [hy343]; with_reducible exact H) | (have H2_ := (Option.bind_some _ _).symm.trans H; rw [hy343]; with_reducible exact H2_) | (have H2_ := (Option.bind_some _ _).symm.trans H; with_reducible exact H2_) | with_reducible exact H | (rw [hy343]; exact H) | exact H
               have Ny343 := Aside0.mk hy343
               clear hy343
               obtain ⟨y346, hy346⟩ : ∃ y_ : List Int, y_ = (([102, 105] : List Int)) := ⟨_, rfl⟩
               replace H : ((some (([y343, y346, (([102, 108] : List Int)), (([115, 116] : List Int))] : List (List Int)) : List (List Int))).bind fun y355 => (if 0 ≤ (wrap64 (a0 - 10032)) then (if (wrap64 (a0 - 10032)) < (y355.length : Int) then (some (rd_L4 y355 (wrap64 (a0 - 10032)))) else (none)) else (none))) = some r := by first | (rw [hy346]; with_reducible exact H) | (have H2_ := (Option.bind_some _ _).symm.trans H; rw [hy346]; with_reducible exact H2_) | (have H2_ := (Option.bind_some _ _).symm.trans H; with_reducible exact H2_) | with_reducible exact H | (rw [hy346]; exact H) | exact H
               have Ny346 := Aside0.mk hy346
               clear hy346
               obtain ⟨y349, hy349⟩ : ∃ y_ : List Int, y_ = (([102, 108] : List Int)) := ⟨_, rfl⟩
               replace H : ((some (([y343, y346, y349, (([115, 116] : List Int))] : List (List Int)) : List (List Int))).bind fun y355 => (if 0 ≤ (wrap64 (a0 - 10032)) then (if (wrap64 (a0 - 10032)) < (y355.length : Int) then (some (rd_L4 y355 (wrap64 (a0 - 10032)))) else (none)) else (none))) = some r := by first | (rw [hy349]; with_reducible exact H) | (have H2_ := (Option.bind_some _ _).symm.trans H; rw [hy349]; with_reducible exact H2_) | (have H2_ := (Option.bind_some _ _).symm.trans H; with_reducible exact H2_) | with_reducible exact H | (rw [hy349]; exact H) | exact H
               have Ny349 := Aside0.mk hy349
               clear hy349
               obtain ⟨y352, hy352⟩ : ∃ y_ : List Int, y_ = (([115, 116] : List Int)) := ⟨_, rfl⟩
               replace H : ((some (([y343, y346, y349, y352] : List (List Int)) : List (List Int))).bind fun y355 => (if 0 ≤ (wrap64 (a0 - 10032)) then (if (wrap64 (a0 - 10032)) < (y355.length : Int) then (some (rd_L4 y355 (wrap64 (a0 - 10032)))) else (none)) else (none))) = some r := by first | (rw [hy352]; with_reducible exact H) | (have H2_ := (Option.bind_some _ _).symm.trans H; rw [hy352]; with_reducible exact H2_) | (have H2_ := (Option.bind_some _ _).symm.trans H; with_reducible exact H2_) | with_reducible exact H | (rw [hy352]; exact H) | exact H
               have Ny352 := Aside0.mk hy352
               clear hy352
               obtain ⟨y355, hy355⟩ : ∃ y_ : List (List Int), y_ = (([y343, y346, y349, y352] : List (List Int))) := ⟨_, rfl⟩
               replace H : (if 0 ≤ (wrap64 (a0 - 10032)) then (if (wrap64 (a0 - 10032)) < (y355.length : Int) then (some (rd_L4 y355 (wrap64 (a0 - 10032)))) else (none)) else (none)) = some r := by first | (rw [hy355]; with_reducible exact H) | (have H2_ := (Option.bind_some _ _).symm.trans H; rw [hy355]; with_reducible exact H2_) | (have H2_ := (Option.bind_some _ _).symm.trans H; with_reducible exact H2_) | with_reducible exact H | (rw [hy355]; exact H) | exact H
               have Ny355 := Aside0.mk hy355
               clear hy355
               obtain ⟨ji44, hji44⟩ : ∃ j_ : Int, (wrap64 (a0 - 10032)) = j_ := ⟨_, rfl⟩
               replace H : (if 0 ≤ (ji44) then (if (ji44) < (y355.length : Int) then (some (rd_L4 y355 (ji44))) else (none)) else (none)) = some r := by first | (rw [hji44] at H; exact H) | (simp only [hji44] at H ⊢; exact H)
               (try rw [hji44] at A42)
               have hji44w : (IntKind.i64.wrap (a0 - 10032)) = ji44 := (i64_w _).trans hji44
               by_cases c45 : 0 ≤ (ji44)
               ·rw [if_pos c45] at H
                have c45b0 : decide (0 ≤ (ji44)) = true := decide_eq_true c45
                clear c45
                by_cases c46 : (ji44) < (y355.length : Int)
                ·rw [if_pos c46] at H
                 have c46b0 : decide ((ji44) < (y355.length : Int)) = true := decide_eq_true c46
                 clear c46
                 obtain rfl := Option.some.inj H
                 go_wp2_with (first | ((with_reducible refine gate_callee (f := 67) rfl ?_); refine goesL_ (some 102) rfl rfl Tryd.func67 (by kernel_rfl) rfl #[.int .i64 a0, .int .i64 10032, .int .i64 10035] rfl (by (try simp only [List.map_toArray, List.map_cons, List.map_nil]); first | done | rfl | (simp only [List.length_drop, List.length_take]; rfl)) ?_; (with_reducible refine (impl_in.calls a0 10032 10035 true _ A42.out).mono ?_); rintro e w' ⟨rfl, ⟨nd, rfl⟩⟩; refine ⟨_, rfl, ?_⟩) | ((with_reducible refine gate_dst (N := 103) rfl ?_); refine Kd.R_lit (Kd.int .i64) _ 2 ?hg (N := 103) ?hd (xs := ([102, 102] : List Int)) (inner := [.int .i64 102, .int .i64 102]) (ok := fun _ => True) (okp := fun _ => True) ?hr ?hp (fun _ hk => hk) trivial (Below.refl _ _) (Nat.le_refl _) (by simp) ?_; (case hd => rfl); (case hg => rfl); (case hr => first | (go_simp; done) | (go_simp; rfl)); (case hp => exact (Reps.one (show Kd.M (Kd.int .i64) _ _ _ 102 [.int .i64 102] from rfl) (Reps.one (show Kd.M (Kd.int .i64) _ _ _ 102 [.int .i64 102] from rfl) (Reps.none _ _)))); intro v344 w47 ho48 hb hg_ hnew_; clear hg_ hnew_; (first | rw [← Ny343.out] at ho48 | (simp only [Int.reduceToNat] at ho48; rw [← Ny343.out] at ho48)); have n0_ := Aside0.mk (Kd.R_lower (Kd.R_newM (M := fun k_ => (w.heap.size ≤ k_)) ho48 (below_size (by repeat (first | (with_reducible first | exact HB.out | apply below_alloc | apply pw_below_drewN | apply below_drew1) | exact HB.out))) (fun k_ h_ => h_)) (below_size (by repeat (first | (with_reducible first | exact HB.out | apply below_alloc | apply pw_below_drewN | apply below_drew1) | exact HB.out)))); have n1_ := Aside0.mk (below_step (by repeat (first | (with_reducible first | exact HB.out | apply below_alloc | apply pw_below_drewN | apply below_drew1) | exact HB.out)) hb); clear HB; have HO345 := n0_; have HB := n1_; clear n0_ n1_; clear hb ho48) | ((with_reducible refine gate_dst (N := 104) rfl ?_); refine Kd.R_lit (Kd.int .i64) _ 2 ?hg (N := 104) ?hd (xs := ([102, 105] : List Int)) (inner := [.int .i64 102, .int .i64 105]) (ok := fun _ => True) (okp := fun _ => True) ?hr ?hp (fun _ hk => hk) trivial (Below.refl _ _) (Nat.le_refl _) (by simp) ?_; (case hd => rfl); (case hg => rfl); (case hr => first | (go_simp; done) | (go_simp; rfl)); (case hp => exact (Reps.one (show Kd.M (Kd.int .i64) _ _ _ 102 [.int .i64 102] from rfl) (Reps.one (show Kd.M (Kd.int .i64) _ _ _ 105 [.int .i64 105] from rfl) (Reps.none _ _)))); intro v347 w49 ho50 hb hg_ hnew_; clear hg_ hnew_; (first | rw [← Ny346.out] at ho50 | (simp only [Int.reduceToNat] at ho50; rw [← Ny346.out] at ho50)); have n0_ := Aside0.mk (Kd.R_elder' (by (with_reducible repeat (first | apply Kd.R_alloc | apply Kd.R_drewN | apply Kd.R_drew)); exact HO345.out) (Kd.R_base ho50) hb); have n1_ := Aside0.mk (Kd.R_lower (Kd.R_new' (Kd.R_newM (M := fun k_ => (w.heap.size ≤ k_)) ho50 (below_size (by repeat (first | (with_reducible first | exact HB.out | apply below_alloc | apply pw_below_drewN | apply below_drew1) | exact HB.out))) (fun k_ h_ => h_)) (Kd.R_lt (by (with_reducible repeat (first | apply Kd.R_alloc | apply Kd.R_drewN | apply Kd.R_drew)); exact HO345.out))) (below_size (by repeat (first | (with_reducible first | exact HB.out | apply below_alloc | apply pw_below_drewN | apply below_drew1) | exact HB.out)))); have n2_ := Aside0.mk (below_step (by repeat (first | (with_reducible first | exact HB.out | apply below_alloc | apply pw_below_drewN | apply below_drew1) | exact HB.out)) hb); clear HO345; clear HB; have HO345 := n0_; have HO348 := n1_; have HB := n2_; clear n0_ n1_ n2_; clear hb ho50) | ((with_reducible refine gate_dst (N := 105) rfl ?_); refine Kd.R_lit (Kd.int .i64) _ 2 ?hg (N := 105) ?hd (xs := ([102, 108] : List Int)) (inner := [.int .i64 102, .int .i64 108]) (ok := fun _ => True) (okp := fun _ => True) ?hr ?hp (fun _ hk => hk) trivial (Below.refl _ _) (Nat.le_refl _) (by simp) ?_; (case hd => rfl); (case hg => rfl); (case hr => first | (go_simp; done) | (go_simp; rfl)); (case hp => exact (Reps.one (show Kd.M (Kd.int .i64) _ _ _ 102 [.int .i64 102] from rfl) (Reps.one (show Kd.M (Kd.int .i64) _ _ _ 108 [.int .i64 108] from rfl) (Reps.none _ _)))); intro v350 w51 ho52 hb hg_ hnew_; clear hg_ hnew_; (first | rw [← Ny349.out] at ho52 | (simp only [Int.reduceToNat] at ho52; rw [← Ny349.out] at ho52)); have n0_ := Aside0.mk (Kd.R_elder' (by (with_reducible repeat (first | apply Kd.R_alloc | apply Kd.R_drewN | apply Kd.R_drew)); exact HO345.out) (Kd.R_base ho52) hb); have n1_ := Aside0.mk (Kd.R_elder' (by (with_reducible repeat (first | apply Kd.R_alloc | apply Kd.R_drewN | apply Kd.R_drew)); exact HO348.out) (Kd.R_base ho52) hb); have n2_ := Aside0.mk (Kd.R_lower (Kd.R_new' (Kd.R_new' (Kd.R_newM (M := fun k_ => (w.heap.size ≤ k_)) ho52 (below_size (by repeat (first | (with_reducible first | exact HB.out | apply below_alloc | apply pw_below_drewN | apply below_drew1) | exact HB.out))) (fun k_ h_ => h_)) (Kd.R_lt (by (with_reducible repeat (first | apply Kd.R_alloc | apply Kd.R_drewN | apply Kd.R_drew)); exact HO345.out))) (Kd.R_lt (by (with_reducible repeat (first | apply Kd.R_alloc | apply Kd.R_drewN | apply Kd.R_drew)); exact HO348.out))) (below_size (by repeat (first | (with_reducible first | exact HB.out | apply below_alloc | apply pw_below_drewN | apply below_drew1) | exact HB.out)))); have n3_ := Aside0.mk (below_step (by repeat (first | (with_reducible first | exact HB.out | apply below_alloc | apply pw_below_drewN | apply below_drew1) | exact HB.out)) hb); clear HO345; clear HO348; clear HB; have HO345 := n0_; have HO348 := n1_; have HO351 := n2_; have HB := n3_; clear n0_ n1_ n2_ n3_; clear hb ho52) | ((with_reducible refine gate_dst (N := 106) rfl ?_); refine Kd.R_lit (Kd.int .i64) _ 2 ?hg (N := 106) ?hd (xs := ([115, 116] : List Int)) (inner := [.int .i64 115, .int .i64 116]) (ok := fun _ => True) (okp := fun _ => True) ?hr ?hp (fun _ hk => hk) trivial (Below.refl _ _) (Nat.le_refl _) (by simp) ?_; (case hd => rfl); (case hg => rfl); (case hr => first | (go_simp; done) | (go_simp; rfl)); (case hp => exact (Reps.one (show Kd.M (Kd.int .i64) _ _ _ 115 [.int .i64 115] from rfl) (Reps.one (show Kd.M (Kd.int .i64) _ _ _ 116 [.int .i64 116] from rfl) (Reps.none _ _)))); intro v353 w53 ho54 hb hg_ hnew_; clear hg_ hnew_; (first | rw [← Ny352.out] at ho54 | (simp only [Int.reduceToNat] at ho54; rw [← Ny352.out] at ho54)); have n0_ := Aside0.mk (Kd.R_elder' (by (with_reducible repeat (first | apply Kd.R_alloc | apply Kd.R_drewN | apply Kd.R_drew)); exact HO345.out) (Kd.R_base ho54) hb); have n1_ := Aside0.mk (Kd.R_elder' (by (with_reducible repeat (first | apply Kd.R_alloc | apply Kd.R_drewN | apply Kd.R_drew)); exact HO348.out) (Kd.R_base ho54) hb); have n2_ := Aside0.mk (Kd.R_elder' (by (with_reducible repeat (first | apply Kd.R_alloc | apply Kd.R_drewN | apply Kd.R_drew)); exact HO351.out) (Kd.R_base ho54) hb); have n3_ := Aside0.mk (Kd.R_lower (Kd.R_new' (Kd.R_new' (Kd.R_new' (Kd.R_newM (M := fun k_ => (w.heap.size ≤ k_)) ho54 (below_size (by repeat (first | (with_reducible first | exact HB.out | apply below_alloc | apply pw_below_drewN | apply below_drew1) | exact HB.out))) (fun k_ h_ => h_)) (Kd.R_lt (by (with_reducible repeat (first | apply Kd.R_alloc | apply Kd.R_drewN | apply Kd.R_drew)); exact HO345.out))) (Kd.R_lt (by (with_reducible repeat (first | apply Kd.R_alloc | apply Kd.R_drewN | apply Kd.R_drew)); exact HO348.out))) (Kd.R_lt (by (with_reducible repeat (first | apply Kd.R_alloc | apply Kd.R_drewN | apply Kd.R_drew)); exact HO351.out))) (below_size (by repeat (first | (with_reducible first | exact HB.out | apply below_alloc | apply pw_below_drewN | apply below_drew1) | exact HB.out)))); have n4_ := Aside0.mk (below_step (by repeat (first | (with_reducible first | exact HB.out | apply below_alloc | apply pw_below_drewN | apply below_drew1) | exact HB.out)) hb); clear HO345; clear HO348; clear HO351; clear HB; have HO345 := n0_; have HO348 := n1_; have HO351 := n2_; have HO354 := n3_; have HB := n4_; clear n0_ n1_ n2_ n3_ n4_; clear hb ho54; obtain ⟨Ao55, co55, eo55⟩ := Kd.R_slice HO345.out; subst eo55; obtain ⟨Ao56, co56, eo56⟩ := Kd.R_slice HO348.out; subst eo56; obtain ⟨Ao57, co57, eo57⟩ := Kd.R_slice HO351.out; subst eo57; obtain ⟨Ao58, co58, eo58⟩ := Kd.R_slice HO354.out; subst eo58) | ((with_reducible refine gate_dst (N := 107) rfl ?_); refine Kd.N_lit (Kd.slice 2 (Kd.int .i64)) _ 58 ?hg (N' := 107) ?hd (xs := ([y343, y346, y349, y352] : List (List Int))) (inner := [.slice Ao55 y343.length co55, .slice Ao56 y346.length co56, .slice Ao57 y349.length co57, .slice Ao58 y352.length co58]) (ok := (fun k_ => (w.heap.size ≤ k_))) (okp := (fun k_ => (w.heap.size ≤ k_))) ?hr ?hp (fun _ hk => hk) ((show ∀ k_, w53.heap.size ≤ k_ → (fun k_ => (w.heap.size ≤ k_)) k_ from fun k_ hk => (Nat.le_trans (below_size (by repeat (first | (with_reducible first | exact HB.out | apply below_alloc | apply pw_below_drewN | apply below_drew1) | exact HB.out))) hk)) _ (Nat.le_refl _)) (Below.refl _ _) (Nat.le_refl _) (by simp) ?_; (case hd => rfl); (case hg => rfl); (case hr => first | (go_simp; done) | (go_simp; rfl)); (case hp => exact (Reps.one (show Kd.FK (Kd.slice 2 (Kd.int .i64)) _ _ y343 [.slice Ao55 y343.length co55] from (Kd.FK_slice_mk (Kd.R_reads' (Kd.R_mono (ok' := (fun k_ => (w.heap.size ≤ k_))) (HO345.out) (fun k_ hk => hk.1.1.1.1))).2.1 (Kd.R_F (Kd.R_mono (ok' := (fun k_ => (w.heap.size ≤ k_))) (HO345.out) (fun k_ hk => hk.1.1.1.1))))) (Reps.one (show Kd.FK (Kd.slice 2 (Kd.int .i64)) _ _ y346 [.slice Ao56 y346.length co56] from (Kd.FK_slice_mk (Kd.R_reads' (Kd.R_mono (ok' := (fun k_ => (w.heap.size ≤ k_))) (HO348.out) (fun k_ hk => hk.1.1.1.1))).2.1 (Kd.R_F (Kd.R_mono (ok' := (fun k_ => (w.heap.size ≤ k_))) (HO348.out) (fun k_ hk => hk.1.1.1.1))))) (Reps.one (show Kd.FK (Kd.slice 2 (Kd.int .i64)) _ _ y349 [.slice Ao57 y349.length co57] from (Kd.FK_slice_mk (Kd.R_reads' (Kd.R_mono (ok' := (fun k_ => (w.heap.size ≤ k_))) (HO351.out) (fun k_ hk => hk.1.1.1.1))).2.1 (Kd.R_F (Kd.R_mono (ok' := (fun k_ => (w.heap.size ≤ k_))) (HO351.out) (fun k_ hk => hk.1.1.1.1))))) (Reps.one (show Kd.FK (Kd.slice 2 (Kd.int .i64)) _ _ y352 [.slice Ao58 y352.length co58] from (Kd.FK_slice_mk (Kd.R_reads' (Kd.R_mono (ok' := (fun k_ => (w.heap.size ≤ k_))) (HO354.out) (fun k_ hk => hk.1.1.1.1))).2.1 (Kd.R_F (Kd.R_mono (ok' := (fun k_ => (w.heap.size ≤ k_))) (HO354.out) (fun k_ hk => hk.1.1.1.1))))) (Reps.none _ _)))))); intro v356 w59 ho60 hb hg_ hnew_; clear hg_ hnew_; (first | rw [← Ny355.out] at ho60 | (simp only [Int.reduceToNat] at ho60; rw [← Ny355.out] at ho60)); have n0_ := Aside0.mk (Kd.N_lower ho60 (below_size (by repeat (first | (with_reducible first | exact HB.out | apply below_alloc | apply pw_below_drewN | apply below_drew1) | exact HB.out)))); have n1_ := Aside0.mk (below_step (by repeat (first | (with_reducible first | exact HB.out | apply below_alloc | apply pw_below_drewN | apply below_drew1) | exact HB.out)) hb); clear HB; clear HO345; clear HO348; clear HO351; clear HO354; have HO357 := n0_; have HB := n1_; clear n0_ n1_; clear hb ho60; obtain ⟨Ao61, co61, eo61⟩ := Kd.N_slice HO357.out; subst eo61; have p358 : 0 ≤ ((ji44) : Int) := of_decide_eq_true (by first | (with_reducible assumption) | assumption); have q358 : (ji44) < (y355.length : Int) := of_decide_eq_true (by first | (with_reducible assumption) | assumption); obtain ⟨ad358, A358_0, c358_0, e358, hx358_0, hl358_0, hi358_0⟩ := at_L4 (Kd.N_reads' HO357.out).2.2 (ji44) p358 q358; cases e358; obtain ⟨ce358, hce358, hMe358, hcc358⟩ := Kd.N_get HO357.out [] (ji44) p358 (by first | exact q358 | exact of_decide_eq_true (by first | (with_reducible assumption) | assumption) | (have e_ := (Kd.N_reads' HO357.out).1; omega)); obtain ⟨ua358_0, uc358_0, rfl, ul358_0, ge358_0⟩ := Kd.FK_slice_open hMe358; have hv358_0 := hcc358 0 _ rfl; rw [Nat.add_zero, show ((Kd.slice 2 (Kd.int .i64))).sz = 1 from rfl, Nat.mul_one] at hv358_0; replace hv358_0 := Option.some.inj (hv358_0.symm.trans hx358_0); injection hv358_0 with hva_ hvn_ hvc_; rw [hva_] at ge358_0; rw [hvc_] at ul358_0; have HL358_0 := Aside0.mk (show Kd.V (Kd.int .i64) 2 _ w.heap.size _ _ (rd_L4 y355 (ji44)) from Kd.V_mk ul358_0 ge358_0); clear hva_ hvn_ hvc_ ge358_0 ul358_0; clear hcc358 hce358; have HR358_0 := Aside0.mk hi358_0; have HC358_0 := Aside0.mk hl358_0; clear hi358_0 hl358_0; replace p358 := eq_true p358; replace q358 := eq_true q358))
                 go_ret
                 exact ⟨_, by first | rfl | (simp [errW_none, errW_some] <;> rfl) | (simp only [← hji44]; first | rfl | (simp [errW_none, errW_some] <;> rfl)) | (simp [*, errW_none, errW_some] <;> rfl), (fun hr_ => by first | (exact absurd hr_ (rd4_ne (by rw [Ny355.out, Ny343.out, Ny346.out, Ny349.out, Ny352.out]) (of_decide_eq_true (by assumption)) (of_decide_eq_true (by assumption)))) | (have hr2_ := hr_; rw [Ny355.out] at hr2_; exact absurd hr2_ (by simp))), by (with_reducible repeat (first | apply Kd.V_alloc | apply Kd.V_drewN | apply Kd.V_drew)); exact Kd.V_mono HL358_0.out (fun _ hk => hk.1), by repeat (first | (with_reducible first | exact HB.out | apply below_alloc | apply pw_below_drewN | apply below_drew1) | exact HB.out)⟩
                ·rw [if_neg c46] at H
                 exact absurd H (by simp)
               ·rw [if_neg c45] at H
                exact absurd H (by simp)
              ·replace c43 := Bool.eq_false_iff.mpr c43
               subst c43
               have H1 : (some ([] : List Int)) = some r := by rw [if_neg (show ¬ (false = true) by decide)] at H; exact H
               clear H
               have H := H1
               clear H1
               obtain rfl := Option.some.inj H
               go_wp2_with (first | ((with_reducible refine gate_callee (f := 67) rfl ?_); refine goesL_ (some 102) rfl rfl Tryd.func67 (by kernel_rfl) rfl #[.int .i64 a0, .int .i64 10032, .int .i64 10035] rfl (by (try simp only [List.map_toArray, List.map_cons, List.map_nil]); first | done | rfl | (simp only [List.length_drop, List.length_take]; rfl)) ?_; (with_reducible refine (impl_in.calls a0 10032 10035 false _ A42.out).mono ?_); rintro e w' ⟨rfl, ⟨nd, rfl⟩⟩; refine ⟨_, rfl, ?_⟩))
               go_ret
               exact ⟨.slice none 0 0, by first | rfl | (simp [errW_none, errW_some] <;> rfl) | (simp [*, errW_none, errW_some] <;> rfl), (by intros; rfl), Kd.R_V (Kd.R_nil _ _ _ w.heap.size _), by repeat (first | (with_reducible first | exact HB.out | apply below_alloc | apply pw_below_drewN | apply below_drew1) | exact HB.out)⟩
       ·replace c28 := Bool.eq_false_iff.mpr c28
        subst c28
        have H1 : (some ([] : List Int)) = some r := by rw [if_neg (show ¬ (false = true) by decide)] at H; exact H
        clear H
        have H := H1
        clear H1
        obtain rfl := Option.some.inj H
        go_wp2_with (first | ((with_reducible refine gate_callee (f := 67) rfl ?_); refine goesL_ (some 46) rfl rfl Tryd.func67 (by kernel_rfl) rfl #[.int .i64 a0, .int .i64 9728, .int .i64 9753] rfl (by (try simp only [List.map_toArray, List.map_cons, List.map_nil]); first | done | rfl | (simp only [List.length_drop, List.length_take]; rfl)) ?_; (with_reducible refine (impl_in.calls a0 9728 9753 false _ A17.out).mono ?_); rintro e w' ⟨rfl, ⟨nd, rfl⟩⟩; refine ⟨_, rfl, ?_⟩) | ((with_reducible refine gate_callee (f := 67) rfl ?_); refine goesL_ (some 53) rfl rfl Tryd.func67 (by kernel_rfl) rfl #[.int .i64 a0, .int .i64 12288, .int .i64 23459] rfl (by (try simp only [List.map_toArray, List.map_cons, List.map_nil]); first | done | rfl | (simp only [List.length_drop, List.length_take]; rfl)) ?_; (with_reducible refine (impl_in.calls a0 12288 23459 false _ A21.out).mono ?_); rintro e w' ⟨rfl, ⟨nd, rfl⟩⟩; refine ⟨_, rfl, ?_⟩))
        go_ret
        exact ⟨.slice none 0 0, by first | rfl | (simp [errW_none, errW_some] <;> rfl) | (simp [*, errW_none, errW_some] <;> rfl), (by intros; rfl), Kd.R_V (Kd.R_nil _ _ _ w.heap.size _), by repeat (first | (with_reducible first | exact HB.out | apply below_alloc | apply pw_below_drewN | apply below_drew1) | exact HB.out)⟩

/-! ### impl_decompose: function 77 -/
mutual
def impl_decompose.l0 : Nat → Bool → List Int → List Int → Int → Int → Option (List Int)
 | 0, _, _, _, _, _ => none
 | k + 1, x1, x6, x16, x17, x18 => if x18 < x17 then (if 0 ≤ x18 then (if x18 < (x16.length : Int) then ((impl_decompose.f k (rd x16 x18) x1).bind fun t366 => (if x6.length + t366.length < 17592186044416 then (impl_decompose.l0 k x1 (x6 ++ t366) x16 x17 (wrap64 (x18 + 1))) else (none))) else (none)) else (none)) else (some x6)
def impl_decompose.f : Nat → Int → Bool → Option (List Int)
 | 0, _, _ => none
 | k + 1, a0, a1 => (impl_parts.f k a0 a1).bind fun t359 => (if (t359.length : Int) = 0 then (some (([a0] : List Int))) else (impl_decompose.l0 k a1 ([] : List Int) t359 (t359.length : Int) 0))
end
set_option maxHeartbeats 8000000 in
set_option maxRecDepth 100000 in
theorem impl_decompose.calls (k : Nat) : ∀ (a0 : Int) (a1 : Bool) (r : List Int) (w : World) (h : impl_decompose.f k a0 a1 = some r),
  Calls Tryd.prog 77 #[.int .i64 a0, .bool a1] w fun e w' => ∃ v0_ : Value, e = .returned (v0_) ∧ Kd.R (Kd.int .i64) 2 w' w.heap.size (fun _ => True) v0_ r ∧ Below w.heap.size w w' := by
 induction k using Nat.strongRecOn with
 | _ k ih =>
 intro a0 a1 r w h
 cases k with
 | zero => exact absurd h (by simp [impl_decompose.f])
 | succ k =>
 simp only [impl_decompose.f] at h
 have HB := Aside0.mk (Below.refl w.heap.size w)
 have H : ((impl_parts.f k a0 a1).bind fun t359 => (if (t359.length : Int) = 0 then (some (([a0] : List Int))) else (impl_decompose.l0 k a1 ([] : List Int) t359 (t359.length : Int) 0))) = some r := h
 clear h
 replace H := Option.bind_eq_some_iff.mp H
 obtain ⟨t359, A30, H⟩ := H
 replace H : (if (t359.length : Int) = 0 then (some (([a0] : List Int))) else (impl_decompose.l0 k a1 ([] : List Int) t359 (t359.length : Int) 0)) = some r := H
 have A3 := Aside0.mk A30
 clear A30
 by_cases c4 : (t359.length : Int) = 0
 ·rw [if_pos c4] at H
  have c4b0 : ((t359.length : Int) == 0) = true := beq_iff_eq.mpr c4
  have c4b1 : ((t359.length : Int) != 0) = false := bne_eq_false_iff_eq.mpr c4
  clear c4
  obtain ⟨y362, hy362⟩ : ∃ y_ : List Int, y_ = (([a0] : List Int)) := ⟨_, rfl⟩
  replace H : (some y362) = some r := by first | (rw [hy362]; with_reducible exact H) | (have H2_ := (Option.bind_some _ _).symm.trans H; rw [hy362]; with_reducible exact H2_) | (have H2_ := (Option.bind_some _ _).symm.trans H; with_reducible exact H2_) | with_reducible exact H | (rw [hy362]; exact H) | exact H
  have Ny362 := Aside0.mk hy362
  clear hy362
  obtain rfl := Option.some.inj H
  have qT_ : ∀ (w : World) (a : Option Addr) (n c : Nat), (binOp .eql 58 (.slice a n c) (.slice none 0 0)).run Tryd.prog w = .ok (.bool a.isNone) w := fun w a n c => Lib.run_eql_slice_nil w _ _ a n c 0 0 Tryd.underlying58
  go_enter Tryd.func77, Tryd.ntmps77
  go_wp2_with (first | ((with_reducible refine gate_callee (f := 90) rfl ?_); refine goesL_ (some 11) rfl rfl Tryd.func90 (by kernel_rfl) rfl #[.int .i64 a0, .bool a1] rfl (by (try simp only [List.map_toArray, List.map_cons, List.map_nil]); first | done | rfl | (simp only [List.length_drop, List.length_take]; rfl)) ?_; (with_reducible refine (impl_parts.calls_nil k a0 a1 t359 _ A3.out).mono ?_); rintro e w5 ⟨v360, rfl, hnil_, ho0, hb⟩; have hv_ := hnil_ (List.eq_nil_of_length_eq_zero (by have := eq_of_beq c4b0; omega)); subst hv_; clear hnil_; refine ⟨_, rfl, ?_⟩; have n0_ := Aside0.mk (Kd.V_lower (Kd.V_mono (ok' := fun k_ => True) ho0 (fun k_ hk_ => trivial)) (below_size (by repeat (first | (with_reducible first | exact HB.out | apply below_alloc | apply pw_below_drewN | apply below_drew1) | exact HB.out)))); have n1_ := Aside0.mk (below_step (by repeat (first | (with_reducible first | exact HB.out | apply below_alloc | apply pw_below_drewN | apply below_drew1) | exact HB.out)) hb); clear HB; have HO361 := n0_; have HB := n1_; clear n0_ n1_; (try clear hb); (try clear hb2); (try clear hk); (try clear hi); (try clear ho0)) | ((with_reducible refine gate_dst (N := 15) rfl ?_); refine Kd.R_lit (Kd.int .i64) _ 2 ?hg (N := 15) ?hd (xs := ([a0] : List Int)) (inner := [.int .i64 a0]) (ok := fun _ => True) (okp := fun _ => True) ?hr ?hp (fun _ hk => hk) trivial (Below.refl _ _) (Nat.le_refl _) (by simp) ?_; (case hd => rfl); (case hg => rfl); (case hr => first | (go_simp; done) | (go_simp; rfl)); (case hp => exact (Reps.one (show Kd.M (Kd.int .i64) _ _ _ a0 [.int .i64 a0] from rfl) (Reps.none _ _))); intro v363 w7 ho8 hb hg_ hnew_; clear hg_ hnew_; (first | rw [← Ny362.out] at ho8 | (simp only [Int.reduceToNat] at ho8; rw [← Ny362.out] at ho8)); have n0_ := Aside0.mk (Kd.V_elder' (by (with_reducible repeat (first | apply Kd.V_alloc | apply Kd.V_drewN | apply Kd.V_drew)); exact HO361.out) (Kd.R_base ho8) hb); have n1_ := Aside0.mk (Kd.R_lower ho8 (below_size (by repeat (first | (with_reducible first | exact HB.out | apply below_alloc | apply pw_below_drewN | apply below_drew1) | exact HB.out)))); have n2_ := Aside0.mk (below_step (by repeat (first | (with_reducible first | exact HB.out | apply below_alloc | apply pw_below_drewN | apply below_drew1) | exact HB.out)) hb); clear HO361; clear HB; have HO361 := n0_; have HO364 := n1_; have HB := n2_; clear n0_ n1_ n2_; clear hb ho8))
  go_ret
  exact ⟨_, by first | rfl | (simp [errW_none, errW_some] <;> rfl) | (simp [*, errW_none, errW_some] <;> rfl), by (with_reducible repeat (first | apply Kd.R_alloc | apply Kd.R_drewN | apply Kd.R_drew)); exact HO364.out, by repeat (first | (with_reducible first | exact HB.out | apply below_alloc | apply pw_below_drewN | apply below_drew1) | exact HB.out)⟩
 ·rw [if_neg c4] at H
  have c4b0 : ((t359.length : Int) == 0) = false := beq_eq_false_iff_ne.mpr c4
  have c4b1 : ((t359.length : Int) != 0) = true := bne_iff_ne.mpr c4
  have c4b2 : ¬ (t359 = []) := fun h_ => c4 (by rw [h_]; rfl)
  have H' := Aside0.mk H
  clear H
  have qT_ : ∀ (w : World) (a : Option Addr) (n c : Nat), (binOp .eql 58 (.slice a n c) (.slice none 0 0)).run Tryd.prog w = .ok (.bool a.isNone) w := fun w a n c => Lib.run_eql_slice_nil w _ _ a n c 0 0 Tryd.underlying58
  go_enter Tryd.func77, Tryd.ntmps77
  go_wp2_with (first | ((with_reducible refine gate_callee (f := 90) rfl ?_); refine goesL_ (some 11) rfl rfl Tryd.func90 (by kernel_rfl) rfl #[.int .i64 a0, .bool a1] rfl (by (try simp only [List.map_toArray, List.map_cons, List.map_nil]); first | done | rfl | (simp only [List.length_drop, List.length_take]; rfl)) ?_; (with_reducible refine (impl_parts.calls_nil k a0 a1 t359 _ A3.out).mono ?_); rintro e w9 ⟨v360, rfl, hnil_, ho0, hb⟩; clear hnil_; refine ⟨_, rfl, ?_⟩; have n0_ := Aside0.mk (Kd.V_lower (Kd.V_mono (ok' := fun k_ => True) ho0 (fun k_ hk_ => trivial)) (below_size (by repeat (first | (with_reducible first | exact HB.out | apply below_alloc | apply pw_below_drewN | apply below_drew1) | exact HB.out)))); have n1_ := Aside0.mk (below_step (by repeat (first | (with_reducible first | exact HB.out | apply below_alloc | apply pw_below_drewN | apply below_drew1) | exact HB.out)) hb); clear HB; have HO361 := n0_; have HB := n1_; clear n0_ n1_; (try clear hb); (try clear hb2); (try clear hk); (try clear hi); (try clear ho0); obtain ⟨Ao10, co10, eo10⟩ := Kd.V_slice HO361.out; subst eo10; have hsn_ : Ao10.isNone = false := (by obtain ⟨ad_, e_, _⟩ := Kd.at_int (Kd.V_reads' HO361.out).2.2 0 (Int.le_refl 0) (by have := beq_eq_false_iff_ne.mp c4b0; omega); rw [e_]; rfl)))
  go_loopg [6, 18] k (fun kq v6 v18 w' => ∃ (x6_1 : List Int) (x18_1 : Int), v18 = .int .i64 x18_1 ∧ Aside0 (impl_decompose.l0 kq a1 x6_1 t359 (t359.length : Int) x18_1 = some r) ∧ Aside0 (kq ≤ k) ∧ Aside0 (Kd.R (Kd.int .i64) 2 w' w.heap.size (fun _ => True) v6 x6_1) ∧ Aside0 (Kd.V (Kd.int .i64) 2 w' w.heap.size (fun k_ => some k_ ≠ (v6 : Value).ownBlock) (.slice Ao10 t359.length co10) t359) ∧ Aside0 (Below w.heap.size w w'))
  case atStart => exact ⟨(([] : List Int)), (0), (by first | rfl | (simp; done) | (simp [*]; done)), H', ⟨Nat.le_refl _⟩, ⟨by first | exact Kd.R_nil _ _ _ _ _ | exact Kd.N_nil _ _ _ _ _ | exact Kd.V_nil _ _ _ _ _ | exact Kd.Q_nil _ _ _ _ _ | exact Kd.S_nil _ _ _ _ _⟩, ⟨by (with_reducible repeat (first | apply Kd.V_alloc | apply Kd.V_drewN | apply Kd.V_drew)); exact Kd.V_mono HO361.out (fun _ hk => (by simp [Value.ownBlock]))⟩, ⟨by repeat (first | (with_reducible first | exact HB.out | apply below_alloc | apply pw_below_drewN | apply below_drew1) | exact HB.out)⟩⟩
  case round =>
   clear H'
   try clear p2
   try clear c4
   try clear c4b0
   try clear c4b1
   try clear c4b2
   try clear c7
   try clear c9
   obtain ⟨x6_1, x18_1, rfl, HA, HK1, HO_6, HO_16, HB⟩ := hrel
   cases gk with
   | zero => exact absurd HA.out (by simp [impl_decompose.l0])
   | succ k1 =>
    have H := HA.out
    clear HA
    simp only [impl_decompose.l0] at H
    by_cases c11 : x18_1 < (t359.length : Int)
    ·rw [if_pos c11] at H
     have c11b0 : decide (x18_1 < (t359.length : Int)) = true := decide_eq_true c11
     clear c11
     by_cases c12 : 0 ≤ x18_1
     ·rw [if_pos c12] at H
      have c12b0 : decide (0 ≤ x18_1) = true := decide_eq_true c12
      clear c12
      by_cases c13 : x18_1 < (t359.length : Int)
      ·rw [if_pos c13] at H
       have c13b0 : decide (x18_1 < (t359.length : Int)) = true := decide_eq_true c13
       clear c13
       replace H := Option.bind_eq_some_iff.mp H
       obtain ⟨t366, A140, H⟩ := H
       replace H : (if x6_1.length + t366.length < 17592186044416 then (impl_decompose.l0 k1 a1 (x6_1 ++ t366) t359 (t359.length : Int) (wrap64 (x18_1 + 1))) else (none)) = some r := H
       have A14 := Aside0.mk A140
       clear A140
       by_cases c15 : x6_1.length + t366.length < 17592186044416
       ·rw [if_pos c15] at H
        have LMc15 := Aside0.mk c15
        clear c15
        obtain ⟨y369, hy369⟩ : ∃ y_ : List Int, y_ = (x6_1 ++ t366) := ⟨_, rfl⟩
        replace H : (impl_decompose.l0 k1 a1 y369 t359 (t359.length : Int) (wrap64 (x18_1 + 1))) = some r := by first | (rw [hy369]; with_reducible exact H) | (have H2_ := (Option.bind_some _ _).symm.trans H; rw [hy369]; with_reducible exact H2_) | (have H2_ := (Option.bind_some _ _).symm.trans H; with_reducible exact H2_) | with_reducible exact H | (rw [hy369]; exact H) | exact H
        have Ny369 := Aside0.mk hy369
        clear hy369
        have H' := Aside0.mk H
        clear H
        have p365 : 0 ≤ (x18_1 : Int) := of_decide_eq_true (by first | (with_reducible assumption) | assumption)
        have q365 : x18_1 < (t359.length : Int) := of_decide_eq_true (by first | (with_reducible assumption) | assumption)
        obtain ⟨ad365, e365, hx365_0⟩ := Kd.at_int (Kd.V_reads' HO_16.out).2.2 x18_1 p365 q365
        cases e365
        replace p365 := eq_true p365
        replace q365 := eq_true q365
        go_wp2_with (first | ((with_reducible refine gate_callee (f := 77) rfl ?_); refine goesL_ (some 25) rfl rfl Tryd.func77 (by kernel_rfl) rfl #[.int .i64 (rd t359 x18_1), .bool a1] rfl (by (try simp only [List.map_toArray, List.map_cons, List.map_nil]); first | done | rfl | (simp only [List.length_drop, List.length_take]; rfl)) ?_; (with_reducible refine (ih k1 (by have := HK1.out; omega) (rd t359 x18_1) a1 t366 _ A14.out).mono ?_); rintro e w16 ⟨v367, rfl, ho0, hb⟩; refine ⟨_, rfl, ?_⟩; have n0_ := Aside0.mk (Kd.R_elder' (by (with_reducible repeat (first | apply Kd.R_alloc | apply Kd.R_drewN | apply Kd.R_drew)); exact HO_6.out) (Kd.R_base ho0) hb); have n1_ := Aside0.mk (Kd.V_elder' (by (with_reducible repeat (first | apply Kd.V_alloc | apply Kd.V_drewN | apply Kd.V_drew)); exact HO_16.out) (Kd.R_base ho0) hb); have n2_ := Aside0.mk (Kd.R_lower (Kd.R_new' ho0 (Kd.R_lt (by (with_reducible repeat (first | apply Kd.R_alloc | apply Kd.R_drewN | apply Kd.R_drew)); exact HO_6.out))) (below_size (by repeat (first | (with_reducible first | exact HB.out | apply below_alloc | apply pw_below_drewN | apply below_drew1) | exact HB.out)))); have n3_ := Aside0.mk (below_step (by repeat (first | (with_reducible first | exact HB.out | apply below_alloc | apply pw_below_drewN | apply below_drew1) | exact HB.out)) hb); clear HO_6; clear HO_16; clear HB; have HO_6 := n0_; have HO_16 := n1_; have HO368 := n2_; have HB := n3_; clear n0_ n1_ n2_ n3_; (try clear hb); (try clear hb2); (try clear hk); (try clear hi); (try clear ho0); obtain ⟨Ao18, co18, eo18⟩ := Kd.R_slice HO368.out; subst eo18) | ((with_reducible refine gate_builtin (b := .append) (xs := #[.tmp 22, .tmp 25]) rfl ?_); at_builtin; refine Kd.R_append_rows (Kd.int .i64) (w0 := w) w.heap.size rfl (.tmp 22) (.tmp 25) 58 2 (.int .i64 0) 8 rfl Tryd.underlying58 info2 rfl (by decide) (by omega) u6 x6_1 t366 _ _ _ (fun k_ => some k_ ≠ (.slice Ao18 t366.length co18 : Value).ownBlock) (fun _ => False) rfl rfl ?aO ?aR (fun _ _ h => h) (fun _ h => h.elim) ?aF ?aB ?aS ?aL ?_; (case aR => repeat (first | exact (Kd.R_reads' HO368.out).2.2 | (with_reducible refine Kd.C_alloc ?_ _) | (with_reducible refine Kd.C_drewN ?_ _) | (with_reducible refine Kd.C_drew ?_))); (case aB => exact (by repeat (first | (with_reducible first | exact HB.out | apply below_alloc | apply pw_below_drewN | apply below_drew1) | exact HB.out))); (case aF => exact (fun k_ hk => Kd.fresh' (Kd.R_lt (by (with_reducible repeat (first | apply Kd.R_alloc | apply Kd.R_drewN | apply Kd.R_drew)); exact HO368.out)) k_ hk)); (case aO => exact (by (with_reducible repeat (first | apply Kd.R_alloc | apply Kd.R_drewN | apply Kd.R_drew)); exact Kd.R_mono HO_6.out (fun _ hk => hk.2))); (case aS => exact (below_size (by repeat (first | (with_reducible first | exact HB.out | apply below_alloc | apply pw_below_drewN | apply below_drew1) | exact HB.out)))); (case aL => have := LMc15.out; omega); intro v370 w17 ho hb hg hat; rw [← Ny369.out] at ho; have n0_ := Aside0.mk (Kd.V_afterv (ok := (fun k_ => some k_ ≠ (.slice Ao18 t366.length co18 : Value).ownBlock)) (by (with_reducible repeat (first | apply Kd.V_alloc | apply Kd.V_drewN | apply Kd.V_drew)); exact Kd.V_mono HO_16.out (fun _ hk => ⟨hk.2, hk.1⟩)) hg hat); have n1_ := Aside0.mk (Kd.R_after (ok := (fun _ => True)) (by (with_reducible repeat (first | apply Kd.R_alloc | apply Kd.R_drewN | apply Kd.R_drew)); exact HO368.out) hg hat); have n2_ := Aside0.mk (hb); have n3_ := Aside0.mk (ho); clear HO_16; clear HO368; clear HB; clear HO_6; have HO_16 := n0_; have HO368 := n1_; have HB := n2_; have HO371 := n3_; clear n0_ n1_ n2_ n3_; clear ho hb hg hat))
        go_roundg k1
        case measure => have := HK1.out; omega
        case rel => exact ⟨(y369), (wrap64 (x18_1 + 1)), (by first | rfl | (simp; done) | (simp [*]; done)), H', ⟨by have := HK1.out; omega⟩, ⟨by (with_reducible repeat (first | apply Kd.R_alloc | apply Kd.R_drewN | apply Kd.R_drew)); exact Kd.R_mono HO371.out (fun _ hk => trivial)⟩, ⟨by (with_reducible repeat (first | apply Kd.V_alloc | apply Kd.V_drewN | apply Kd.V_drew)); exact Kd.V_mono HO_16.out (fun _ hk => hk.2)⟩, ⟨by repeat (first | (with_reducible first | exact HB.out | apply below_alloc | apply pw_below_drewN | apply below_drew1) | exact HB.out)⟩⟩
       ·rw [if_neg c15] at H
        exact absurd H (by simp)
      ·rw [if_neg c13] at H
       exact absurd H (by simp)
     ·rw [if_neg c12] at H
      exact absurd H (by simp)
    ·rw [if_neg c11] at H
     have c11b0 : decide (x18_1 < (t359.length : Int)) = false := decide_eq_false c11
     clear c11
     obtain rfl := Option.some.inj H
     go_wp2
     go_ret
     exact ⟨_, by first | rfl | (simp [errW_none, errW_some] <;> rfl) | (simp [*, errW_none, errW_some] <;> rfl), by (with_reducible repeat (first | apply Kd.R_alloc | apply Kd.R_drewN | apply Kd.R_drew)); exact HO_6.out, by repeat (first | (with_reducible first | exact HB.out | apply below_alloc | apply pw_below_drewN | apply below_drew1) | exact HB.out)⟩

/-! ### impl_safe: function 59 -/
def impl_safe.f (k : Nat) (a0 : Int) (a1 : Int) : Option (Bool) := (impl_decompose.f k a0 (decide (a1 ≥ 3))).bind fun t372 => (if 0 < (t372.length : Int) then ((impl_MarkClass.f (rd t372 0)).bind fun t376 => (if t376 = 0 then ((impl_isSecond.f (rd t372 0)).bind fun t377 => (some (!t377))) else (some false))) else (none))
set_option maxHeartbeats 8000000 in
set_option maxRecDepth 100000 in
theorem impl_safe.calls (k : Nat) (a0 : Int) (a1 : Int) (r : Bool) (w : World) (h : impl_safe.f k a0 a1 = some r) :
  Calls Tryd.prog 59 #[.int .i64 a0, .int .i64 a1] w fun e w' => e = .returned (.bool r) ∧ Below w.heap.size w w' := by
 have HB := Aside0.mk (Below.refl w.heap.size w)
 have H : ((impl_decompose.f k a0 (decide (a1 ≥ 3))).bind fun t372 => (if 0 < (t372.length : Int) then ((impl_MarkClass.f (rd t372 0)).bind fun t376 => (if t376 = 0 then ((impl_isSecond.f (rd t372 0)).bind fun t377 => (some (!t377))) else (some false))) else (none))) = some r := h
 clear h
 replace H := Option.bind_eq_some_iff.mp H
 obtain ⟨t372, A30, H⟩ := H
 replace H : (if 0 < (t372.length : Int) then ((impl_MarkClass.f (rd t372 0)).bind fun t376 => (if t376 = 0 then ((impl_isSecond.f (rd t372 0)).bind fun t377 => (some (!t377))) else (some false))) else (none)) = some r := H
 have A3 := Aside0.mk A30
 clear A30
 by_cases c4 : 0 < (t372.length : Int)
 ·rw [if_pos c4] at H
  have c4b0 : decide (0 < (t372.length : Int)) = true := decide_eq_true c4
  have c4b1 : decide (0 < t372.length) = true := decide_eq_true (by omega)
  clear c4
  replace H := Option.bind_eq_some_iff.mp H
  obtain ⟨t376, A50, H⟩ := H
  replace H : (if t376 = 0 then ((impl_isSecond.f (rd t372 0)).bind fun t377 => (some (!t377))) else (some false)) = some r := H
  have A5 := Aside0.mk A50
  clear A50
  by_cases c6 : t376 = 0
  ·rw [if_pos c6] at H
   have c6b0 : (t376 == 0) = true := beq_iff_eq.mpr c6
   have c6b1 : (t376 != 0) = false := bne_eq_false_iff_eq.mpr c6
   clear c6
   replace H := Option.bind_eq_some_iff.mp H
   obtain ⟨t377, A70, H⟩ := H
   replace H : (some (!t377)) = some r := H
   have A7 := Aside0.mk A70
   clear A70
   obtain rfl := Option.some.inj H
   go_enter Tryd.func59, Tryd.ntmps59
   go_wp2_with (first | ((with_reducible refine gate_callee (f := 77) rfl ?_); refine goesL_ (some 9) rfl rfl Tryd.func77 (by kernel_rfl) rfl #[.int .i64 a0, .bool (decide (a1 ≥ 3))] rfl (by (try simp only [List.map_toArray, List.map_cons, List.map_nil]); first | done | rfl | (simp only [List.length_drop, List.length_take]; rfl)) ?_; (with_reducible refine (impl_decompose.calls k a0 (decide (a1 ≥ 3)) t372 _ A3.out).mono ?_); rintro e w8 ⟨v373, rfl, ho0, hb⟩; refine ⟨_, rfl, ?_⟩; have n0_ := Aside0.mk (Kd.R_lower ho0 (below_size (by repeat (first | (with_reducible first | exact HB.out | apply below_alloc | apply pw_below_drewN | apply below_drew1) | exact HB.out)))); have n1_ := Aside0.mk (below_step (by repeat (first | (with_reducible first | exact HB.out | apply below_alloc | apply pw_below_drewN | apply below_drew1) | exact HB.out)) hb); clear HB; have HO374 := n0_; have HB := n1_; clear n0_ n1_; (try clear hb); (try clear hb2); (try clear hk); (try clear hi); (try clear ho0); obtain ⟨Ao9, co9, eo9⟩ := Kd.R_slice HO374.out; subst eo9; have p375 : 0 ≤ (0 : Int) := (by omega); have q375 : 0 < (t372.length : Int) := of_decide_eq_true (by first | (with_reducible assumption) | assumption); obtain ⟨ad375, e375, hx375_0⟩ := Kd.at_int (Kd.R_reads' HO374.out).2.2 0 p375 q375; cases e375; have qi375 : (0 < t372.length) = True := eq_true (by omega); (try rw [show ((0 : Int)).toNat = 0 from rfl] at hx375_0); (try rw [Addr.add_zero'] at hx375_0); replace p375 := eq_true p375; replace q375 := eq_true q375) | ((with_reducible refine gate_callee (f := 51) rfl ?_); refine goesL_ (some 13) rfl rfl Tryd.func51 (by kernel_rfl) rfl #[.int .i64 (rd t372 0)] rfl (by (try simp only [List.map_toArray, List.map_cons, List.map_nil]); first | done | rfl | (simp only [List.length_drop, List.length_take]; rfl)) ?_; (with_reducible refine (impl_MarkClass.calls (rd t372 0) t376 _ A5.out).mono ?_); rintro e w' ⟨rfl, ⟨nd, rfl⟩⟩; refine ⟨_, rfl, ?_⟩) | (go_at_call 54; (with_reducible refine (impl_isSecond.calls (rd t372 0) t377 _ A7.out).mono ?_); rintro e w' ⟨rfl, ⟨nd, rfl⟩⟩))
   go_ret
   exact ⟨by first | rfl | (simp [errW_none, errW_some] <;> rfl) | (simp [*, errW_none, errW_some] <;> rfl), by repeat (first | (with_reducible first | exact HB.out | apply below_alloc | apply pw_below_drewN | apply below_drew1) | exact HB.out)⟩
  ·rw [if_neg c6] at H
   have c6b0 : (t376 == 0) = false := beq_eq_false_iff_ne.mpr c6
   have c6b1 : (t376 != 0) = true := bne_iff_ne.mpr c6
   obtain rfl := Option.some.inj H
   go_enter Tryd.func59, Tryd.ntmps59
   go_wp2_with (first | ((with_reducible refine gate_callee (f := 77) rfl ?_); refine goesL_ (some 9) rfl rfl Tryd.func77 (by kernel_rfl) rfl #[.int .i64 a0, .bool (decide (a1 ≥ 3))] rfl (by (try simp only [List.map_toArray, List.map_cons, List.map_nil]); first | done | rfl | (simp only [List.length_drop, List.length_take]; rfl)) ?_; (with_reducible refine (impl_decompose.calls k a0 (decide (a1 ≥ 3)) t372 _ A3.out).mono ?_); rintro e w10 ⟨v373, rfl, ho0, hb⟩; refine ⟨_, rfl, ?_⟩; have n0_ := Aside0.mk (Kd.R_lower ho0 (below_size (by repeat (first | (with_reducible first | exact HB.out | apply below_alloc | apply pw_below_drewN | apply below_drew1) | exact HB.out)))); have n1_ := Aside0.mk (below_step (by repeat (first | (with_reducible first | exact HB.out | apply below_alloc | apply pw_below_drewN | apply below_drew1) | exact HB.out)) hb); clear HB; have HO374 := n0_; have HB := n1_; clear n0_ n1_; (try clear hb); (try clear hb2); (try clear hk); (try clear hi); (try clear ho0); obtain ⟨Ao11, co11, eo11⟩ := Kd.R_slice HO374.out; subst eo11; have p375 : 0 ≤ (0 : Int) := (by omega); have q375 : 0 < (t372.length : Int) := of_decide_eq_true (by first | (with_reducible assumption) | assumption); obtain ⟨ad375, e375, hx375_0⟩ := Kd.at_int (Kd.R_reads' HO374.out).2.2 0 p375 q375; cases e375; have qi375 : (0 < t372.length) = True := eq_true (by omega); (try rw [show ((0 : Int)).toNat = 0 from rfl] at hx375_0); (try rw [Addr.add_zero'] at hx375_0); replace p375 := eq_true p375; replace q375 := eq_true q375) | ((with_reducible refine gate_callee (f := 51) rfl ?_); refine goesL_ (some 13) rfl rfl Tryd.func51 (by kernel_rfl) rfl #[.int .i64 (rd t372 0)] rfl (by (try simp only [List.map_toArray, List.map_cons, List.map_nil]); first | done | rfl | (simp only [List.length_drop, List.length_take]; rfl)) ?_; (with_reducible refine (impl_MarkClass.calls (rd t372 0) t376 _ A5.out).mono ?_); rintro e w' ⟨rfl, ⟨nd, rfl⟩⟩; refine ⟨_, rfl, ?_⟩))
   go_ret
   exact ⟨by first | rfl | (simp [errW_none, errW_some] <;> rfl) | (simp [*, errW_none, errW_some] <;> rfl), by repeat (first | (with_reducible first | exact HB.out | apply below_alloc | apply pw_below_drewN | apply below_drew1) | exact HB.out)⟩
 ·rw [if_neg c4] at H
  exact absurd H (by simp)

end Go.Proofs.YtnbedmihgnjdpaaDoor.PFnExactEndNormer

-- Written by a program of this session (wip/tools/myprint.py) that runs the kit's print with hooks of its own. Lean checks it.
import Derived.Test.YtpibhoaegbeonaaDoorPFnExactDigitOfx0
namespace Go.Proofs.YtpibhoaegbeonaaDoor.PFnExactDigitOf
open Go.RowKit Go.Proofs.YtpibhoaegbeonaaDoorW.PrintWords Go.Proofs.YtpibhoaegbeonaaDoorW.PrintLast Go.Proofs.YtpibhoaegbeonaaDoorW.PrintMore
attribute [local go_sem] max2_int min2_int max_two min_two max_three min_three max_four min_four   -- for this text's walks alone
set_option linter.unusedVariables false
set_option linter.unusedSimpArgs false

/-! ### spec_l01Cased: function 15 -/
def spec_l01Cased.f  : Option ((List (S33))) := some (([(⟨0, 31, 4, 0⟩ : S33), (⟨32, 63, 5, 0⟩ : S33), (⟨64, 67, 4, 0⟩ : S33), (⟨68, 71, 6, 0⟩ : S33), (⟨72, 75, 5, 0⟩ : S33), (⟨80, 89, 8, 0⟩ : S33), (⟨96, 97, 5, 0⟩ : S33)] : List (S33)))
set_option maxHeartbeats 8000000 in
set_option maxRecDepth 100000 in
theorem spec_l01Cased.calls  (r : List (S33)) (w : World) (h : spec_l01Cased.f  = some r) :
    Calls Tryd.prog 15 #[] w fun e w' => ∃ v0_ : Value, e = .returned (v0_) ∧ Kd.R k33 33 w' w.heap.size (fun _ => True) v0_ r ∧ Below w.heap.size w w' := by
  have hu33 := Tryd.underlying33
  have HB := Aside0.mk (Below.refl w.heap.size w)
  have H : (some (([(⟨0, 31, 4, 0⟩ : S33), (⟨32, 63, 5, 0⟩ : S33), (⟨64, 67, 4, 0⟩ : S33), (⟨68, 71, 6, 0⟩ : S33), (⟨72, 75, 5, 0⟩ : S33), (⟨80, 89, 8, 0⟩ : S33), (⟨96, 97, 5, 0⟩ : S33)] : List (S33)))) = some r := h
  clear h
  obtain ⟨y101, hy101⟩ : ∃ y_ : List (S33), y_ = (([(⟨0, 31, 4, 0⟩ : S33), (⟨32, 63, 5, 0⟩ : S33), (⟨64, 67, 4, 0⟩ : S33), (⟨68, 71, 6, 0⟩ : S33), (⟨72, 75, 5, 0⟩ : S33), (⟨80, 89, 8, 0⟩ : S33), (⟨96, 97, 5, 0⟩ : S33)] : List (S33))) := ⟨_, rfl⟩
  replace H : (some y101) = some r := by first | (rw [hy101]; with_reducible exact H) | (have H2_ := (Option.bind_some _ _).symm.trans H; rw [hy101]; with_reducible exact H2_) | (have H2_ := (Option.bind_some _ _).symm.trans H; with_reducible exact H2_) | with_reducible exact H | (rw [hy101]; exact H) | exact H
  have Ny101 := Aside0.mk hy101
  clear hy101
  obtain rfl := Option.some.inj H
  go_enter Tryd.func15, Tryd.ntmps15
  go_wp2_with (first | ((with_reducible refine gate_dst (N := 8) rfl ?_); refine Kd.R_lit k33 _ 33 ?hg (N := 8) ?hd (xs := ([(⟨0, 31, 4, 0⟩ : S33), (⟨32, 63, 5, 0⟩ : S33), (⟨64, 67, 4, 0⟩ : S33), (⟨68, 71, 6, 0⟩ : S33), (⟨72, 75, 5, 0⟩ : S33), (⟨80, 89, 8, 0⟩ : S33), (⟨96, 97, 5, 0⟩ : S33)] : List (S33))) (inner := [.int .i64 0, .int .i64 31, .int .i64 4, .int .i64 0, .int .i64 32, .int .i64 63, .int .i64 5, .int .i64 0, .int .i64 64, .int .i64 67, .int .i64 4, .int .i64 0, .int .i64 68, .int .i64 71, .int .i64 6, .int .i64 0, .int .i64 72, .int .i64 75, .int .i64 5, .int .i64 0, .int .i64 80, .int .i64 89, .int .i64 8, .int .i64 0, .int .i64 96, .int .i64 97, .int .i64 5, .int .i64 0]) (ok := fun _ => True) (okp := fun _ => True) ?hr ?hp (fun _ hk => hk) trivial (Below.refl _ _) (Nat.le_refl _) (by simp) ?_; (case hd => rfl); (case hg => rfl); (case hr => first | (go_simp; done) | (go_simp; rfl)); (case hp => exact (Reps.c4 (show Kd.M k33 _ _ _ (⟨0, 31, 4, 0⟩ : S33) [.int .i64 0, .int .i64 31, .int .i64 4, .int .i64 0] from (k33_mkM _ _ _ (⟨0, 31, 4, 0⟩ : S33) )) (Reps.c4 (show Kd.M k33 _ _ _ (⟨32, 63, 5, 0⟩ : S33) [.int .i64 32, .int .i64 63, .int .i64 5, .int .i64 0] from (k33_mkM _ _ _ (⟨32, 63, 5, 0⟩ : S33) )) (Reps.c4 (show Kd.M k33 _ _ _ (⟨64, 67, 4, 0⟩ : S33) [.int .i64 64, .int .i64 67, .int .i64 4, .int .i64 0] from (k33_mkM _ _ _ (⟨64, 67, 4, 0⟩ : S33) )) (Reps.c4 (show Kd.M k33 _ _ _ (⟨68, 71, 6, 0⟩ : S33) [.int .i64 68, .int .i64 71, .int .i64 6, .int .i64 0] from (k33_mkM _ _ _ (⟨68, 71, 6, 0⟩ : S33) )) (Reps.c4 (show Kd.M k33 _ _ _ (⟨72, 75, 5, 0⟩ : S33) [.int .i64 72, .int .i64 75, .int .i64 5, .int .i64 0] from (k33_mkM _ _ _ (⟨72, 75, 5, 0⟩ : S33) )) (Reps.c4 (show Kd.M k33 _ _ _ (⟨80, 89, 8, 0⟩ : S33) [.int .i64 80, .int .i64 89, .int .i64 8, .int .i64 0] from (k33_mkM _ _ _ (⟨80, 89, 8, 0⟩ : S33) )) (Reps.c4 (show Kd.M k33 _ _ _ (⟨96, 97, 5, 0⟩ : S33) [.int .i64 96, .int .i64 97, .int .i64 5, .int .i64 0] from (k33_mkM _ _ _ (⟨96, 97, 5, 0⟩ : S33) )) (Reps.none _ _))))))))); intro v102 w1 ho2 hb hg_ hnew_; clear hg_ hnew_; (first | rw [← Ny101.out] at ho2 | (simp only [Int.reduceToNat] at ho2; rw [← Ny101.out] at ho2)); have n0_ := Aside0.mk (Kd.R_lower ho2 (below_size (by repeat (first | (with_reducible first | exact HB.out | apply below_alloc | apply pw_below_drewN | apply below_drew1) | exact HB.out)))); have n1_ := Aside0.mk (below_step (by repeat (first | (with_reducible first | exact HB.out | apply below_alloc | apply pw_below_drewN | apply below_drew1) | exact HB.out)) hb); clear HB; have HO103 := n0_; have HB := n1_; clear n0_ n1_; clear hb ho2))
  go_ret
  exact ⟨_, by first | rfl | (simp [errW_none, errW_some] <;> rfl) | (simp [*, errW_none, errW_some] <;> rfl), by (with_reducible repeat (first | apply Kd.R_alloc | apply Kd.R_drewN | apply Kd.R_drew)); exact HO103.out, by repeat (first | (with_reducible first | exact HB.out | apply below_alloc | apply pw_below_drewN | apply below_drew1) | exact HB.out)⟩

/-! ### spec_l01Rows: function 16 -/
def spec_l01Rows.f  : Option ((List (S33))) := some (([(⟨0, 31, 1, 0⟩ : S33), (⟨32, 32, 2, 0⟩ : S33), (⟨48, 57, 8, 0⟩ : S33), (⟨65, 90, 4, 1⟩ : S33), (⟨97, 122, 5, 1⟩ : S33), (⟨33, 126, 9, 0⟩ : S33), (⟨127, 159, 1, 0⟩ : S33), (⟨160, 160, 2, 0⟩ : S33), (⟨173, 173, 11, 0⟩ : S33), (⟨161, 191, 10, 0⟩ : S33), (⟨1280, 1311, 7, 5⟩ : S33), (⟨1360, 1369, 8, 5⟩ : S33), (⟨1536, 1567, 7, 6⟩ : S33), (⟨1568, 1579, 3, 6⟩ : S33), (⟨1584, 1585, 3, 6⟩ : S33), (⟨1616, 1625, 8, 6⟩ : S33), (⟨1792, 1810, 7, 7⟩ : S33), (⟨1824, 1844, 7, 7⟩ : S33), (⟨1857, 1883, 7, 7⟩ : S33), (⟨2048, 2095, 7, 8⟩ : S33), (⟨4096, 4159, 3, 0⟩ : S33), (⟨7680, 7748, 10, 0⟩ : S33), (⟨7760, 7785, 10, 0⟩ : S33), (⟨7936, 7947, 11, 0⟩ : S33), (⟨7953, 7954, 11, 0⟩ : S33), (⟨8064, 8064, 2, 0⟩ : S33), (⟨9728, 9753, 4, 1⟩ : S33), (⟨9984, 10009, 10, 0⟩ : S33), (⟨10016, 10025, 8, 0⟩ : S33), (⟨10032, 10035, 10, 0⟩ : S33), (⟨12288, 23459, 7, 7⟩ : S33), (⟨24576, 26623, 7, 9⟩ : S33)] : List (S33)))
set_option maxHeartbeats 8000000 in
set_option maxRecDepth 100000 in
theorem spec_l01Rows.calls  (r : List (S33)) (w : World) (h : spec_l01Rows.f  = some r) :
    Calls Tryd.prog 16 #[] w fun e w' => ∃ v0_ : Value, e = .returned (v0_) ∧ Kd.R k33 33 w' w.heap.size (fun _ => True) v0_ r ∧ Below w.heap.size w w' := by
  have hu33 := Tryd.underlying33
  have HB := Aside0.mk (Below.refl w.heap.size w)
  have H : (some (([(⟨0, 31, 1, 0⟩ : S33), (⟨32, 32, 2, 0⟩ : S33), (⟨48, 57, 8, 0⟩ : S33), (⟨65, 90, 4, 1⟩ : S33), (⟨97, 122, 5, 1⟩ : S33), (⟨33, 126, 9, 0⟩ : S33), (⟨127, 159, 1, 0⟩ : S33), (⟨160, 160, 2, 0⟩ : S33), (⟨173, 173, 11, 0⟩ : S33), (⟨161, 191, 10, 0⟩ : S33), (⟨1280, 1311, 7, 5⟩ : S33), (⟨1360, 1369, 8, 5⟩ : S33), (⟨1536, 1567, 7, 6⟩ : S33), (⟨1568, 1579, 3, 6⟩ : S33), (⟨1584, 1585, 3, 6⟩ : S33), (⟨1616, 1625, 8, 6⟩ : S33), (⟨1792, 1810, 7, 7⟩ : S33), (⟨1824, 1844, 7, 7⟩ : S33), (⟨1857, 1883, 7, 7⟩ : S33), (⟨2048, 2095, 7, 8⟩ : S33), (⟨4096, 4159, 3, 0⟩ : S33), (⟨7680, 7748, 10, 0⟩ : S33), (⟨7760, 7785, 10, 0⟩ : S33), (⟨7936, 7947, 11, 0⟩ : S33), (⟨7953, 7954, 11, 0⟩ : S33), (⟨8064, 8064, 2, 0⟩ : S33), (⟨9728, 9753, 4, 1⟩ : S33), (⟨9984, 10009, 10, 0⟩ : S33), (⟨10016, 10025, 8, 0⟩ : S33), (⟨10032, 10035, 10, 0⟩ : S33), (⟨12288, 23459, 7, 7⟩ : S33), (⟨24576, 26623, 7, 9⟩ : S33)] : List (S33)))) = some r := h
  clear h
  obtain ⟨y104, hy104⟩ : ∃ y_ : List (S33), y_ = (([(⟨0, 31, 1, 0⟩ : S33), (⟨32, 32, 2, 0⟩ : S33), (⟨48, 57, 8, 0⟩ : S33), (⟨65, 90, 4, 1⟩ : S33), (⟨97, 122, 5, 1⟩ : S33), (⟨33, 126, 9, 0⟩ : S33), (⟨127, 159, 1, 0⟩ : S33), (⟨160, 160, 2, 0⟩ : S33), (⟨173, 173, 11, 0⟩ : S33), (⟨161, 191, 10, 0⟩ : S33), (⟨1280, 1311, 7, 5⟩ : S33), (⟨1360, 1369, 8, 5⟩ : S33), (⟨1536, 1567, 7, 6⟩ : S33), (⟨1568, 1579, 3, 6⟩ : S33), (⟨1584, 1585, 3, 6⟩ : S33), (⟨1616, 1625, 8, 6⟩ : S33), (⟨1792, 1810, 7, 7⟩ : S33), (⟨1824, 1844, 7, 7⟩ : S33), (⟨1857, 1883, 7, 7⟩ : S33), (⟨2048, 2095, 7, 8⟩ : S33), (⟨4096, 4159, 3, 0⟩ : S33), (⟨7680, 7748, 10, 0⟩ : S33), (⟨7760, 7785, 10, 0⟩ : S33), (⟨7936, 7947, 11, 0⟩ : S33), (⟨7953, 7954, 11, 0⟩ : S33), (⟨8064, 8064, 2, 0⟩ : S33), (⟨9728, 9753, 4, 1⟩ : S33), (⟨9984, 10009, 10, 0⟩ : S33), (⟨10016, 10025, 8, 0⟩ : S33), (⟨10032, 10035, 10, 0⟩ : S33), (⟨12288, 23459, 7, 7⟩ : S33), (⟨24576, 26623, 7, 9⟩ : S33)] : List (S33))) := ⟨_, rfl⟩
  replace H : (some y104) = some r := by first | (rw [hy104]; with_reducible exact H) | (have H2_ := (Option.bind_some _ _).symm.trans H; rw [hy104]; with_reducible exact H2_) | (have H2_ := (Option.bind_some _ _).symm.trans H; with_reducible exact H2_) | with_reducible exact H | (rw [hy104]; exact H) | exact H
  have Ny104 := Aside0.mk hy104
  clear hy104
  obtain rfl := Option.some.inj H
  go_enter Tryd.func16, Tryd.ntmps16
  go_wp2_with (first | ((with_reducible refine gate_dst (N := 33) rfl ?_); refine Kd.R_lit k33 _ 33 ?hg (N := 33) ?hd (xs := ([(⟨0, 31, 1, 0⟩ : S33), (⟨32, 32, 2, 0⟩ : S33), (⟨48, 57, 8, 0⟩ : S33), (⟨65, 90, 4, 1⟩ : S33), (⟨97, 122, 5, 1⟩ : S33), (⟨33, 126, 9, 0⟩ : S33), (⟨127, 159, 1, 0⟩ : S33), (⟨160, 160, 2, 0⟩ : S33), (⟨173, 173, 11, 0⟩ : S33), (⟨161, 191, 10, 0⟩ : S33), (⟨1280, 1311, 7, 5⟩ : S33), (⟨1360, 1369, 8, 5⟩ : S33), (⟨1536, 1567, 7, 6⟩ : S33), (⟨1568, 1579, 3, 6⟩ : S33), (⟨1584, 1585, 3, 6⟩ : S33), (⟨1616, 1625, 8, 6⟩ : S33), (⟨1792, 1810, 7, 7⟩ : S33), (⟨1824, 1844, 7, 7⟩ : S33), (⟨1857, 1883, 7, 7⟩ : S33), (⟨2048, 2095, 7, 8⟩ : S33), (⟨4096, 4159, 3, 0⟩ : S33), (⟨7680, 7748, 10, 0⟩ : S33), (⟨7760, 7785, 10, 0⟩ : S33), (⟨7936, 7947, 11, 0⟩ : S33), (⟨7953, 7954, 11, 0⟩ : S33), (⟨8064, 8064, 2, 0⟩ : S33), (⟨9728, 9753, 4, 1⟩ : S33), (⟨9984, 10009, 10, 0⟩ : S33), (⟨10016, 10025, 8, 0⟩ : S33), (⟨10032, 10035, 10, 0⟩ : S33), (⟨12288, 23459, 7, 7⟩ : S33), (⟨24576, 26623, 7, 9⟩ : S33)] : List (S33))) (inner := [.int .i64 0, .int .i64 31, .int .i64 1, .int .i64 0, .int .i64 32, .int .i64 32, .int .i64 2, .int .i64 0, .int .i64 48, .int .i64 57, .int .i64 8, .int .i64 0, .int .i64 65, .int .i64 90, .int .i64 4, .int .i64 1, .int .i64 97, .int .i64 122, .int .i64 5, .int .i64 1, .int .i64 33, .int .i64 126, .int .i64 9, .int .i64 0, .int .i64 127, .int .i64 159, .int .i64 1, .int .i64 0, .int .i64 160, .int .i64 160, .int .i64 2, .int .i64 0, .int .i64 173, .int .i64 173, .int .i64 11, .int .i64 0, .int .i64 161, .int .i64 191, .int .i64 10, .int .i64 0, .int .i64 1280, .int .i64 1311, .int .i64 7, .int .i64 5, .int .i64 1360, .int .i64 1369, .int .i64 8, .int .i64 5, .int .i64 1536, .int .i64 1567, .int .i64 7, .int .i64 6, .int .i64 1568, .int .i64 1579, .int .i64 3, .int .i64 6, .int .i64 1584, .int .i64 1585, .int .i64 3, .int .i64 6, .int .i64 1616, .int .i64 1625, .int .i64 8, .int .i64 6, .int .i64 1792, .int .i64 1810, .int .i64 7, .int .i64 7, .int .i64 1824, .int .i64 1844, .int .i64 7, .int .i64 7, .int .i64 1857, .int .i64 1883, .int .i64 7, .int .i64 7, .int .i64 2048, .int .i64 2095, .int .i64 7, .int .i64 8, .int .i64 4096, .int .i64 4159, .int .i64 3, .int .i64 0, .int .i64 7680, .int .i64 7748, .int .i64 10, .int .i64 0, .int .i64 7760, .int .i64 7785, .int .i64 10, .int .i64 0, .int .i64 7936, .int .i64 7947, .int .i64 11, .int .i64 0, .int .i64 7953, .int .i64 7954, .int .i64 11, .int .i64 0, .int .i64 8064, .int .i64 8064, .int .i64 2, .int .i64 0, .int .i64 9728, .int .i64 9753, .int .i64 4, .int .i64 1, .int .i64 9984, .int .i64 10009, .int .i64 10, .int .i64 0, .int .i64 10016, .int .i64 10025, .int .i64 8, .int .i64 0, .int .i64 10032, .int .i64 10035, .int .i64 10, .int .i64 0, .int .i64 12288, .int .i64 23459, .int .i64 7, .int .i64 7, .int .i64 24576, .int .i64 26623, .int .i64 7, .int .i64 9]) (ok := fun _ => True) (okp := fun _ => True) ?hr ?hp (fun _ hk => hk) trivial (Below.refl _ _) (Nat.le_refl _) (by simp) ?_; (case hd => rfl); (case hg => rfl); (case hr => first | (go_simp; done) | (go_simp; rfl)); (case hp => exact (Reps.c4 (show Kd.M k33 _ _ _ (⟨0, 31, 1, 0⟩ : S33) [.int .i64 0, .int .i64 31, .int .i64 1, .int .i64 0] from (k33_mkM _ _ _ (⟨0, 31, 1, 0⟩ : S33) )) (Reps.c4 (show Kd.M k33 _ _ _ (⟨32, 32, 2, 0⟩ : S33) [.int .i64 32, .int .i64 32, .int .i64 2, .int .i64 0] from (k33_mkM _ _ _ (⟨32, 32, 2, 0⟩ : S33) )) (Reps.c4 (show Kd.M k33 _ _ _ (⟨48, 57, 8, 0⟩ : S33) [.int .i64 48, .int .i64 57, .int .i64 8, .int .i64 0] from (k33_mkM _ _ _ (⟨48, 57, 8, 0⟩ : S33) )) (Reps.c4 (show Kd.M k33 _ _ _ (⟨65, 90, 4, 1⟩ : S33) [.int .i64 65, .int .i64 90, .int .i64 4, .int .i64 1] from (k33_mkM _ _ _ (⟨65, 90, 4, 1⟩ : S33) )) (Reps.c4 (show Kd.M k33 _ _ _ (⟨97, 122, 5, 1⟩ : S33) [.int .i64 97, .int .i64 122, .int .i64 5, .int .i64 1] from (k33_mkM _ _ _ (⟨97, 122, 5, 1⟩ : S33) )) (Reps.c4 (show Kd.M k33 _ _ _ (⟨33, 126, 9, 0⟩ : S33) [.int .i64 33, .int .i64 126, .int .i64 9, .int .i64 0] from (k33_mkM _ _ _ (⟨33, 126, 9, 0⟩ : S33) )) (Reps.c4 (show Kd.M k33 _ _ _ (⟨127, 159, 1, 0⟩ : S33) [.int .i64 127, .int .i64 159, .int .i64 1, .int .i64 0] from (k33_mkM _ _ _ (⟨127, 159, 1, 0⟩ : S33) )) (Reps.c4 (show Kd.M k33 _ _ _ (⟨160, 160, 2, 0⟩ : S33) [.int .i64 160, .int .i64 160, .int .i64 2, .int .i64 0] from (k33_mkM _ _ _ (⟨160, 160, 2, 0⟩ : S33) )) (Reps.c4 (show Kd.M k33 _ _ _ (⟨173, 173, 11, 0⟩ : S33) [.int .i64 173, .int .i64 173, .int .i64 11, .int .i64 0] from (k33_mkM _ _ _ (⟨173, 173, 11, 0⟩ : S33) )) (Reps.c4 (show Kd.M k33 _ _ _ (⟨161, 191, 10, 0⟩ : S33) [.int .i64 161, .int .i64 191, .int .i64 10, .int .i64 0] from (k33_mkM _ _ _ (⟨161, 191, 10, 0⟩ : S33) )) (Reps.c4 (show Kd.M k33 _ _ _ (⟨1280, 1311, 7, 5⟩ : S33) [.int .i64 1280, .int .i64 1311, .int .i64 7, .int .i64 5] from (k33_mkM _ _ _ (⟨1280, 1311, 7, 5⟩ : S33) )) (Reps.c4 (show Kd.M k33 _ _ _ (⟨1360, 1369, 8, 5⟩ : S33) [.int .i64 1360, .int .i64 1369, .int .i64 8, .int .i64 5] from (k33_mkM _ _ _ (⟨1360, 1369, 8, 5⟩ : S33) )) (Reps.c4 (show Kd.M k33 _ _ _ (⟨1536, 1567, 7, 6⟩ : S33) [.int .i64 1536, .int .i64 1567, .int .i64 7, .int .i64 6] from (k33_mkM _ _ _ (⟨1536, 1567, 7, 6⟩ : S33) )) (Reps.c4 (show Kd.M k33 _ _ _ (⟨1568, 1579, 3, 6⟩ : S33) [.int .i64 1568, .int .i64 1579, .int .i64 3, .int .i64 6] from (k33_mkM _ _ _ (⟨1568, 1579, 3, 6⟩ : S33) )) (Reps.c4 (show Kd.M k33 _ _ _ (⟨1584, 1585, 3, 6⟩ : S33) [.int .i64 1584, .int .i64 1585, .int .i64 3, .int .i64 6] from (k33_mkM _ _ _ (⟨1584, 1585, 3, 6⟩ : S33) )) (Reps.c4 (show Kd.M k33 _ _ _ (⟨1616, 1625, 8, 6⟩ : S33) [.int .i64 1616, .int .i64 1625, .int .i64 8, .int .i64 6] from (k33_mkM _ _ _ (⟨1616, 1625, 8, 6⟩ : S33) )) (Reps.c4 (show Kd.M k33 _ _ _ (⟨1792, 1810, 7, 7⟩ : S33) [.int .i64 1792, .int .i64 1810, .int .i64 7, .int .i64 7] from (k33_mkM _ _ _ (⟨1792, 1810, 7, 7⟩ : S33) )) (Reps.c4 (show Kd.M k33 _ _ _ (⟨1824, 1844, 7, 7⟩ : S33) [.int .i64 1824, .int .i64 1844, .int .i64 7, .int .i64 7] from (k33_mkM _ _ _ (⟨1824, 1844, 7, 7⟩ : S33) )) (Reps.c4 (show Kd.M k33 _ _ _ (⟨1857, 1883, 7, 7⟩ : S33) [.int .i64 1857, .int .i64 1883, .int .i64 7, .int .i64 7] from (k33_mkM _ _ _ (⟨1857, 1883, 7, 7⟩ : S33) )) (Reps.c4 (show Kd.M k33 _ _ _ (⟨2048, 2095, 7, 8⟩ : S33) [.int .i64 2048, .int .i64 2095, .int .i64 7, .int .i64 8] from (k33_mkM _ _ _ (⟨2048, 2095, 7, 8⟩ : S33) )) (Reps.c4 (show Kd.M k33 _ _ _ (⟨4096, 4159, 3, 0⟩ : S33) [.int .i64 4096, .int .i64 4159, .int .i64 3, .int .i64 0] from (k33_mkM _ _ _ (⟨4096, 4159, 3, 0⟩ : S33) )) (Reps.c4 (show Kd.M k33 _ _ _ (⟨7680, 7748, 10, 0⟩ : S33) [.int .i64 7680, .int .i64 7748, .int .i64 10, .int .i64 0] from (k33_mkM _ _ _ (⟨7680, 7748, 10, 0⟩ : S33) )) (Reps.c4 (show Kd.M k33 _ _ _ (⟨7760, 7785, 10, 0⟩ : S33) [.int .i64 7760, .int .i64 7785, .int .i64 10, .int .i64 0] from (k33_mkM _ _ _ (⟨7760, 7785, 10, 0⟩ : S33) )) (Reps.c4 (show Kd.M k33 _ _ _ (⟨7936, 7947, 11, 0⟩ : S33) [.int .i64 7936, .int .i64 7947, .int .i64 11, .int .i64 0] from (k33_mkM _ _ _ (⟨7936, 7947, 11, 0⟩ : S33) )) (Reps.c4 (show Kd.M k33 _ _ _ (⟨7953, 7954, 11, 0⟩ : S33) [.int .i64 7953, .int .i64 7954, .int .i64 11, .int .i64 0] from (k33_mkM _ _ _ (⟨7953, 7954, 11, 0⟩ : S33) )) (Reps.c4 (show Kd.M k33 _ _ _ (⟨8064, 8064, 2, 0⟩ : S33) [.int .i64 8064, .int .i64 8064, .int .i64 2, .int .i64 0] from (k33_mkM _ _ _ (⟨8064, 8064, 2, 0⟩ : S33) )) (Reps.c4 (show Kd.M k33 _ _ _ (⟨9728, 9753, 4, 1⟩ : S33) [.int .i64 9728, .int .i64 9753, .int .i64 4, .int .i64 1] from (k33_mkM _ _ _ (⟨9728, 9753, 4, 1⟩ : S33) )) (Reps.c4 (show Kd.M k33 _ _ _ (⟨9984, 10009, 10, 0⟩ : S33) [.int .i64 9984, .int .i64 10009, .int .i64 10, .int .i64 0] from (k33_mkM _ _ _ (⟨9984, 10009, 10, 0⟩ : S33) )) (Reps.c4 (show Kd.M k33 _ _ _ (⟨10016, 10025, 8, 0⟩ : S33) [.int .i64 10016, .int .i64 10025, .int .i64 8, .int .i64 0] from (k33_mkM _ _ _ (⟨10016, 10025, 8, 0⟩ : S33) )) (Reps.c4 (show Kd.M k33 _ _ _ (⟨10032, 10035, 10, 0⟩ : S33) [.int .i64 10032, .int .i64 10035, .int .i64 10, .int .i64 0] from (k33_mkM _ _ _ (⟨10032, 10035, 10, 0⟩ : S33) )) (Reps.c4 (show Kd.M k33 _ _ _ (⟨12288, 23459, 7, 7⟩ : S33) [.int .i64 12288, .int .i64 23459, .int .i64 7, .int .i64 7] from (k33_mkM _ _ _ (⟨12288, 23459, 7, 7⟩ : S33) )) (Reps.c4 (show Kd.M k33 _ _ _ (⟨24576, 26623, 7, 9⟩ : S33) [.int .i64 24576, .int .i64 26623, .int .i64 7, .int .i64 9] from (k33_mkM _ _ _ (⟨24576, 26623, 7, 9⟩ : S33) )) (Reps.none _ _)))))))))))))))))))))))))))))))))); intro v105 w1 ho2 hb hg_ hnew_; clear hg_ hnew_; (first | rw [← Ny104.out] at ho2 | (simp only [Int.reduceToNat] at ho2; rw [← Ny104.out] at ho2)); have n0_ := Aside0.mk (Kd.R_lower ho2 (below_size (by repeat (first | (with_reducible first | exact HB.out | apply below_alloc | apply pw_below_drewN | apply below_drew1) | exact HB.out)))); have n1_ := Aside0.mk (below_step (by repeat (first | (with_reducible first | exact HB.out | apply below_alloc | apply pw_below_drewN | apply below_drew1) | exact HB.out)) hb); clear HB; have HO106 := n0_; have HB := n1_; clear n0_ n1_; clear hb ho2))
  go_ret
  exact ⟨_, by first | rfl | (simp [errW_none, errW_some] <;> rfl) | (simp [*, errW_none, errW_some] <;> rfl), by (with_reducible repeat (first | apply Kd.R_alloc | apply Kd.R_drewN | apply Kd.R_drew)); exact HO106.out, by repeat (first | (with_reducible first | exact HB.out | apply below_alloc | apply pw_below_drewN | apply below_drew1) | exact HB.out)⟩

/-! ### spec_l01Known: function 13 -/
mutual
def spec_l01Known.j0 : Nat → Int → Bool → Option (Int × Int)
  | 0, _, _ => none
  | k + 1, x0, x14 => if x14 = true then ((spec_l01Cased.f).bind fun t107 => (spec_l01Known.l0 k x0 t107 0)) else (if x0 ≥ 8192 then (spec_l01Known.j2 k x0 (decide (x0 < 9728))) else (spec_l01Known.j2 k x0 false))
def spec_l01Known.l0 : Nat → Int → List (S33) → Int → Option (Int × Int)
  | 0, _, _, _ => none
  | k + 1, x0, x4, x5 => if x5 < (x4.length : Int) then (if 0 ≤ x5 then (if (Int.tmod x0 256) ≥ ((rd_T33 x4 x5).f0) then (if (Int.tmod x0 256) ≤ ((rd_T33 x4 x5).f1) then (some ((rd_T33 x4 x5).f2, wrap64 (Int.tdiv x0 256))) else (spec_l01Known.l0 k x0 x4 (wrap64 (x5 + 1)))) else (spec_l01Known.l0 k x0 x4 (wrap64 (x5 + 1)))) else (none)) else (some (0, 0))
def spec_l01Known.j2 : Nat → Int → Bool → Option (Int × Int)
  | 0, _, _ => none
  | k + 1, x0, x52 => if x52 = true then (if (Int.tmod x0 512) ≥ 416 then (some (0, 0)) else (if (Int.tmod x0 512) < 208 then (some (4, 1)) else (some (5, 1)))) else ((spec_l01Rows.f).bind fun t113 => (spec_l01Known.l1 k x0 t113 0))
def spec_l01Known.l1 : Nat → Int → List (S33) → Int → Option (Int × Int)
  | 0, _, _, _ => none
  | k + 1, x0, x7, x8 => if x8 < (x7.length : Int) then (if 0 ≤ x8 then (if x0 ≥ ((rd_T33 x7 x8).f0) then (if x0 ≤ ((rd_T33 x7 x8).f1) then (some ((rd_T33 x7 x8).f2, (rd_T33 x7 x8).f3)) else (spec_l01Known.l1 k x0 x7 (wrap64 (x8 + 1)))) else (spec_l01Known.l1 k x0 x7 (wrap64 (x8 + 1)))) else (none)) else (some (0, 0))
end
def spec_l01Known.f (k : Nat) (a0 : Int) : Option (Int × Int) := if a0 ≥ 512 then (spec_l01Known.j0 k a0 (decide (a0 < 1280))) else (spec_l01Known.j0 k a0 false)
theorem spec_l01Known.mono_l : ∀ k, (∀ y0 y1, LeO (spec_l01Known.j0 k y0 y1) (spec_l01Known.j0 (k + 1) y0 y1)) ∧ (∀ y0 y1 y2, LeO (spec_l01Known.l0 k y0 y1 y2) (spec_l01Known.l0 (k + 1) y0 y1 y2)) ∧ (∀ y0 y1, LeO (spec_l01Known.j2 k y0 y1) (spec_l01Known.j2 (k + 1) y0 y1)) ∧ (∀ y0 y1 y2, LeO (spec_l01Known.l1 k y0 y1 y2) (spec_l01Known.l1 (k + 1) y0 y1 y2))
  | 0 => ⟨fun _ _ r h => by simp [spec_l01Known.j0] at h, fun _ _ _ r h => by simp [spec_l01Known.l0] at h, fun _ _ r h => by simp [spec_l01Known.j2] at h, fun _ _ _ r h => by simp [spec_l01Known.l1] at h⟩
  | k + 1 => by
    obtain ⟨ih0, ih1, ih2, ih3⟩ := spec_l01Known.mono_l k
    refine ⟨?_, ?_, ?_, ?_⟩
    · intro y0 y1
      unfold spec_l01Known.j0
      repeat' first
      | (with_reducible exact ih0 _ _)
      | (with_reducible exact ih1 _ _ _)
      | (with_reducible exact ih2 _ _)
      | (with_reducible exact ih3 _ _ _)
      | (with_reducible exact LeO.refl _)
      | (with_reducible exact LeO.none _)
      | (with_reducible refine LeO.ite ?_ ?_)
      | (with_reducible refine LeO.bind ?_ (fun _ => ?_))
      | exact ih0 _ _
      | exact ih1 _ _ _
      | exact ih2 _ _
      | exact ih3 _ _ _
      | exact LeO.none _
      | refine LeO.ite ?_ ?_
      | refine LeO.bind ?_ (fun _ => ?_)
    · intro y0 y1 y2
      unfold spec_l01Known.l0
      repeat' first
      | (with_reducible exact ih0 _ _)
      | (with_reducible exact ih1 _ _ _)
      | (with_reducible exact ih2 _ _)
      | (with_reducible exact ih3 _ _ _)
      | (with_reducible exact LeO.refl _)
      | (with_reducible exact LeO.none _)
      | (with_reducible refine LeO.ite ?_ ?_)
      | (with_reducible refine LeO.bind ?_ (fun _ => ?_))
      | exact ih0 _ _
      | exact ih1 _ _ _
      | exact ih2 _ _
      | exact ih3 _ _ _
      | exact LeO.none _
      | refine LeO.ite ?_ ?_
      | refine LeO.bind ?_ (fun _ => ?_)
    · intro y0 y1
      unfold spec_l01Known.j2
      repeat' first
      | (with_reducible exact ih0 _ _)
      | (with_reducible exact ih1 _ _ _)
      | (with_reducible exact ih2 _ _)
      | (with_reducible exact ih3 _ _ _)
      | (with_reducible exact LeO.refl _)
      | (with_reducible exact LeO.none _)
      | (with_reducible refine LeO.ite ?_ ?_)
      | (with_reducible refine LeO.bind ?_ (fun _ => ?_))
      | exact ih0 _ _
      | exact ih1 _ _ _
      | exact ih2 _ _
      | exact ih3 _ _ _
      | exact LeO.none _
      | refine LeO.ite ?_ ?_
      | refine LeO.bind ?_ (fun _ => ?_)
    · intro y0 y1 y2
      unfold spec_l01Known.l1
      repeat' first
      | (with_reducible exact ih0 _ _)
      | (with_reducible exact ih1 _ _ _)
      | (with_reducible exact ih2 _ _)
      | (with_reducible exact ih3 _ _ _)
      | (with_reducible exact LeO.refl _)
      | (with_reducible exact LeO.none _)
      | (with_reducible refine LeO.ite ?_ ?_)
      | (with_reducible refine LeO.bind ?_ (fun _ => ?_))
      | exact ih0 _ _
      | exact ih1 _ _ _
      | exact ih2 _ _
      | exact ih3 _ _ _
      | exact LeO.none _
      | refine LeO.ite ?_ ?_
      | refine LeO.bind ?_ (fun _ => ?_)
theorem spec_l01Known.mono : ∀ a0 k, LeO (spec_l01Known.f k a0) (spec_l01Known.f (k + 1) a0) := by
  intro a0 k
  obtain ⟨ih0, ih1, ih2, ih3⟩ := spec_l01Known.mono_l k
  unfold spec_l01Known.f
  repeat' first
      | (with_reducible exact ih0 _ _)
      | (with_reducible exact ih1 _ _ _)
      | (with_reducible exact ih2 _ _)
      | (with_reducible exact ih3 _ _ _)
      | (with_reducible exact LeO.refl _)
      | (with_reducible exact LeO.none _)
      | (with_reducible refine LeO.ite ?_ ?_)
      | (with_reducible refine LeO.bind ?_ (fun _ => ?_))
      | exact ih0 _ _
      | exact ih1 _ _ _
      | exact ih2 _ _
      | exact ih3 _ _ _
      | exact LeO.none _
      | refine LeO.ite ?_ ?_
      | refine LeO.bind ?_ (fun _ => ?_)
set_option maxHeartbeats 8000000 in
set_option maxRecDepth 100000 in
theorem spec_l01Known.calls (k : Nat) (a0 : Int) (r1 : Int) (r2 : Int) (w : World) (h : spec_l01Known.f k a0 = some (r1, r2)) :
    Calls Tryd.prog 13 #[.int .i64 a0] w fun e w' => e = .returned (.tuple #[.int .i64 r1, .int .i64 r2]) ∧ Below w.heap.size w w' := by
  have HB := Aside0.mk (Below.refl w.heap.size w)
  have H : (if a0 ≥ 512 then (spec_l01Known.j0 k a0 (decide (a0 < 1280))) else (spec_l01Known.j0 k a0 false)) = some (r1, r2) := h
  clear h
  have HC2 := Aside0.mk H
  clear H
  go_enter Tryd.func13, Tryd.ntmps13
  go_upto_region 1 with (fail)
  repeat (go_quiet (fail); go_upto_region 1 with (fail))
  go_cut [14] (fun v14 wc => ∃ (kq : Nat) (x14_1 : Bool), v14 = .bool x14_1 ∧ Aside0 (spec_l01Known.j0 kq a0 x14_1 = some (r1, r2)) ∧ Aside0 (kq ≤ k) ∧ Aside0 (Below w.heap.size w wc))
  case first =>
    have H := HC2.out
    clear HC2
    by_cases c3 : a0 ≥ 512
    · rw [if_pos c3] at H
      have c3b0 : decide (512 ≤ a0) = true := decide_eq_true c3
      clear c3
      (first | rw [c3b0] | (simp only [i64_w, i32_w]; rw [c3b0]) | skip)
      have H' := Aside0.mk H
      clear H
      go_wp2
      repeat (go_quiet (fail); try go_wp2)
      go_meet
      case rel => exact ⟨_, (decide (a0 < 1280)), (by first | rfl | (simp; done) | (simp [*]; done)), H', ⟨by first | omega | exact Nat.le_refl _⟩, ⟨by repeat (first | (with_reducible first | exact HB.out | apply below_alloc | apply pw_below_drewN | apply below_drew1) | exact HB.out)⟩⟩
    · rw [if_neg c3] at H
      have c3b0 : decide (512 ≤ a0) = false := decide_eq_false c3
      clear c3
      (first | rw [c3b0] | (simp only [i64_w, i32_w]; rw [c3b0]) | skip)
      have H' := Aside0.mk H
      clear H
      go_wp2
      repeat (go_quiet (fail); try go_wp2)
      go_meet
      case rel => exact ⟨_, (false), (by first | rfl | (simp; done) | (simp [*]; done)), H', ⟨by first | omega | exact Nat.le_refl _⟩, ⟨by repeat (first | (with_reducible first | exact HB.out | apply below_alloc | apply pw_below_drewN | apply below_drew1) | exact HB.out)⟩⟩
  case rest =>
    clear HC2
    try clear c1
    try clear p2
    try clear c3
    try clear c3b0
    obtain ⟨kq, x14_1, rfl, HA, HJ1, HB⟩ := hcut
    cases kq with
    | zero => exact absurd HA.out (by simp [spec_l01Known.j0])
    | succ kj1 =>
      have H := HA.out
      clear HA
      simp only [spec_l01Known.j0] at H
      by_cases c4 : x14_1 = true
      · subst c4
        have H1 : ((spec_l01Cased.f).bind fun t107 => (spec_l01Known.l0 kj1 a0 t107 0)) = some (r1, r2) := by rw [if_pos rfl] at H; exact H
        clear H
        have H := H1
        clear H1
        replace H := Option.bind_eq_some_iff.mp H
        obtain ⟨t107, A50, H⟩ := H
        replace H : (spec_l01Known.l0 kj1 a0 t107 0) = some (r1, r2) := H
        have A5 := Aside0.mk A50
        clear A50
        have H' := Aside0.mk H
        clear H
        go_wp2_with (first | (go_at_call 15; (with_reducible refine (spec_l01Cased.calls  t107 _ A5.out).mono ?_); rintro e w6 ⟨v108, rfl, ho0, hb⟩; have n0_ := Aside0.mk (Kd.R_lower ho0 (below_size (by repeat (first | (with_reducible first | exact HB.out | apply below_alloc | apply pw_below_drewN | apply below_drew1) | exact HB.out)))); have n1_ := Aside0.mk (below_step (by repeat (first | (with_reducible first | exact HB.out | apply below_alloc | apply pw_below_drewN | apply below_drew1) | exact HB.out)) hb); clear HB; have HO109 := n0_; have HB := n1_; clear n0_ n1_; (try clear hb); (try clear hb2); (try clear hk); (try clear hi); (try clear ho0)))
        repeat (go_quiet (first | (go_at_call 15; (with_reducible refine (spec_l01Cased.calls  t107 _ A5.out).mono ?_); rintro e w6 ⟨v108, rfl, ho0, hb⟩; have n0_ := Aside0.mk (Kd.R_lower ho0 (below_size (by repeat (first | (with_reducible first | exact HB.out | apply below_alloc | apply pw_below_drewN | apply below_drew1) | exact HB.out)))); have n1_ := Aside0.mk (below_step (by repeat (first | (with_reducible first | exact HB.out | apply below_alloc | apply pw_below_drewN | apply below_drew1) | exact HB.out)) hb); clear HB; have HO109 := n0_; have HB := n1_; clear n0_ n1_; (try clear hb); (try clear hb2); (try clear hk); (try clear hi); (try clear ho0))); try go_wp2_with (first | (go_at_call 15; (with_reducible refine (spec_l01Cased.calls  t107 _ A5.out).mono ?_); rintro e w6 ⟨v108, rfl, ho0, hb⟩; have n0_ := Aside0.mk (Kd.R_lower ho0 (below_size (by repeat (first | (with_reducible first | exact HB.out | apply below_alloc | apply pw_below_drewN | apply below_drew1) | exact HB.out)))); have n1_ := Aside0.mk (below_step (by repeat (first | (with_reducible first | exact HB.out | apply below_alloc | apply pw_below_drewN | apply below_drew1) | exact HB.out)) hb); clear HB; have HO109 := n0_; have HB := n1_; clear n0_ n1_; (try clear hb); (try clear hb2); (try clear hk); (try clear hi); (try clear ho0))))
        go_loopg [5] kj1 (fun kq v5 w' => ∃ (x5_2 : Int), v5 = .int .i64 x5_2 ∧ Aside0 (spec_l01Known.l0 kq a0 t107 x5_2 = some (r1, r2)) ∧ Aside0 (kq ≤ kj1) ∧ Aside0 (Kd.R k33 33 w' w.heap.size (fun _ => True) v108 t107) ∧ Aside0 (Below w.heap.size w w'))
        case atStart => exact ⟨(0), (by first | rfl | (simp; done) | (simp [*]; done)), H', ⟨Nat.le_refl _⟩, ⟨by (with_reducible repeat (first | apply Kd.R_alloc | apply Kd.R_drewN | apply Kd.R_drew)); exact HO109.out⟩, ⟨by repeat (first | (with_reducible first | exact HB.out | apply below_alloc | apply pw_below_drewN | apply below_drew1) | exact HB.out)⟩⟩
        case round =>
          clear H'
          try clear c1
          try clear p2
          try clear c3
          try clear c3b0
          try clear c4
          try clear p2
          obtain ⟨x5_2, rfl, HA, HK2, HO_4, HB⟩ := hrel
          cases gk with
          | zero => exact absurd HA.out (by simp [spec_l01Known.l0])
          | succ k2 =>
            have H := HA.out
            clear HA
            simp only [spec_l01Known.l0] at H
            by_cases c7 : x5_2 < (t107.length : Int)
            · rw [if_pos c7] at H
              have c7b0 : decide (x5_2 < (t107.length : Int)) = true := decide_eq_true c7
              clear c7
              by_cases c8 : 0 ≤ x5_2
              · rw [if_pos c8] at H
                have c8b0 : decide (0 ≤ x5_2) = true := decide_eq_true c8
                clear c8
                by_cases c9 : (Int.tmod a0 256) ≥ ((rd_T33 t107 x5_2).f0)
                · rw [if_pos c9] at H
                  have c9b0 : decide (((rd_T33 t107 x5_2).f0) ≤ (Int.tmod a0 256)) = true := decide_eq_true c9
                  clear c9
                  by_cases c10 : (Int.tmod a0 256) ≤ ((rd_T33 t107 x5_2).f1)
                  · rw [if_pos c10] at H
                    have c10b0 : decide ((Int.tmod a0 256) ≤ ((rd_T33 t107 x5_2).f1)) = true := decide_eq_true c10
                    clear c10
                    simp only [Option.some.injEq, Prod.mk.injEq] at H
                    obtain ⟨rfl, rfl⟩ := H
                    obtain ⟨Ao11, co11, eo11⟩ := Kd.R_slice HO_4.out
                    subst eo11
                    have p110 : 0 ≤ (x5_2 : Int) := of_decide_eq_true (by first | (with_reducible assumption) | assumption)
                    have q110 : x5_2 < (t107.length : Int) := of_decide_eq_true (by first | (with_reducible assumption) | assumption)
                    obtain ⟨ad110, e110, hx110_0, hx110_1, hx110_2, hx110_3⟩ := at_T33 (Kd.R_reads' HO_4.out).2.2 x5_2 p110 q110
                    cases e110
                    replace p110 := eq_true p110
                    replace q110 := eq_true q110
                    have p111 : 0 ≤ (x5_2 : Int) := of_decide_eq_true (by first | (with_reducible assumption) | assumption)
                    have q111 : x5_2 < (t107.length : Int) := of_decide_eq_true (by first | (with_reducible assumption) | assumption)
                    obtain ⟨ad111, e111, hx111_0, hx111_1, hx111_2, hx111_3⟩ := at_T33 (Kd.R_reads' HO_4.out).2.2 x5_2 p111 q111
                    obtain rfl : ad110 = ad111 := (by injection e111)
                    replace p111 := eq_true p111
                    replace q111 := eq_true q111
                    have p112 : 0 ≤ (x5_2 : Int) := of_decide_eq_true (by first | (with_reducible assumption) | assumption)
                    have q112 : x5_2 < (t107.length : Int) := of_decide_eq_true (by first | (with_reducible assumption) | assumption)
                    obtain ⟨ad112, e112, hx112_0, hx112_1, hx112_2, hx112_3⟩ := at_T33 (Kd.R_reads' HO_4.out).2.2 x5_2 p112 q112
                    obtain rfl : ad110 = ad112 := (by injection e112)
                    replace p112 := eq_true p112
                    replace q112 := eq_true q112
                    go_wp2
                    repeat (go_quiet (fail); try go_wp2)
                    go_ret2
                    exact ⟨by first | rfl | (simp [errW_none, errW_some] <;> rfl) | (simp [*, errW_none, errW_some] <;> rfl), by repeat (first | (with_reducible first | exact HB.out | apply below_alloc | apply pw_below_drewN | apply below_drew1) | exact HB.out)⟩
                  · rw [if_neg c10] at H
                    have c10b0 : decide ((Int.tmod a0 256) ≤ ((rd_T33 t107 x5_2).f1)) = false := decide_eq_false c10
                    clear c10
                    have H' := Aside0.mk H
                    clear H
                    obtain ⟨Ao12, co12, eo12⟩ := Kd.R_slice HO_4.out
                    subst eo12
                    have p110 : 0 ≤ (x5_2 : Int) := of_decide_eq_true (by first | (with_reducible assumption) | assumption)
                    have q110 : x5_2 < (t107.length : Int) := of_decide_eq_true (by first | (with_reducible assumption) | assumption)
                    obtain ⟨ad110, e110, hx110_0, hx110_1, hx110_2, hx110_3⟩ := at_T33 (Kd.R_reads' HO_4.out).2.2 x5_2 p110 q110
                    cases e110
                    replace p110 := eq_true p110
                    replace q110 := eq_true q110
                    have p111 : 0 ≤ (x5_2 : Int) := of_decide_eq_true (by first | (with_reducible assumption) | assumption)
                    have q111 : x5_2 < (t107.length : Int) := of_decide_eq_true (by first | (with_reducible assumption) | assumption)
                    obtain ⟨ad111, e111, hx111_0, hx111_1, hx111_2, hx111_3⟩ := at_T33 (Kd.R_reads' HO_4.out).2.2 x5_2 p111 q111
                    obtain rfl : ad110 = ad111 := (by injection e111)
                    replace p111 := eq_true p111
                    replace q111 := eq_true q111
                    go_wp2
                    repeat (go_quiet (fail); try go_wp2)
                    go_roundg k2
                    case measure => have := HJ1.out; have := HK2.out; omega
                    case rel => exact ⟨(wrap64 (x5_2 + 1)), (by first | rfl | (simp; done) | (simp [*]; done)), H', ⟨by have := HJ1.out; have := HK2.out; omega⟩, ⟨by (with_reducible repeat (first | apply Kd.R_alloc | apply Kd.R_drewN | apply Kd.R_drew)); exact HO_4.out⟩, ⟨by repeat (first | (with_reducible first | exact HB.out | apply below_alloc | apply pw_below_drewN | apply below_drew1) | exact HB.out)⟩⟩
                · rw [if_neg c9] at H
                  have c9b0 : decide (((rd_T33 t107 x5_2).f0) ≤ (Int.tmod a0 256)) = false := decide_eq_false c9
                  clear c9
                  have H' := Aside0.mk H
                  clear H
                  obtain ⟨Ao13, co13, eo13⟩ := Kd.R_slice HO_4.out
                  subst eo13
                  have p110 : 0 ≤ (x5_2 : Int) := of_decide_eq_true (by first | (with_reducible assumption) | assumption)
                  have q110 : x5_2 < (t107.length : Int) := of_decide_eq_true (by first | (with_reducible assumption) | assumption)
                  obtain ⟨ad110, e110, hx110_0, hx110_1, hx110_2, hx110_3⟩ := at_T33 (Kd.R_reads' HO_4.out).2.2 x5_2 p110 q110
                  cases e110
                  replace p110 := eq_true p110
                  replace q110 := eq_true q110
                  go_wp2
                  repeat (go_quiet (fail); try go_wp2)
                  go_roundg k2
                  case measure => have := HJ1.out; have := HK2.out; omega
                  case rel => exact ⟨(wrap64 (x5_2 + 1)), (by first | rfl | (simp; done) | (simp [*]; done)), H', ⟨by have := HJ1.out; have := HK2.out; omega⟩, ⟨by (with_reducible repeat (first | apply Kd.R_alloc | apply Kd.R_drewN | apply Kd.R_drew)); exact HO_4.out⟩, ⟨by repeat (first | (with_reducible first | exact HB.out | apply below_alloc | apply pw_below_drewN | apply below_drew1) | exact HB.out)⟩⟩
              · rw [if_neg c8] at H
                exact absurd H (by simp)
            · rw [if_neg c7] at H
              have c7b0 : decide (x5_2 < (t107.length : Int)) = false := decide_eq_false c7
              clear c7
              simp only [Option.some.injEq, Prod.mk.injEq] at H
              obtain ⟨rfl, rfl⟩ := H
              obtain ⟨Ao14, co14, eo14⟩ := Kd.R_slice HO_4.out
              subst eo14
              go_wp2
              repeat (go_quiet (fail); try go_wp2)
              go_ret2
              exact ⟨by first | rfl | (simp [errW_none, errW_some] <;> rfl) | (simp [*, errW_none, errW_some] <;> rfl), by repeat (first | (with_reducible first | exact HB.out | apply below_alloc | apply pw_below_drewN | apply below_drew1) | exact HB.out)⟩
      · replace c4 := Bool.eq_false_iff.mpr c4
        subst c4
        have H1 : (if a0 ≥ 8192 then (spec_l01Known.j2 kj1 a0 (decide (a0 < 9728))) else (spec_l01Known.j2 kj1 a0 false)) = some (r1, r2) := by rw [if_neg (show ¬ (false = true) by decide)] at H; exact H
        clear H
        have H := H1
        clear H1
        have HC15 := Aside0.mk H
        clear H
        go_upto_region 9 with (fail)
        repeat (go_quiet (fail); go_upto_region 9 with (fail))
        go_cut [52] (fun v52 wc => ∃ (kq : Nat) (x52_14 : Bool), v52 = .bool x52_14 ∧ Aside0 (spec_l01Known.j2 kq a0 x52_14 = some (r1, r2)) ∧ Aside0 (kq ≤ kj1) ∧ Aside0 (Below w.heap.size w wc))
        case first =>
          have H := HC15.out
          clear HC15
          by_cases c16 : a0 ≥ 8192
          · rw [if_pos c16] at H
            have c16b0 : decide (8192 ≤ a0) = true := decide_eq_true c16
            clear c16
            (first | rw [c16b0] | (simp only [i64_w, i32_w]; rw [c16b0]) | skip)
            have H' := Aside0.mk H
            clear H
            go_wp2
            repeat (go_quiet (fail); try go_wp2)
            go_meet
            case rel => exact ⟨_, (decide (a0 < 9728)), (by first | rfl | (simp; done) | (simp [*]; done)), H', ⟨by have := HJ1.out; first | omega | exact Nat.le_refl _⟩, ⟨by repeat (first | (with_reducible first | exact HB.out | apply below_alloc | apply pw_below_drewN | apply below_drew1) | exact HB.out)⟩⟩
          · rw [if_neg c16] at H
            have c16b0 : decide (8192 ≤ a0) = false := decide_eq_false c16
            clear c16
            (first | rw [c16b0] | (simp only [i64_w, i32_w]; rw [c16b0]) | skip)
            have H' := Aside0.mk H
            clear H
            go_wp2
            repeat (go_quiet (fail); try go_wp2)
            go_meet
            case rel => exact ⟨_, (false), (by first | rfl | (simp; done) | (simp [*]; done)), H', ⟨by have := HJ1.out; first | omega | exact Nat.le_refl _⟩, ⟨by repeat (first | (with_reducible first | exact HB.out | apply below_alloc | apply pw_below_drewN | apply below_drew1) | exact HB.out)⟩⟩
        case rest =>
          clear HC15
          try clear c1
          try clear p1
          try clear q1
          try clear hx1
          try clear p2
          try clear c3
          try clear c3b0
          try clear c4
          try clear p6
          try clear c7
          try clear c7b0
          try clear c8
          try clear c8b0
          try clear c9
          try clear c9b0
          try clear c10
          try clear c10b0
          try clear p11
          try clear q11
          try clear hx11
          try clear c13
          try clear c16
          try clear c16b0
          try clear hx110_0
          try clear hx110_1
          try clear hx110_2
          try clear hx110_3
          try clear hx111_0
          try clear hx111_1
          try clear hx111_2
          try clear hx111_3
          try clear hx112_0
          try clear hx112_1
          try clear hx112_2
          try clear hx112_3
          try clear p110
          try clear p111
          try clear p112
          try clear p2
          try clear q110
          try clear q111
          try clear q112
          obtain ⟨kq, x52_14, rfl, HA, HJ14, HB⟩ := hcut
          cases kq with
          | zero => exact absurd HA.out (by simp [spec_l01Known.j2])
          | succ kj14 =>
            have H := HA.out
            clear HA
            simp only [spec_l01Known.j2] at H
            by_cases c17 : x52_14 = true
            · subst c17
              have H1 : (if (Int.tmod a0 512) ≥ 416 then (some (0, 0)) else (if (Int.tmod a0 512) < 208 then (some (4, 1)) else (some (5, 1)))) = some (r1, r2) := by rw [if_pos rfl] at H; exact H
              clear H
              have H := H1
              clear H1
              by_cases c18 : (Int.tmod a0 512) ≥ 416
              · rw [if_pos c18] at H
                have c18b0 : decide (416 ≤ (Int.tmod a0 512)) = true := decide_eq_true c18
                clear c18
                simp only [Option.some.injEq, Prod.mk.injEq] at H
                obtain ⟨rfl, rfl⟩ := H
                go_wp2
                repeat (go_quiet (fail); try go_wp2)
                go_ret2
                exact ⟨by first | rfl | (simp [errW_none, errW_some] <;> rfl) | (simp [*, errW_none, errW_some] <;> rfl), by repeat (first | (with_reducible first | exact HB.out | apply below_alloc | apply pw_below_drewN | apply below_drew1) | exact HB.out)⟩
              · rw [if_neg c18] at H
                have c18b0 : decide (416 ≤ (Int.tmod a0 512)) = false := decide_eq_false c18
                clear c18
                by_cases c19 : (Int.tmod a0 512) < 208
                · rw [if_pos c19] at H
                  have c19b0 : decide ((Int.tmod a0 512) < 208) = true := decide_eq_true c19
                  clear c19
                  simp only [Option.some.injEq, Prod.mk.injEq] at H
                  obtain ⟨rfl, rfl⟩ := H
                  go_wp2
                  repeat (go_quiet (fail); try go_wp2)
                  go_ret2
                  exact ⟨by first | rfl | (simp [errW_none, errW_some] <;> rfl) | (simp [*, errW_none, errW_some] <;> rfl), by repeat (first | (with_reducible first | exact HB.out | apply below_alloc | apply pw_below_drewN | apply below_drew1) | exact HB.out)⟩
                · rw [if_neg c19] at H
                  have c19b0 : decide ((Int.tmod a0 512) < 208) = false := decide_eq_false c19
                  clear c19
                  simp only [Option.some.injEq, Prod.mk.injEq] at H
                  obtain ⟨rfl, rfl⟩ := H
                  go_wp2
                  repeat (go_quiet (fail); try go_wp2)
                  go_ret2
                  exact ⟨by first | rfl | (simp [errW_none, errW_some] <;> rfl) | (simp [*, errW_none, errW_some] <;> rfl), by repeat (first | (with_reducible first | exact HB.out | apply below_alloc | apply pw_below_drewN | apply below_drew1) | exact HB.out)⟩
            · replace c17 := Bool.eq_false_iff.mpr c17
              subst c17
              have H1 : ((spec_l01Rows.f).bind fun t113 => (spec_l01Known.l1 kj14 a0 t113 0)) = some (r1, r2) := by rw [if_neg (show ¬ (false = true) by decide)] at H; exact H
              clear H
              have H := H1
              clear H1
              replace H := Option.bind_eq_some_iff.mp H
              obtain ⟨t113, A200, H⟩ := H
              replace H : (spec_l01Known.l1 kj14 a0 t113 0) = some (r1, r2) := H
              have A20 := Aside0.mk A200
              clear A200
              have H' := Aside0.mk H
              clear H
              go_wp2_with (first | (go_at_call 16; (with_reducible refine (spec_l01Rows.calls  t113 _ A20.out).mono ?_); rintro e w21 ⟨v114, rfl, ho0, hb⟩; have n0_ := Aside0.mk (Kd.R_lower ho0 (below_size (by repeat (first | (with_reducible first | exact HB.out | apply below_alloc | apply pw_below_drewN | apply below_drew1) | exact HB.out)))); have n1_ := Aside0.mk (below_step (by repeat (first | (with_reducible first | exact HB.out | apply below_alloc | apply pw_below_drewN | apply below_drew1) | exact HB.out)) hb); clear HB; have HO115 := n0_; have HB := n1_; clear n0_ n1_; (try clear hb); (try clear hb2); (try clear hk); (try clear hi); (try clear ho0)))
              repeat (go_quiet (first | (go_at_call 16; (with_reducible refine (spec_l01Rows.calls  t113 _ A20.out).mono ?_); rintro e w21 ⟨v114, rfl, ho0, hb⟩; have n0_ := Aside0.mk (Kd.R_lower ho0 (below_size (by repeat (first | (with_reducible first | exact HB.out | apply below_alloc | apply pw_below_drewN | apply below_drew1) | exact HB.out)))); have n1_ := Aside0.mk (below_step (by repeat (first | (with_reducible first | exact HB.out | apply below_alloc | apply pw_below_drewN | apply below_drew1) | exact HB.out)) hb); clear HB; have HO115 := n0_; have HB := n1_; clear n0_ n1_; (try clear hb); (try clear hb2); (try clear hk); (try clear hi); (try clear ho0))); try go_wp2_with (first | (go_at_call 16; (with_reducible refine (spec_l01Rows.calls  t113 _ A20.out).mono ?_); rintro e w21 ⟨v114, rfl, ho0, hb⟩; have n0_ := Aside0.mk (Kd.R_lower ho0 (below_size (by repeat (first | (with_reducible first | exact HB.out | apply below_alloc | apply pw_below_drewN | apply below_drew1) | exact HB.out)))); have n1_ := Aside0.mk (below_step (by repeat (first | (with_reducible first | exact HB.out | apply below_alloc | apply pw_below_drewN | apply below_drew1) | exact HB.out)) hb); clear HB; have HO115 := n0_; have HB := n1_; clear n0_ n1_; (try clear hb); (try clear hb2); (try clear hk); (try clear hi); (try clear ho0))))
              go_loopg [8] kj14 (fun kq v8 w' => ∃ (x8_3 : Int), v8 = .int .i64 x8_3 ∧ Aside0 (spec_l01Known.l1 kq a0 t113 x8_3 = some (r1, r2)) ∧ Aside0 (kq ≤ kj14) ∧ Aside0 (Kd.R k33 33 w' w.heap.size (fun _ => True) v114 t113) ∧ Aside0 (Below w.heap.size w w'))
              case atStart => exact ⟨(0), (by first | rfl | (simp; done) | (simp [*]; done)), H', ⟨Nat.le_refl _⟩, ⟨by (with_reducible repeat (first | apply Kd.R_alloc | apply Kd.R_drewN | apply Kd.R_drew)); exact HO115.out⟩, ⟨by repeat (first | (with_reducible first | exact HB.out | apply below_alloc | apply pw_below_drewN | apply below_drew1) | exact HB.out)⟩⟩
              case round =>
                clear H'
                try clear c1
                try clear p1
                try clear q1
                try clear hx1
                try clear p2
                try clear c3
                try clear c3b0
                try clear c4
                try clear p6
                try clear c7
                try clear c7b0
                try clear c8
                try clear c8b0
                try clear c9
                try clear c9b0
                try clear c10
                try clear c10b0
                try clear p11
                try clear q11
                try clear hx11
                try clear c13
                try clear c16
                try clear c16b0
                try clear c17
                try clear c18
                try clear c18b0
                try clear c19
                try clear c19b0
                try clear hx110_0
                try clear hx110_1
                try clear hx110_2
                try clear hx110_3
                try clear hx111_0
                try clear hx111_1
                try clear hx111_2
                try clear hx111_3
                try clear hx112_0
                try clear hx112_1
                try clear hx112_2
                try clear hx112_3
                try clear p1
                try clear p11
                try clear p110
                try clear p111
                try clear p112
                try clear p2
                try clear p6
                try clear q1
                try clear q11
                try clear q110
                try clear q111
                try clear q112
                obtain ⟨x8_3, rfl, HA, HK3, HO_7, HB⟩ := hrel
                cases gk with
                | zero => exact absurd HA.out (by simp [spec_l01Known.l1])
                | succ k3 =>
                  have H := HA.out
                  clear HA
                  simp only [spec_l01Known.l1] at H
                  by_cases c22 : x8_3 < (t113.length : Int)
                  · rw [if_pos c22] at H
                    have c22b0 : decide (x8_3 < (t113.length : Int)) = true := decide_eq_true c22
                    clear c22
                    by_cases c23 : 0 ≤ x8_3
                    · rw [if_pos c23] at H
                      have c23b0 : decide (0 ≤ x8_3) = true := decide_eq_true c23
                      clear c23
                      by_cases c24 : a0 ≥ ((rd_T33 t113 x8_3).f0)
                      · rw [if_pos c24] at H
                        have c24b0 : decide (((rd_T33 t113 x8_3).f0) ≤ a0) = true := decide_eq_true c24
                        clear c24
                        by_cases c25 : a0 ≤ ((rd_T33 t113 x8_3).f1)
                        · rw [if_pos c25] at H
                          have c25b0 : decide (a0 ≤ ((rd_T33 t113 x8_3).f1)) = true := decide_eq_true c25
                          clear c25
                          simp only [Option.some.injEq, Prod.mk.injEq] at H
                          obtain ⟨rfl, rfl⟩ := H
                          obtain ⟨Ao26, co26, eo26⟩ := Kd.R_slice HO_7.out
                          subst eo26
                          have p116 : 0 ≤ (x8_3 : Int) := of_decide_eq_true (by first | (with_reducible assumption) | assumption)
                          have q116 : x8_3 < (t113.length : Int) := of_decide_eq_true (by first | (with_reducible assumption) | assumption)
                          obtain ⟨ad116, e116, hx116_0, hx116_1, hx116_2, hx116_3⟩ := at_T33 (Kd.R_reads' HO_7.out).2.2 x8_3 p116 q116
                          cases e116
                          replace p116 := eq_true p116
                          replace q116 := eq_true q116
                          have p117 : 0 ≤ (x8_3 : Int) := of_decide_eq_true (by first | (with_reducible assumption) | assumption)
                          have q117 : x8_3 < (t113.length : Int) := of_decide_eq_true (by first | (with_reducible assumption) | assumption)
                          obtain ⟨ad117, e117, hx117_0, hx117_1, hx117_2, hx117_3⟩ := at_T33 (Kd.R_reads' HO_7.out).2.2 x8_3 p117 q117
                          obtain rfl : ad116 = ad117 := (by injection e117)
                          replace p117 := eq_true p117
                          replace q117 := eq_true q117
                          have p118 : 0 ≤ (x8_3 : Int) := of_decide_eq_true (by first | (with_reducible assumption) | assumption)
                          have q118 : x8_3 < (t113.length : Int) := of_decide_eq_true (by first | (with_reducible assumption) | assumption)
                          obtain ⟨ad118, e118, hx118_0, hx118_1, hx118_2, hx118_3⟩ := at_T33 (Kd.R_reads' HO_7.out).2.2 x8_3 p118 q118
                          obtain rfl : ad116 = ad118 := (by injection e118)
                          replace p118 := eq_true p118
                          replace q118 := eq_true q118
                          have p119 : 0 ≤ (x8_3 : Int) := of_decide_eq_true (by first | (with_reducible assumption) | assumption)
                          have q119 : x8_3 < (t113.length : Int) := of_decide_eq_true (by first | (with_reducible assumption) | assumption)
                          obtain ⟨ad119, e119, hx119_0, hx119_1, hx119_2, hx119_3⟩ := at_T33 (Kd.R_reads' HO_7.out).2.2 x8_3 p119 q119
                          obtain rfl : ad116 = ad119 := (by injection e119)
                          replace p119 := eq_true p119
                          replace q119 := eq_true q119
                          go_wp2
                          repeat (go_quiet (fail); try go_wp2)
                          go_ret2
                          exact ⟨by first | rfl | (simp [errW_none, errW_some] <;> rfl) | (simp [*, errW_none, errW_some] <;> rfl), by repeat (first | (with_reducible first | exact HB.out | apply below_alloc | apply pw_below_drewN | apply below_drew1) | exact HB.out)⟩
                        · rw [if_neg c25] at H
                          have c25b0 : decide (a0 ≤ ((rd_T33 t113 x8_3).f1)) = false := decide_eq_false c25
                          clear c25
                          have H' := Aside0.mk H
                          clear H
                          obtain ⟨Ao27, co27, eo27⟩ := Kd.R_slice HO_7.out
                          subst eo27
                          have p116 : 0 ≤ (x8_3 : Int) := of_decide_eq_true (by first | (with_reducible assumption) | assumption)
                          have q116 : x8_3 < (t113.length : Int) := of_decide_eq_true (by first | (with_reducible assumption) | assumption)
                          obtain ⟨ad116, e116, hx116_0, hx116_1, hx116_2, hx116_3⟩ := at_T33 (Kd.R_reads' HO_7.out).2.2 x8_3 p116 q116
                          cases e116
                          replace p116 := eq_true p116
                          replace q116 := eq_true q116
                          have p117 : 0 ≤ (x8_3 : Int) := of_decide_eq_true (by first | (with_reducible assumption) | assumption)
                          have q117 : x8_3 < (t113.length : Int) := of_decide_eq_true (by first | (with_reducible assumption) | assumption)
                          obtain ⟨ad117, e117, hx117_0, hx117_1, hx117_2, hx117_3⟩ := at_T33 (Kd.R_reads' HO_7.out).2.2 x8_3 p117 q117
                          obtain rfl : ad116 = ad117 := (by injection e117)
                          replace p117 := eq_true p117
                          replace q117 := eq_true q117
                          go_wp2
                          repeat (go_quiet (fail); try go_wp2)
                          go_roundg k3
                          case measure => have := HJ1.out; have := HJ14.out; have := HK3.out; omega
                          case rel => exact ⟨(wrap64 (x8_3 + 1)), (by first | rfl | (simp; done) | (simp [*]; done)), H', ⟨by have := HJ1.out; have := HJ14.out; have := HK3.out; omega⟩, ⟨by (with_reducible repeat (first | apply Kd.R_alloc | apply Kd.R_drewN | apply Kd.R_drew)); exact HO_7.out⟩, ⟨by repeat (first | (with_reducible first | exact HB.out | apply below_alloc | apply pw_below_drewN | apply below_drew1) | exact HB.out)⟩⟩
                      · rw [if_neg c24] at H
                        have c24b0 : decide (((rd_T33 t113 x8_3).f0) ≤ a0) = false := decide_eq_false c24
                        clear c24
                        have H' := Aside0.mk H
                        clear H
                        obtain ⟨Ao28, co28, eo28⟩ := Kd.R_slice HO_7.out
                        subst eo28
                        have p116 : 0 ≤ (x8_3 : Int) := of_decide_eq_true (by first | (with_reducible assumption) | assumption)
                        have q116 : x8_3 < (t113.length : Int) := of_decide_eq_true (by first | (with_reducible assumption) | assumption)
                        obtain ⟨ad116, e116, hx116_0, hx116_1, hx116_2, hx116_3⟩ := at_T33 (Kd.R_reads' HO_7.out).2.2 x8_3 p116 q116
                        cases e116
                        replace p116 := eq_true p116
                        replace q116 := eq_true q116
                        go_wp2
                        repeat (go_quiet (fail); try go_wp2)
                        go_roundg k3
                        case measure => have := HJ1.out; have := HJ14.out; have := HK3.out; omega
                        case rel => exact ⟨(wrap64 (x8_3 + 1)), (by first | rfl | (simp; done) | (simp [*]; done)), H', ⟨by have := HJ1.out; have := HJ14.out; have := HK3.out; omega⟩, ⟨by (with_reducible repeat (first | apply Kd.R_alloc | apply Kd.R_drewN | apply Kd.R_drew)); exact HO_7.out⟩, ⟨by repeat (first | (with_reducible first | exact HB.out | apply below_alloc | apply pw_below_drewN | apply below_drew1) | exact HB.out)⟩⟩
                    · rw [if_neg c23] at H
                      exact absurd H (by simp)
                  · rw [if_neg c22] at H
                    have c22b0 : decide (x8_3 < (t113.length : Int)) = false := decide_eq_false c22
                    clear c22
                    simp only [Option.some.injEq, Prod.mk.injEq] at H
                    obtain ⟨rfl, rfl⟩ := H
                    obtain ⟨Ao29, co29, eo29⟩ := Kd.R_slice HO_7.out
                    subst eo29
                    go_wp2
                    repeat (go_quiet (fail); try go_wp2)
                    go_ret2
                    exact ⟨by first | rfl | (simp [errW_none, errW_some] <;> rfl) | (simp [*, errW_none, errW_some] <;> rfl), by repeat (first | (with_reducible first | exact HB.out | apply below_alloc | apply pw_below_drewN | apply below_drew1) | exact HB.out)⟩

/-! ### spec_l01Cat: function 11 -/
def spec_l01Cat.f (k : Nat) (a0 : Int) : Option (Int) := (spec_l01Known.f k a0).bind fun bt120 => (some bt120.1)
theorem spec_l01Cat.mono : ∀ a0 k, LeO (spec_l01Cat.f k a0) (spec_l01Cat.f (k + 1) a0) := by
  intro a0 k
  unfold spec_l01Cat.f
  repeat' first
      | (with_reducible exact spec_l01Known.mono _ _)
      | (with_reducible exact LeO.refl _)
      | (with_reducible exact LeO.none _)
      | (with_reducible refine LeO.ite ?_ ?_)
      | (with_reducible refine LeO.bind ?_ (fun _ => ?_))
      | exact spec_l01Known.mono _ _
      | exact LeO.none _
      | refine LeO.ite ?_ ?_
      | refine LeO.bind ?_ (fun _ => ?_)
set_option maxHeartbeats 8000000 in
set_option maxRecDepth 100000 in
theorem spec_l01Cat.calls (k : Nat) (a0 : Int) (r : Int) (w : World) (h : spec_l01Cat.f k a0 = some r) :
    Calls Tryd.prog 11 #[.int .i64 a0] w fun e w' => e = .returned (.int .i64 r) ∧ Below w.heap.size w w' := by
  have HB := Aside0.mk (Below.refl w.heap.size w)
  have H : ((spec_l01Known.f k a0).bind fun bt120 => (some bt120.1)) = some r := h
  clear h
  replace H := Option.bind_eq_some_iff.mp H
  obtain ⟨⟨t120, t121⟩, A20, H⟩ := H
  replace H : (some t120) = some r := H
  have A2 := Aside0.mk A20
  clear A20
  obtain rfl := Option.some.inj H
  go_enter Tryd.func11, Tryd.ntmps11
  go_wp2_with (first | ((with_reducible refine gate_callee (f := 13) rfl ?_); refine goesL_ (some 7) rfl rfl Tryd.func13 (by kernel_rfl) rfl #[.int .i64 a0] rfl (by (try simp only [List.map_toArray, List.map_cons, List.map_nil]); first | done | rfl | (simp only [List.length_drop, List.length_take]; rfl)) ?_; (with_reducible refine (spec_l01Known.calls k a0 t120 t121 _ A2.out).mono ?_); rintro e w3 ⟨rfl, hb⟩; refine ⟨_, rfl, ?_⟩; have n0_ := Aside0.mk (below_step (by repeat (first | (with_reducible first | exact HB.out | apply below_alloc | apply pw_below_drewN | apply below_drew1) | exact HB.out)) hb); clear HB; have HB := n0_; clear n0_; (try clear hb); (try clear hb2); (try clear hk); (try clear hi)))
  go_ret
  exact ⟨by first | rfl | (simp [errW_none, errW_some] <;> rfl) | (simp [*, errW_none, errW_some] <;> rfl), by repeat (first | (with_reducible first | exact HB.out | apply below_alloc | apply pw_below_drewN | apply below_drew1) | exact HB.out)⟩

/-! ### spec_DigitOf: function 7 -/
def spec_DigitOf.f (k : Nat) (a0 : Int) : Option (Int) := (spec_l01Cat.f k a0).bind fun t122 => (if t122 = 8 then (some (Int.tmod (Int.tmod a0 16) 10)) else (some (-1)))
theorem spec_DigitOf.mono : ∀ a0 k, LeO (spec_DigitOf.f k a0) (spec_DigitOf.f (k + 1) a0) := by
  intro a0 k
  unfold spec_DigitOf.f
  repeat' first
      | (with_reducible exact spec_l01Cat.mono _ _)
      | (with_reducible exact LeO.refl _)
      | (with_reducible exact LeO.none _)
      | (with_reducible refine LeO.ite ?_ ?_)
      | (with_reducible refine LeO.bind ?_ (fun _ => ?_))
      | exact spec_l01Cat.mono _ _
      | exact LeO.none _
      | refine LeO.ite ?_ ?_
      | refine LeO.bind ?_ (fun _ => ?_)
set_option maxHeartbeats 8000000 in
set_option maxRecDepth 100000 in
theorem spec_DigitOf.calls (k : Nat) (a0 : Int) (r : Int) (w : World) (h : spec_DigitOf.f k a0 = some r) :
    Calls Tryd.prog 7 #[.int .i64 a0] w fun e w' => e = .returned (.int .i64 r) ∧ Below w.heap.size w w' := by
  have HB := Aside0.mk (Below.refl w.heap.size w)
  have H : ((spec_l01Cat.f k a0).bind fun t122 => (if t122 = 8 then (some (Int.tmod (Int.tmod a0 16) 10)) else (some (-1)))) = some r := h
  clear h
  replace H := Option.bind_eq_some_iff.mp H
  obtain ⟨t122, A20, H⟩ := H
  replace H : (if t122 = 8 then (some (Int.tmod (Int.tmod a0 16) 10)) else (some (-1))) = some r := H
  have A2 := Aside0.mk A20
  clear A20
  by_cases c3 : t122 = 8
  · rw [if_pos c3] at H
    have c3b0 : (t122 == 8) = true := beq_iff_eq.mpr c3
    have c3b1 : (t122 != 8) = false := bne_eq_false_iff_eq.mpr c3
    clear c3
    obtain rfl := Option.some.inj H
    go_enter Tryd.func7, Tryd.ntmps7
    go_wp2_with (first | ((with_reducible refine gate_callee (f := 11) rfl ?_); refine goesL_ (some 4) rfl rfl Tryd.func11 (by kernel_rfl) rfl #[.int .i64 a0] rfl (by (try simp only [List.map_toArray, List.map_cons, List.map_nil]); first | done | rfl | (simp only [List.length_drop, List.length_take]; rfl)) ?_; (with_reducible refine (spec_l01Cat.calls k a0 t122 _ A2.out).mono ?_); rintro e w4 ⟨rfl, hb⟩; refine ⟨_, rfl, ?_⟩; have n0_ := Aside0.mk (below_step (by repeat (first | (with_reducible first | exact HB.out | apply below_alloc | apply pw_below_drewN | apply below_drew1) | exact HB.out)) hb); clear HB; have HB := n0_; clear n0_; (try clear hb); (try clear hb2); (try clear hk); (try clear hi)))
    go_ret
    exact ⟨by first | rfl | (simp [errW_none, errW_some] <;> rfl) | (simp [*, errW_none, errW_some] <;> rfl), by repeat (first | (with_reducible first | exact HB.out | apply below_alloc | apply pw_below_drewN | apply below_drew1) | exact HB.out)⟩
  · rw [if_neg c3] at H
    have c3b0 : (t122 == 8) = false := beq_eq_false_iff_ne.mpr c3
    have c3b1 : (t122 != 8) = true := bne_iff_ne.mpr c3
    obtain rfl := Option.some.inj H
    go_enter Tryd.func7, Tryd.ntmps7
    go_wp2_with (first | ((with_reducible refine gate_callee (f := 11) rfl ?_); refine goesL_ (some 4) rfl rfl Tryd.func11 (by kernel_rfl) rfl #[.int .i64 a0] rfl (by (try simp only [List.map_toArray, List.map_cons, List.map_nil]); first | done | rfl | (simp only [List.length_drop, List.length_take]; rfl)) ?_; (with_reducible refine (spec_l01Cat.calls k a0 t122 _ A2.out).mono ?_); rintro e w5 ⟨rfl, hb⟩; refine ⟨_, rfl, ?_⟩; have n0_ := Aside0.mk (below_step (by repeat (first | (with_reducible first | exact HB.out | apply below_alloc | apply pw_below_drewN | apply below_drew1) | exact HB.out)) hb); clear HB; have HB := n0_; clear n0_; (try clear hb); (try clear hb2); (try clear hk); (try clear hi)))
    go_ret
    exact ⟨by first | rfl | (simp [errW_none, errW_some] <;> rfl) | (simp [*, errW_none, errW_some] <;> rfl), by repeat (first | (with_reducible first | exact HB.out | apply below_alloc | apply pw_below_drewN | apply below_drew1) | exact HB.out)⟩

/-! ### impl_in: function 14 -/
def impl_in.f (a0 : Int) (a1 : Int) (a2 : Int) : Option (Bool) := if a0 ≥ a1 then (some (decide (a0 ≤ a2))) else (some false)
set_option maxHeartbeats 8000000 in
set_option maxRecDepth 100000 in
theorem impl_in.calls (a0 : Int) (a1 : Int) (a2 : Int) (r : Bool) (w : World) (h : impl_in.f a0 a1 a2 = some r) :
    Calls Tryd.prog 14 #[.int .i64 a0, .int .i64 a1, .int .i64 a2] w fun e w' => e = .returned (.bool r) ∧ Drawn0 w w' := by
  have H : (if a0 ≥ a1 then (some (decide (a0 ≤ a2))) else (some false)) = some r := h
  clear h
  by_cases c4 : a0 ≥ a1
  · rw [if_pos c4] at H
    have c4b0 : decide (a1 ≤ a0) = true := decide_eq_true c4
    clear c4
    obtain rfl := Option.some.inj H
    go_enter Tryd.func14, Tryd.ntmps14
    go_wp2
    go_ret
    exact ⟨by first | rfl | (simp; done) | (simp [*]; done), by repeat (first | exact Drawn0.refl _ | apply Drawn0.step)⟩
  · rw [if_neg c4] at H
    have c4b0 : decide (a1 ≤ a0) = false := decide_eq_false c4
    clear c4
    obtain rfl := Option.some.inj H
    go_enter Tryd.func14, Tryd.ntmps14
    go_wp2
    go_ret
    exact ⟨by first | rfl | (simp; done) | (simp [*]; done), by repeat (first | exact Drawn0.refl _ | apply Drawn0.step)⟩

/-! ### impl_systemOf: function 12 (by hand) -/
def impl_systemOf.l0 : Nat → Int → List Int → Int → Option (Int × Int)
  | 0, _, _, _ => none
  | k + 1, a0, L, x => if x < (L.length : Int) then (if 0 ≤ x then ((impl_in.f a0 (rd L x) (wrap64 (rd L x + 9))).bind fun t => (if t = true then (some (x, wrap64 (a0 - rd L x))) else (impl_systemOf.l0 k a0 L (wrap64 (x + 1))))) else (none)) else (some (-1, -1))
def impl_systemOf.f (a0 : Int) : Option (Int × Int) := impl_systemOf.l0 8 a0 digRows 0
theorem impl_systemOf.walk (L : List Int) (A : Option Addr) (c K : Nat) (a0 r1 r2 : Int) (w : World) (hcell : w.cell? ⟨1, 0, none⟩ = some (.slice A L.length c)) (hr : Kd.C (Kd.int .i64) w A L.length L) (hc : L.length ≤ c) (h : impl_systemOf.l0 K a0 L 0 = some (r1, r2)) :
    Calls Tryd.prog 12 #[.int .i64 a0] w fun e w' => e = .returned (.tuple #[.int .i64 r1, .int .i64 r2]) ∧ Drawn0 w w' := by
  have HR0 := Aside0.mk hr
  have HC0 := Aside0.mk hc
  clear hr hc
  have H' := Aside0.mk h
  clear h
  go_enter Tryd.func12, Tryd.ntmps12
  go_wp2
  go_loopg [8] K (fun kq v8 w' => ∃ (x8_1 : Int), v8 = .int .i64 x8_1 ∧ Aside0 (impl_systemOf.l0 kq a0 L x8_1 = some (r1, r2)) ∧ Aside0 (kq ≤ K) ∧ Drawn0 w w')
  case atStart => exact ⟨(0), (by first | rfl | (simp; done) | (simp [*]; done)), H', ⟨Nat.le_refl _⟩, by repeat (first | exact Drawn0.refl _ | apply Drawn0.step)⟩
  case round =>
    clear H'
    try clear p2
    obtain ⟨x8_1, rfl, HA, HK1, ⟨m1, rfl⟩⟩ := hrel
    cases gk with
    | zero => exact absurd HA.out (by simp [impl_systemOf.l0])
    | succ k1 =>
      have H := HA.out
      clear HA
      simp only [impl_systemOf.l0] at H
      by_cases c3 : x8_1 < (L.length : Int)
      · rw [if_pos c3] at H
        have c3b0 : decide (x8_1 < (L.length : Int)) = true := decide_eq_true c3
        clear c3
        by_cases c4 : 0 ≤ x8_1
        · rw [if_pos c4] at H
          have c4b0 : decide (0 ≤ x8_1) = true := decide_eq_true c4
          clear c4
          replace H := Option.bind_eq_some_iff.mp H
          obtain ⟨t1, A10, H⟩ := H
          have A1 := Aside0.mk A10
          clear A10
          have p215 : 0 ≤ (x8_1 : Int) := of_decide_eq_true (by first | (with_reducible assumption) | assumption)
          have q215 : x8_1 < (L.length : Int) := of_decide_eq_true (by first | (with_reducible assumption) | assumption)
          obtain ⟨ad215, e215, hx215_0⟩ := Kd.at_int HR0.out x8_1 p215 q215
          cases e215
          replace p215 := eq_true p215
          replace q215 := eq_true q215
          by_cases c5 : t1 = true
          · subst c5
            have H1 : some (x8_1, wrap64 (a0 - rd L x8_1)) = some (r1, r2) := by simpa using H
            clear H
            obtain ⟨rfl, rfl⟩ := Prod.mk.inj (Option.some.inj H1)
            clear H1
            go_wp2_with (first | ((with_reducible refine gate_callee (f := 14) rfl ?_); refine goesL_ (some 17) rfl rfl Tryd.func14 (by kernel_rfl) rfl #[.int .i64 a0, .int .i64 (rd L x8_1), .int .i64 (wrap64 (rd L x8_1 + 9))] rfl (by (try simp only [List.map_toArray, List.map_cons, List.map_nil]); first | done | rfl | (simp only [List.length_drop, List.length_take]; rfl)) ?_; (with_reducible refine (impl_in.calls a0 (rd L x8_1) (wrap64 (rd L x8_1 + 9)) true _ A1.out).mono ?_); rintro e w' ⟨rfl, ⟨nd, rfl⟩⟩; refine ⟨_, rfl, ?_⟩))
            go_ret2
            exact ⟨by first | rfl | (simp; done) | (simp [*]; done), by repeat (first | exact Drawn0.refl _ | apply Drawn0.step)⟩
          · replace c5 := Bool.eq_false_iff.mpr c5
            subst c5
            have H1 : impl_systemOf.l0 k1 a0 L (wrap64 (x8_1 + 1)) = some (r1, r2) := by simpa using H
            clear H
            have H' := Aside0.mk H1
            clear H1
            go_wp2_with (first | ((with_reducible refine gate_callee (f := 14) rfl ?_); refine goesL_ (some 17) rfl rfl Tryd.func14 (by kernel_rfl) rfl #[.int .i64 a0, .int .i64 (rd L x8_1), .int .i64 (wrap64 (rd L x8_1 + 9))] rfl (by (try simp only [List.map_toArray, List.map_cons, List.map_nil]); first | done | rfl | (simp only [List.length_drop, List.length_take]; rfl)) ?_; (with_reducible refine (impl_in.calls a0 (rd L x8_1) (wrap64 (rd L x8_1 + 9)) false _ A1.out).mono ?_); rintro e w' ⟨rfl, ⟨nd, rfl⟩⟩; refine ⟨_, rfl, ?_⟩))
            go_roundg k1
            case measure => have := HK1.out; omega
            case rel => exact ⟨(wrap64 (x8_1 + 1)), (by first | rfl | (simp; done) | (simp [*]; done)), H', ⟨by have := HK1.out; omega⟩, by repeat (first | exact Drawn0.refl _ | apply Drawn0.step)⟩
        · rw [if_neg c4] at H
          exact absurd H (by simp)
      · rw [if_neg c3] at H
        have c3b0 : decide (x8_1 < (L.length : Int)) = false := decide_eq_false c3
        clear c3
        obtain ⟨rfl, rfl⟩ := Prod.mk.inj (Option.some.inj H)
        go_wp2
        go_ret2
        exact ⟨by first | rfl | (simp; done) | (simp [*]; done), by repeat (first | exact Drawn0.refl _ | apply Drawn0.step)⟩
theorem impl_systemOf.calls (a0 : Int) (r1 : Int) (r2 : Int) (w : World) (hG : GL w) (h : impl_systemOf.f a0 = some (r1, r2)) :
    Calls Tryd.prog 12 #[.int .i64 a0] w fun e w' => e = .returned (.tuple #[.int .i64 r1, .int .i64 r2]) ∧ Drawn0 w w' := by
  obtain ⟨A, c, hcell, hc, hr⟩ := hG
  exact impl_systemOf.walk digRows A c 8 a0 r1 r2 w hcell hr hc h


/-! ### impl_DigitOf: function 8 -/
def impl_DigitOf.f (a0 : Int) : Option (Int) := (impl_systemOf.f a0).bind fun bt123 => (some bt123.2)
set_option maxHeartbeats 8000000 in
set_option maxRecDepth 100000 in
theorem impl_DigitOf.calls (a0 : Int) (r : Int) (w : World) (hG : GL w) (h : impl_DigitOf.f a0 = some r) :
    Calls Tryd.prog 8 #[.int .i64 a0] w fun e w' => e = .returned (.int .i64 r) ∧ Drawn0 w w' := by
  have HGL := Aside0.mk hG
  clear hG
  have H : ((impl_systemOf.f a0).bind fun bt123 => (some bt123.2)) = some r := h
  clear h
  replace H := Option.bind_eq_some_iff.mp H
  obtain ⟨⟨t123, t124⟩, A20, H⟩ := H
  replace H : (some t124) = some r := H
  have A2 := Aside0.mk A20
  clear A20
  obtain rfl := Option.some.inj H
  go_enter Tryd.func8, Tryd.ntmps8
  go_wp2_with (first | ((with_reducible refine gate_callee (f := 12) rfl ?_); refine goesL_ (some 7) rfl rfl Tryd.func12 (by kernel_rfl) rfl #[.int .i64 a0] rfl (by (try simp only [List.map_toArray, List.map_cons, List.map_nil]); first | done | rfl | (simp only [List.length_drop, List.length_take]; rfl)) ?_; (with_reducible refine (impl_systemOf.calls a0 t123 t124 _ ?side1 A2.out).mono ?_); (case side1 => first | exact HGL.out | exact GL_below HGL.out (Below.refl _ _) | exact GL_drewN HGL.out _ | exact GL_drew HGL.out); rintro e w' ⟨rfl, ⟨nd, rfl⟩⟩; refine ⟨_, rfl, ?_⟩))
  go_ret
  exact ⟨by first | rfl | (simp; done) | (simp [*]; done), by repeat (first | exact Drawn0.refl _ | apply Drawn0.step)⟩

/-! ### laws_FnExactDigitOf: function 4 -/
def laws_FnExactDigitOf.f (k : Nat) (a0 : Int) : Option (Bool) := (spec_DigitOf.f k a0).bind fun t125 => ((impl_DigitOf.f a0).bind fun t126 => (if t126 = t125 then (some true) else (some false)))
theorem laws_FnExactDigitOf.mono : ∀ a0 k, LeO (laws_FnExactDigitOf.f k a0) (laws_FnExactDigitOf.f (k + 1) a0) := by
  intro a0 k
  unfold laws_FnExactDigitOf.f
  repeat' first
      | (with_reducible exact spec_DigitOf.mono _ _)
      | (with_reducible exact LeO.refl _)
      | (with_reducible exact LeO.none _)
      | (with_reducible refine LeO.ite ?_ ?_)
      | (with_reducible refine LeO.bind ?_ (fun _ => ?_))
      | exact spec_DigitOf.mono _ _
      | exact LeO.none _
      | refine LeO.ite ?_ ?_
      | refine LeO.bind ?_ (fun _ => ?_)
set_option maxHeartbeats 8000000 in
set_option maxRecDepth 100000 in
theorem laws_FnExactDigitOf.calls (k : Nat) (a0 : Int) (r : Bool) (w : World) (hG : GL w) (h : laws_FnExactDigitOf.f k a0 = some r) :
    Calls Tryd.prog 4 #[.int .i64 a0] w fun e w' => e = .returned (.bool r) ∧ Below w.heap.size w w' := by
  have HGL := Aside0.mk hG
  clear hG
  have HB := Aside0.mk (Below.refl w.heap.size w)
  have H : ((spec_DigitOf.f k a0).bind fun t125 => ((impl_DigitOf.f a0).bind fun t126 => (if t126 = t125 then (some true) else (some false)))) = some r := h
  clear h
  replace H := Option.bind_eq_some_iff.mp H
  obtain ⟨t125, A20, H⟩ := H
  replace H : ((impl_DigitOf.f a0).bind fun t126 => (if t126 = t125 then (some true) else (some false))) = some r := H
  have A2 := Aside0.mk A20
  clear A20
  replace H := Option.bind_eq_some_iff.mp H
  obtain ⟨t126, A30, H⟩ := H
  replace H : (if t126 = t125 then (some true) else (some false)) = some r := H
  have A3 := Aside0.mk A30
  clear A30
  by_cases c4 : t126 = t125
  · rw [if_pos c4] at H
    have c4b0 : (t126 == t125) = true := beq_iff_eq.mpr c4
    have c4b1 : (t126 != t125) = false := bne_eq_false_iff_eq.mpr c4
    clear c4
    obtain rfl := Option.some.inj H
    go_enter Tryd.func4, Tryd.ntmps4
    go_wp2_with (first | ((with_reducible refine gate_callee (f := 7) rfl ?_); refine goesL_ (some 6) rfl rfl Tryd.func7 (by kernel_rfl) rfl #[.int .i64 a0] rfl (by (try simp only [List.map_toArray, List.map_cons, List.map_nil]); first | done | rfl | (simp only [List.length_drop, List.length_take]; rfl)) ?_; (with_reducible refine (spec_DigitOf.calls k a0 t125 _ A2.out).mono ?_); rintro e w5 ⟨rfl, hb⟩; refine ⟨_, rfl, ?_⟩; have n0_ := Aside0.mk (below_step (by repeat (first | (with_reducible first | exact HB.out | apply below_alloc | apply pw_below_drewN | apply below_drew1) | exact HB.out)) hb); clear HB; have HB := n0_; clear n0_; (try clear hb); (try clear hb2); (try clear hk); (try clear hi)) | ((with_reducible refine gate_callee (f := 8) rfl ?_); refine goesL_ (some 8) rfl rfl Tryd.func8 (by kernel_rfl) rfl #[.int .i64 a0] rfl (by (try simp only [List.map_toArray, List.map_cons, List.map_nil]); first | done | rfl | (simp only [List.length_drop, List.length_take]; rfl)) ?_; (with_reducible refine (impl_DigitOf.calls a0 t126 _ ?side1 A3.out).mono ?_); (case side1 => first | exact HGL.out | exact GL_below HGL.out (by repeat (first | (with_reducible first | exact HB.out | apply below_alloc | apply pw_below_drewN | apply below_drew1) | exact HB.out))); rintro e w' ⟨rfl, ⟨nd, rfl⟩⟩; refine ⟨_, rfl, ?_⟩))
    go_ret
    exact ⟨by first | rfl | (simp [errW_none, errW_some] <;> rfl) | (simp [*, errW_none, errW_some] <;> rfl), by repeat (first | (with_reducible first | exact HB.out | apply below_alloc | apply pw_below_drewN | apply below_drew1) | exact HB.out)⟩
  · rw [if_neg c4] at H
    have c4b0 : (t126 == t125) = false := beq_eq_false_iff_ne.mpr c4
    have c4b1 : (t126 != t125) = true := bne_iff_ne.mpr c4
    obtain rfl := Option.some.inj H
    go_enter Tryd.func4, Tryd.ntmps4
    go_wp2_with (first | ((with_reducible refine gate_callee (f := 7) rfl ?_); refine goesL_ (some 6) rfl rfl Tryd.func7 (by kernel_rfl) rfl #[.int .i64 a0] rfl (by (try simp only [List.map_toArray, List.map_cons, List.map_nil]); first | done | rfl | (simp only [List.length_drop, List.length_take]; rfl)) ?_; (with_reducible refine (spec_DigitOf.calls k a0 t125 _ A2.out).mono ?_); rintro e w6 ⟨rfl, hb⟩; refine ⟨_, rfl, ?_⟩; have n0_ := Aside0.mk (below_step (by repeat (first | (with_reducible first | exact HB.out | apply below_alloc | apply pw_below_drewN | apply below_drew1) | exact HB.out)) hb); clear HB; have HB := n0_; clear n0_; (try clear hb); (try clear hb2); (try clear hk); (try clear hi)) | ((with_reducible refine gate_callee (f := 8) rfl ?_); refine goesL_ (some 8) rfl rfl Tryd.func8 (by kernel_rfl) rfl #[.int .i64 a0] rfl (by (try simp only [List.map_toArray, List.map_cons, List.map_nil]); first | done | rfl | (simp only [List.length_drop, List.length_take]; rfl)) ?_; (with_reducible refine (impl_DigitOf.calls a0 t126 _ ?side1 A3.out).mono ?_); (case side1 => first | exact HGL.out | exact GL_below HGL.out (by repeat (first | (with_reducible first | exact HB.out | apply below_alloc | apply pw_below_drewN | apply below_drew1) | exact HB.out))); rintro e w' ⟨rfl, ⟨nd, rfl⟩⟩; refine ⟨_, rfl, ?_⟩))
    go_ret
    exact ⟨by first | rfl | (simp [errW_none, errW_some] <;> rfl) | (simp [*, errW_none, errW_some] <;> rfl), by repeat (first | (with_reducible first | exact HB.out | apply below_alloc | apply pw_below_drewN | apply below_drew1) | exact HB.out)⟩
/-- THE ONE PURE STATEMENT of laws_FnExactDigitOf. -/
def laws_FnExactDigitOf.Pure : Prop := ∀ (a0 : Int), ((Lit.int .i64 a0).wf = true) → ∃ k, laws_FnExactDigitOf.f k a0 = some true

end Go.Proofs.YtpibhoaegbeonaaDoor.PFnExactDigitOf

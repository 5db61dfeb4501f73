-- Written by a program of this session (wip/tools/myprint.py) that runs the kit's print with hooks of its own. Lean checks it.
import Derived.Test.YtmlhnpggjkoinaaDoorPFnExactWordsx0
import Derived.Test.YtmlhnpggjkoinaaDoorSlimStep
import Derived.Test.YtmlhnpggjkoinaaDoorSlimMore
import Derived.Test.YtmlhnpggjkoinaaDoorPFnExactWordsx3
import Derived.Test.YtmlhnpggjkoinaaDoorPFnExactWordsx8
import Derived.Test.YtmlhnpggjkoinaaDoorPFnExactWordsx11
namespace Go.Proofs.YtmlhnpggjkoinaaDoor.PFnExactWords
open Go.RowKit Go.Proofs.YtmlhnpggjkoinaaDoorW.PrintWords Go.Proofs.YtmlhnpggjkoinaaDoorW.PrintLast Go.Proofs.YtmlhnpggjkoinaaDoorW.PrintMore
attribute [local go_sem] max2_int min2_int max_two min_two max_three min_three max_four min_four   -- for this text's walks alone
set_option linter.unusedVariables false
set_option linter.unusedSimpArgs false

/-! ### spec_WordCuts: function 28 -/
def spec_WordCuts.f (k : Nat) (a0 : ByteArray) (l1 : List (S54)) : Option (List Int) := if (a0.size : Int) > 65536 then (some (([] : List Int))) else (if (l1.length : Int) > 1000 then (some (([] : List Int))) else ((spec_l07Words.f k a0 l1).bind fun t310 => (some t310)))
set_option maxHeartbeats 8000000 in
set_option maxRecDepth 100000 in
theorem spec_WordCuts.calls (k : Nat) (a0 : ByteArray) (A1 : Option Addr) (c1 : Nat) (l1 : List (S54)) (r : List Int) (w : World) (hr1 : Kd.C k54 w A1 l1.length l1) (hc1 : l1.length ≤ c1) (h : spec_WordCuts.f k a0 l1 = some r) :
  Calls Tryd.prog 28 #[.string a0, .slice A1 l1.length c1] w fun e w' => ∃ v0_ : Value, e = .returned (v0_) ∧ Kd.R (Kd.int .i64) 2 w' w.heap.size (fun _ => True) v0_ r ∧ Below w.heap.size w w' := by
 have HR1 := am hr1
 have HC1 := am hc1
 clear hr1 hc1
 have HB := am (Below.refl w.heap.size w)
 have H : (if (a0.size : Int) > 65536 then (some (([] : List Int))) else (if (l1.length : Int) > 1000 then (some (([] : List Int))) else ((spec_l07Words.f k a0 l1).bind fun t310 => (some t310)))) = some r := h
 clear h
 by_cases c3 : (a0.size : Int) > 65536
 ·rw [if_pos c3] at H
  have c3b0 : decide (65536 < (a0.size : Int)) = true := decide_eq_true c3
  have c3b1 : decide (65536 < a0.size) = true := decide_eq_true (by omega)
  clear c3
  obtain ⟨y304, hy304⟩ : ∃ y_ : List Int, y_ = (([] : List Int)) := ⟨_, rfl⟩
  replace H : (some y304) = some r := rY hy304
  have Ny304 := am hy304
  clear hy304
  obtain rfl := Option.some.inj H
  go_enter Tryd.func28, Tryd.ntmps28
  go_wp2_with (first | ((with_reducible refine gate_dst (N := 13) rfl ?_); (try (refine gate_guard (by rfl) ?_; dsimp only)); refine Kd.R_lit (Kd.int .i64) _ 2 ?hg (N := 13) ?hd (xs := ([] : List Int)) (inner := []) (ok := fun _ => True) (okp := fun _ => True) ?hr ?hp (fun _ hk => hk) trivial (Below.refl _ _) (Nat.le_refl _) (by simp) ?_; (case hd => rfl); (case hg => rfl); (case hr => first | (go_simp; done) | (go_simp; rfl)); (case hp => exact (Reps.none _ _)); intro v305 w4 ho5 hb hg_ hnew_; clear hg_ hnew_; (first | rw [← Ny304.out] at ho5 | (simp only [Int.reduceToNat] at ho5; rw [← Ny304.out] at ho5)); have HO306 := am (Kd.R_lower ho5 (below_size bB)); replace HB := am (below_step bB hb); clear hb ho5))
  go_ret
  exact ⟨_, rv, kR HO306.out, bB⟩
 rw [if_neg c3] at H
 have c3b0 : decide (65536 < (a0.size : Int)) = false := decide_eq_false c3
 have c3b1 : decide (65536 < a0.size) = false := decide_eq_false (by omega)
 clear c3
 by_cases c6 : (l1.length : Int) > 1000
 rotate_left
 ·rw [if_neg c6] at H
  have c6b0 : decide (1000 < (l1.length : Int)) = false := decide_eq_false c6
  have c6b1 : decide (1000 < l1.length) = false := decide_eq_false (by omega)
  clear c6
  obtain ⟨t310, A9, H⟩ := bb H
  obtain rfl := Option.some.inj H
  go_enter Tryd.func28, Tryd.ntmps28
  go_wp2_with (first | ((with_reducible refine gate_callee (f := 54) rfl ?_); refine gl 16 Tryd.func54 #[.string a0, .slice A1 l1.length c1] ?_; (with_reducible refine (spec_l07Words.calls k a0 _ _ l1 t310 _ ?side1 ?side2 A9.out).mono ?_); (case side1 => exact cC HR1.out); (case side2 => exact HC1.out); rintro e w10 ⟨v311, rfl, ho0, hb⟩; refine ⟨_, rfl, ?_⟩; have HO312 := am (Kd.R_lower ho0 (below_size bB)); replace HB := am (below_step bB hb); (try clear hb); (try clear ho0)))
  go_ret
  exact ⟨_, rv, kR HO312.out, bB⟩
 rw [if_pos c6] at H
 have c6b0 : decide (1000 < (l1.length : Int)) = true := decide_eq_true c6
 have c6b1 : decide (1000 < l1.length) = true := decide_eq_true (by omega)
 clear c6
 obtain ⟨y307, hy307⟩ : ∃ y_ : List Int, y_ = (([] : List Int)) := ⟨_, rfl⟩
 replace H : (some y307) = some r := rY hy307
 have Ny307 := am hy307
 clear hy307
 obtain rfl := Option.some.inj H
 go_enter Tryd.func28, Tryd.ntmps28
 go_wp2_with (first | ((with_reducible refine gate_dst (N := 13) rfl ?_); (try (refine gate_guard (by rfl) ?_; dsimp only)); refine Kd.R_lit (Kd.int .i64) _ 2 ?hg (N := 13) ?hd (xs := ([] : List Int)) (inner := []) (ok := fun _ => True) (okp := fun _ => True) ?hr ?hp (fun _ hk => hk) trivial (Below.refl _ _) (Nat.le_refl _) (by simp) ?_; (case hd => rfl); (case hg => rfl); (case hr => first | (go_simp; done) | (go_simp; rfl)); (case hp => exact (Reps.none _ _)); intro v308 w7 ho8 hb hg_ hnew_; clear hg_ hnew_; (first | rw [← Ny307.out] at ho8 | (simp only [Int.reduceToNat] at ho8; rw [← Ny307.out] at ho8)); have HO309 := am (Kd.R_lower ho8 (below_size bB)); replace HB := am (below_step bB hb); clear hb ho8))
 go_ret
 exact ⟨_, rv, kR HO309.out, bB⟩
/-! ### spec_l07Pieces: function 51 -/
def spec_l07Pieces.l0 : Nat → ByteArray → List Int → List ByteArray → Int → Option (List ByteArray)
 | 0, _, _, _, _ => none
 | k + 1, x0, x1, x5, x6 => if (wrap64 (x6 + 1)) < (x1.length : Int) then (if 0 ≤ x6 then (if x6 < (x1.length : Int) then (if 0 ≤ (wrap64 (x6 + 1)) then (if 0 ≤ (rd x1 x6) then (if (rd x1 x6) ≤ (rd x1 (wrap64 (x6 + 1))) then (if (rd x1 (wrap64 (x6 + 1))) ≤ (x0.size : Int) then (if x5.length < 8796093022208 then (spec_l07Pieces.l0 k x0 x1 (x5 ++ [x0.extract ((rd x1 x6) : Int).toNat ((rd x1 (wrap64 (x6 + 1))) : Int).toNat]) (wrap64 (x6 + 1))) else (none)) else (none)) else (none)) else (none)) else (none)) else (none)) else (none)) else (some x5)
def spec_l07Pieces.f (k : Nat) (a0 : ByteArray) (l1 : List Int) : Option (List ByteArray) := spec_l07Pieces.l0 k a0 l1 (([] : List ByteArray)) 0
def spec_l07Pieces.T5 : Bool × List (List Nat × List Nat) := (true, [([], []), ([], []), ([], []), ([], []), ([2, 3], [2, 3]), ([4], [4]), ([], []), ([], []), ([7], [7]), ([6, 8], [6, 8]), ([9], [9]), ([1, 5, 10], [1, 5, 10]), ([11], [11]), ([0, 12], [0, 12]), ([13, 13, 0, 1, 2, 3, 4, 5, 6, 7, 8, 9, 10, 11, 12, 13], [0, 13])])
def spec_l07Pieces.B5 : List Nat := [0, 0, 0, 0, 12, 28, 0, 0, 128, 448, 960, 2046, 4094, 8191, 16383]
theorem spec_l07Pieces.tab5 : rtab .any (opsOf Tryd.f51 5) = spec_l07Pieces.T5 := by kernel_rfl
theorem spec_l07Pieces.bits5 : waitsOk spec_l07Pieces.T5.2 spec_l07Pieces.B5 = true := by kernel_rfl
set_option maxHeartbeats 8000000 in
set_option maxRecDepth 100000 in
theorem spec_l07Pieces.calls (k : Nat) (a0 : ByteArray) (A1 : Option Addr) (c1 : Nat) (l1 : List Int) (r : List ByteArray) (w : World) (hr1 : Kd.C (Kd.int .i64) w A1 l1.length l1) (hc1 : l1.length ≤ c1) (h : spec_l07Pieces.f k a0 l1 = some r) :
  Calls Tryd.prog 51 #[.string a0, .slice A1 l1.length c1] w fun e w' => ∃ v0_ : Value, e = .returned (v0_) ∧ Kd.R Kd.string 9 w' w.heap.size (fun _ => True) v0_ r ∧ Below w.heap.size w w' := by
 have HR1 := am hr1
 have HC1 := am hc1
 clear hr1 hc1
 have HB := am (Below.refl w.heap.size w)
 have H : (spec_l07Pieces.l0 k a0 l1 (([] : List ByteArray)) 0) = some r := h
 clear h
 obtain ⟨y313, hy313⟩ : ∃ y_ : List ByteArray, y_ = (([] : List ByteArray)) := ⟨_, rfl⟩
 replace H : (spec_l07Pieces.l0 k a0 l1 y313 0) = some r := rY hy313
 have Ny313 := am hy313
 clear hy313
 have H' := am H
 clear H
 go_enter Tryd.func51, Tryd.ntmps51
 go_wp2_with (first | ((with_reducible refine gate_dst (N := 7) rfl ?_); refine Kd.R_lit Kd.string _ 9 ?hg (N := 7) ?hd (xs := ([] : List ByteArray)) (inner := []) (ok := fun _ => True) (okp := fun _ => True) ?hr ?hp (fun _ hk => hk) trivial (Below.refl _ _) (Nat.le_refl _) (by simp) ?_; (case hd => rfl); (case hg => rfl); (case hr => first | (go_simp; done) | (go_simp; rfl)); (case hp => exact (Reps.none _ _)); intro v314 w3 ho4 hb hg_ hnew_; clear hg_ hnew_; (first | rw [← Ny313.out] at ho4 | (simp only [Int.reduceToNat] at ho4; rw [← Ny313.out] at ho4)); have HO315 := am (Kd.R_lower ho4 (below_size bB)); replace HB := am (below_step bB hb); clear hb ho4))
 go_loopg [5, 6] k (fun kq v5 v6 w' => ∃ (x5_1 : List ByteArray) (x6_1 : Int), v6 = .int .i64 x6_1 ∧ Aside0 (spec_l07Pieces.l0 kq a0 l1 x5_1 x6_1 = some r) ∧ Aside0 (kq ≤ k) ∧ Aside0 (Kd.R Kd.string 9 w' w.heap.size (fun _ => True) v5 x5_1) ∧ Aside0 (Below w.heap.size w w'))
 case atStart => exact ⟨(y313), (0), sr, H', ⟨Nat.le_refl _⟩, ⟨kR HO315.out⟩, ⟨bB⟩⟩
 case round =>
  clear H'
  try clear c1
  obtain ⟨x5_1, x6_1, rfl, HA, HK1, HO_5, HB⟩ := hrel
  cases gk with
  | zero => exact absurd HA.out (by simp [spec_l07Pieces.l0])
  | succ k1 =>
   have H := HA.out
   clear HA
   simp only [spec_l07Pieces.l0] at H
   by_cases c5 : (wrap64 (x6_1 + 1)) < (l1.length : Int)
   rotate_left
   ·rw [if_neg c5] at H
    have c5b0 := decide_eq_false c5
    clear c5
    obtain rfl := Option.some.inj H
    go_wp2
    go_ret
    exact ⟨_, rv, kR HO_5.out, bB⟩
   rw [if_pos c5] at H
   have c5b0 := decide_eq_true c5
   clear c5
   replace H := iteN H
   obtain ⟨c6, H⟩ := H
   have c6b0 := decide_eq_true c6
   clear c6
   replace H := iteN H
   obtain ⟨c7, H⟩ := H
   have c7b0 := decide_eq_true c7
   clear c7
   obtain ⟨ji8, hji8⟩ : ∃ j_ : Int, (wrap64 (x6_1 + 1)) = j_ := ⟨_, rfl⟩
   replace H : (if 0 ≤ (ji8) then (if 0 ≤ (rd l1 x6_1) then (if (rd l1 x6_1) ≤ (rd l1 (ji8)) then (if (rd l1 (ji8)) ≤ (a0.size : Int) then (if x5_1.length < 8796093022208 then (spec_l07Pieces.l0 k1 a0 l1 (x5_1 ++ [a0.extract ((rd l1 x6_1) : Int).toNat ((rd l1 (ji8)) : Int).toNat]) ji8) else (none)) else (none)) else (none)) else (none)) else (none)) = some r := by first | (rw [hji8] at H; exact H) | (simp only [hji8] at H ⊢; exact H)
   (try rw [hji8] at c5b0)
   have hji8w : (IntKind.i64.wrap (x6_1 + 1)) = ji8 := (i64_w _).trans hji8
   replace H := iteN H
   obtain ⟨c9, H⟩ := H
   have c9b0 := decide_eq_true c9
   clear c9
   replace H := iteN H
   obtain ⟨c10, H⟩ := H
   have c10b0 := eq_true c10
   have c10b1 := decide_eq_true c10
   clear c10
   replace H := iteN H
   obtain ⟨c11, H⟩ := H
   have c11b0 := eq_true c11
   have c11b1 := decide_eq_true c11
   clear c11
   replace H := iteN H
   obtain ⟨c12, H⟩ := H
   have c12b0 := eq_true c12
   have c12b1 := decide_eq_true c12
   clear c12
   replace H := iteN H
   obtain ⟨c13, H⟩ := H
   have LMc13 := am c13
   clear c13
   obtain ⟨y318, hy318⟩ : ∃ y_ : List ByteArray, y_ = (x5_1 ++ [a0.extract ((rd l1 x6_1) : Int).toNat ((rd l1 (ji8)) : Int).toNat]) := ⟨_, rfl⟩
   replace H : (spec_l07Pieces.l0 k1 a0 l1 y318 ji8) = some r := rY hy318
   have Ny318 := am hy318
   clear hy318
   have H' := am H
   clear H
   try go_wp2
   replace HO_5 := am (Kd.R_drew HO_5.out)
   replace HB := am (below_drew1 HB.out)
   have p316 : 0 ≤ (x6_1 : Int) := od
   have q316 : x6_1 < (l1.length : Int) := od
   obtain ⟨ad316, e316, hx316_0⟩ := Kd.at_int HR1.out x6_1 p316 q316
   have hw316_0 := hx316_0
   cases e316
   replace hx316_0 := cl HB hx316_0
   replace p316 := eq_true p316; replace q316 := eq_true q316
   have p317 : 0 ≤ ((ji8) : Int) := od
   have q317 : (ji8) < (l1.length : Int) := od
   obtain ⟨ad317, e317, hx317_0⟩ := Kd.at_int HR1.out (ji8) p317 q317
   have hw317_0 := hx317_0
   obtain rfl : ad316 = ad317 := (by injection e317)
   replace hx317_0 := cl HB hx317_0
   replace p317 := eq_true p317; replace q317 := eq_true q317
   refine start_ (n := 15) (S := fun w' => w'.cell? (ad316.add (x6_1).toNat) = some (.int .i64 (rd l1 x6_1)) ∧ w'.cell? (ad316.add ((ji8)).toNat) = some (.int .i64 (rd l1 (ji8)))) (ds := []) #[false, false, false, false, false, false, false, false, false, false, false, false, false, false, false] (by kernel_rfl) rfl rfl ⟨((HB.out.cell (World.block_lt_of_cell? w _ hw316_0)).trans hw316_0), ((HB.out.cell (World.block_lt_of_cell? w _ hw317_0)).trans hw317_0)⟩ (fun hHeld => ?_); refine with_tabW spec_l07Pieces.tab5 spec_l07Pieces.bits5 (fun HT_ HW_ => ?_)
   generalize wr.drew = w14 at HO_5 HB hx316_0 hx317_0 hHeld ⊢
   refine pq 0 15 HT_.out ?_
   refine pq 1 16 HT_.out ?_
   refine pq 2 17 HT_.out ?_
   refine pq 3 18 HT_.out ?_
   refine pq 4 19 HT_.out ?_
   refine pq 6 21 HT_.out ?_
   refine pq 7 22 HT_.out ?_
   refine pq 8 23 HT_.out ?_
   refine pq 9 24 HT_.out ?_
   refine take_ (i := 5) (N := some 20) (v := ?_) (a' := ?_) #[true, true, true, true, true, true, true, true, true, true, false, false, false, false, false] rfl rfl (take_ofW HT_.out HW_.out (by kernel_rfl)) (fun _ _ _ h => h) (Or.inl ⟨by rfl, ?_⟩) hHeld ?_ ?_
   rotate_left
   ·rintro w' ⟨s0, s1⟩
    go_simp
    with_reducible rfl
   rotate_left
   ·simp only [Act.put, List.setIfInBounds_toArray, List.set_cons_zero, List.set_cons_succ, i64_w, i32_w]
    rfl
   refine take_ (i := 10) (N := some 25) (v := ?_) (a' := ?_) #[true, true, true, true, true, true, true, true, true, true, true, false, false, false, false] rfl rfl (take_ofW HT_.out HW_.out (by kernel_rfl)) (fun _ _ _ h => h) (Or.inl ⟨by rfl, ?_⟩) hHeld ?_ ?_
   rotate_left
   ·rintro w' ⟨s0, s1⟩
    go_simp
    with_reducible rfl
   rotate_left
   ·simp only [Act.put, List.setIfInBounds_toArray, List.set_cons_zero, List.set_cons_succ, i64_w, i32_w]
    rfl
   refine pq 11 26 HT_.out ?_
   refine one_ (i := 12) (N := some 27) #[true, true, true, true, true, true, true, true, true, true, true, true, true, false, false] rfl rfl (one_of HT_.out (by kernel_rfl)) (by decide) (fun K hK => ?_)
   refine value_ (w1 := ?_) (v := ?_) (by rfl) rfl ?_ ?_
   rotate_left 2
   ·go_simp
    constructor
    ·rfl
    ·rfl
   refine hK.out _ _ ⟨(World.cell?_alloc_lt _ _ _ (World.block_lt_of_cell? _ _ (((HB.out.cell (World.block_lt_of_cell? w _ hw316_0)).trans hw316_0)))).trans (((HB.out.cell (World.block_lt_of_cell? w _ hw316_0)).trans hw316_0)), (World.cell?_alloc_lt _ _ _ (World.block_lt_of_cell? _ _ (((HB.out.cell (World.block_lt_of_cell? w _ hw317_0)).trans hw317_0)))).trans (((HB.out.cell (World.block_lt_of_cell? w _ hw317_0)).trans hw317_0))⟩ (fun hHeld => ?_)
   clear hK K
   refine norm_ (a' := ?_) ?_ ?_
   rotate_left
   ·show Act.put _ (some 27) _ = _
    simp only [Act.put, List.setIfInBounds_toArray, List.set_cons_zero, List.set_cons_succ, i64_w, i32_w]
    rfl
   refine one_ (i := 13) (N := some 28) #[true, true, true, true, true, true, true, true, true, true, true, true, true, true, false] rfl rfl (one_of HT_.out (by kernel_rfl)) (by decide) (fun K hK => ?_)
   refine Kd.R_append_step Kd.string (w0 := w) w.heap.size (by rfl) (.tmp 15) (.tmp 27) 27 9 (.string ⟨#[]⟩) 16 rfl Tryd.underlying27 info9 rfl (by decide) (by omega) u5 x5_1 (a0.extract ((rd l1 x6_1) : Int).toNat ((rd l1 (ji8)) : Int).toNat) [.string (a0.extract ((rd l1 x6_1) : Int).toNat ((rd l1 (ji8)) : Int).toNat)] (fun _ => True) (fun _ => False) rfl rfl ?aP (fun _ hk => hk.elim) ?aF ?aO ?aB ?aS ?aL ?_
   (case aP => exact rfl)
   (case aB => exact bB)
   (case aF => exact (fun _ _ => trivial))
   (case aO => exact (kR HO_5.out))
   (case aS => exact (below_size bB))
   (case aL => have := LMc13.out; omega)
   intro v319 w15 ho hb hg hat
   rw [← Ny318.out] at ho
   replace HB := am (hb)
   have HO320 := am (ho)
   clear HO_5
   clear ho hb hg hat
   refine hK.out _ _ ⟨((HB.out.cell (World.block_lt_of_cell? w _ hw316_0)).trans hw316_0), ((HB.out.cell (World.block_lt_of_cell? w _ hw317_0)).trans hw317_0)⟩ (fun hHeld => ?_)
   clear hK K
   refine norm_ (a' := ?_) ?_ ?_
   rotate_left
   ·show Act.put _ (some 28) _ = _
    simp only [Act.put, List.setIfInBounds_toArray, List.set_cons_zero, List.set_cons_succ, i64_w, i32_w]
    rfl
   refine pq 14 5 HT_.out ?_
   refine done_ (done_of HT_.out (by kernel_rfl)) ?_
   try go_wp2
   go_roundg k1
   case measure => have := HK1.out; omega
   case rel => exact ⟨(y318), (ji8), (by first | rfl | (simp; done) | (simp only [← hji8] <;> (first | rfl | simp)) | (simp [*]; done)), H', ⟨kl⟩, ⟨kR HO320.out⟩, ⟨bB⟩⟩
/-! ### spec_l01Points: function 61 -/
def spec_l01Points.l0 : Nat → ByteArray → List Int → Int → Option (List Int)
 | 0, _, _, _ => none
 | k + 1, x0, x3, x4 => if x4 < (x0.size : Int) then ((spec_l01Next.f k x0 x4).bind fun bt324 => (if x3.length < 17592186044416 then (spec_l01Points.l0 k x0 (x3 ++ [bt324.1]) (wrap64 (x4 + bt324.2.1))) else (none))) else (some x3)
def spec_l01Points.f (k : Nat) (a0 : ByteArray) : Option (List Int) := spec_l01Points.l0 k a0 (([] : List Int)) 0
set_option maxHeartbeats 8000000 in
set_option maxRecDepth 100000 in
theorem spec_l01Points.calls (k : Nat) (a0 : ByteArray) (r : List Int) (w : World) (h : spec_l01Points.f k a0 = some r) :
  Calls Tryd.prog 61 #[.string a0] w fun e w' => ∃ v0_ : Value, e = .returned (v0_) ∧ Kd.R (Kd.int .i64) 2 w' w.heap.size (fun _ => True) v0_ r ∧ Below w.heap.size w w' := by
 have HB := am (Below.refl w.heap.size w)
 have H : (spec_l01Points.l0 k a0 (([] : List Int)) 0) = some r := h
 clear h
 obtain ⟨y321, hy321⟩ : ∃ y_ : List Int, y_ = (([] : List Int)) := ⟨_, rfl⟩
 replace H : (spec_l01Points.l0 k a0 y321 0) = some r := rY hy321
 have Ny321 := am hy321
 clear hy321
 have H' := am H
 clear H
 go_enter Tryd.func61, Tryd.ntmps61
 go_wp2_with (first | ((with_reducible refine gate_dst (N := 8) rfl ?_); refine Kd.R_lit (Kd.int .i64) _ 2 ?hg (N := 8) ?hd (xs := ([] : List Int)) (inner := []) (ok := fun _ => True) (okp := fun _ => True) ?hr ?hp (fun _ hk => hk) trivial (Below.refl _ _) (Nat.le_refl _) (by simp) ?_; (case hd => rfl); (case hg => rfl); (case hr => first | (go_simp; done) | (go_simp; rfl)); (case hp => exact (Reps.none _ _)); intro v322 w2 ho3 hb hg_ hnew_; clear hg_ hnew_; (first | rw [← Ny321.out] at ho3 | (simp only [Int.reduceToNat] at ho3; rw [← Ny321.out] at ho3)); have HO323 := am (Kd.R_lower ho3 (below_size bB)); replace HB := am (below_step bB hb); clear hb ho3))
 go_loopg [3, 4] k (fun kq v3 v4 w' => ∃ (x3_1 : List Int) (x4_1 : Int), v4 = .int .i64 x4_1 ∧ Aside0 (spec_l01Points.l0 kq a0 x3_1 x4_1 = some r) ∧ Aside0 (kq ≤ k) ∧ Aside0 (Kd.R (Kd.int .i64) 2 w' w.heap.size (fun _ => True) v3 x3_1) ∧ Aside0 (Below w.heap.size w w'))
 case atStart => exact ⟨(y321), (0), sr, H', ⟨Nat.le_refl _⟩, ⟨kR HO323.out⟩, ⟨bB⟩⟩
 case round =>
  clear H'
  obtain ⟨x3_1, x4_1, rfl, HA, HK1, HO_3, HB⟩ := hrel
  cases gk with
  | zero => exact absurd HA.out (by simp [spec_l01Points.l0])
  | succ k1 =>
   have H := HA.out
   clear HA
   simp only [spec_l01Points.l0] at H
   by_cases c4 : x4_1 < (a0.size : Int)
   rotate_left
   ·rw [if_neg c4] at H
    have c4b0 := decide_eq_false c4
    clear c4
    obtain rfl := Option.some.inj H
    go_wp2
    go_ret
    exact ⟨_, rv, kR HO_3.out, bB⟩
   rw [if_pos c4] at H
   have c4b0 := decide_eq_true c4
   clear c4
   replace H := Option.bind_eq_some_iff.mp H
   obtain ⟨⟨t324, t325, t326⟩, A50, H⟩ := H
   replace H : (if x3_1.length < 17592186044416 then (spec_l01Points.l0 k1 a0 (x3_1 ++ [t324]) (wrap64 (x4_1 + t325))) else (none)) = some r := H
   have A5 := am A50
   clear A50
   replace H := iteN H
   obtain ⟨c6, H⟩ := H
   have LMc6 := am c6
   clear c6
   obtain ⟨y327, hy327⟩ : ∃ y_ : List Int, y_ = (x3_1 ++ [t324]) := ⟨_, rfl⟩
   replace H : (spec_l01Points.l0 k1 a0 y327 (wrap64 (x4_1 + t325))) = some r := rY hy327
   have Ny327 := am hy327
   clear hy327
   have H' := am H
   clear H
   go_wp2_with (first | ((with_reducible refine gate_callee (f := 93) rfl ?_); refine gl 16 Tryd.func93 #[.string a0, .int .i64 x4_1] ?_; (with_reducible refine (spec_l01Next.calls k1 a0 x4_1 t324 t325 t326 _ A5.out).mono ?_); rintro e w7 ⟨rfl, hb⟩; refine ⟨_, rfl, ?_⟩; replace HO_3 := am (Kd.R_below (kR HO_3.out) hb); replace HB := am (below_step bB hb); (try clear hb)) | ((with_reducible refine gate_builtin (b := .append) (xs := #[.tmp 20, .tmp 22]) rfl ?_); at_builtin; refine Kd.R_append (Kd.int .i64) (w0 := w) w.heap.size rfl (.tmp 20) (.tmp 22) 22 2 (.int .i64 0) 8 rfl Tryd.underlying22 info2 rfl (by decide) (by omega) u3 x3_1 t324 [.int .i64 t324] (fun _ => True) (fun _ => False) rfl rfl ?aP (fun _ hk => hk.elim) ?aF ?aO ?aB ?aS ?aL ?_; (case aP => exact rfl); (case aB => exact bB); (case aF => exact (fun _ _ => trivial)); (case aO => exact (kR HO_3.out)); (case aS => exact (below_size bB)); (case aL => have := LMc6.out; omega); intro v328 w8 ho hb hg hat; rw [← Ny327.out] at ho; replace HB := am (hb); have HO329 := am (ho); clear HO_3; clear ho hb hg hat))
   go_roundg k1
   case measure => have := HK1.out; omega
   case rel => exact ⟨(y327), (wrap64 (x4_1 + t325)), sr, H', ⟨kl⟩, ⟨kR HO329.out⟩, ⟨bB⟩⟩
/-! ### spec_Words: function 33 -/
mutual
def spec_Words.l0 : Nat → List ByteArray → List ByteArray → Int → Option (List ByteArray)
 | 0, _, _, _ => none
 | k + 1, x5, x6, x7 => if x7 < (x5.length : Int) then (if 0 ≤ x7 then ((spec_l01Points.f k (rdOf ByteArray.empty x5 x7)).bind fun t340 => (spec_Words.l1 k x5 x6 x7 t340 false 0)) else (none)) else (some x6)
def spec_Words.l1 : Nat → List ByteArray → List ByteArray → Int → List Int → Bool → Int → Option (List ByteArray)
 | 0, _, _, _, _, _, _ => none
 | k + 1, x5, x6, x7, x8, x9, x10 => if x10 < (x8.length : Int) then (if 0 ≤ x10 then ((spec_l07Word.f k (rd x8 x10)).bind fun t344 => (if x9 = true then (spec_Words.l1 k x5 x6 x7 x8 true (wrap64 (x10 + 1))) else (if t344 = 1 then (spec_Words.l1 k x5 x6 x7 x8 true (wrap64 (x10 + 1))) else (if t344 = 2 then (spec_Words.l1 k x5 x6 x7 x8 true (wrap64 (x10 + 1))) else (if t344 = 5 then (spec_Words.l1 k x5 x6 x7 x8 true (wrap64 (x10 + 1))) else ((spec_l01Script.f k (rd x8 x10)).bind fun t346 => (spec_Words.l1 k x5 x6 x7 x8 (t346 == 9) (wrap64 (x10 + 1))))))))) else (none)) else (if x9 = true then (if 0 ≤ x7 then (if x7 < (x5.length : Int) then (if x6.length < 8796093022208 then (spec_Words.l0 k x5 (x6 ++ [rdOf ByteArray.empty x5 x7]) (wrap64 (x7 + 1))) else (none)) else (none)) else (none)) else (spec_Words.l0 k x5 x6 (wrap64 (x7 + 1))))
end
def spec_Words.f (k : Nat) (a0 : ByteArray) (l1 : List (S54)) : Option (List ByteArray) := (spec_WordCuts.f k a0 l1).bind fun t330 => ((spec_l07Pieces.f k a0 t330).bind fun t333 => (spec_Words.l0 k t333 (([] : List ByteArray)) 0))
set_option maxHeartbeats 8000000 in
set_option maxRecDepth 100000 in
theorem spec_Words.calls (k : Nat) (a0 : ByteArray) (A1 : Option Addr) (c1 : Nat) (l1 : List (S54)) (r : List ByteArray) (w : World) (hr1 : Kd.C k54 w A1 l1.length l1) (hc1 : l1.length ≤ c1) (h : spec_Words.f k a0 l1 = some r) :
  Calls Tryd.prog 33 #[.string a0, .slice A1 l1.length c1] w fun e w' => ∃ v0_ : Value, e = .returned (v0_) ∧ Kd.R Kd.string 9 w' w.heap.size (fun _ => True) v0_ r ∧ Below w.heap.size w w' := by
 have HR1 := am hr1
 have HC1 := am hc1
 clear hr1 hc1
 have HB := am (Below.refl w.heap.size w)
 have H : ((spec_WordCuts.f k a0 l1).bind fun t330 => ((spec_l07Pieces.f k a0 t330).bind fun t333 => (spec_Words.l0 k t333 (([] : List ByteArray)) 0))) = some r := h
 clear h
 obtain ⟨t330, A3, H⟩ := bb H
 obtain ⟨t333, A4, H⟩ := bb H
 obtain ⟨y336, hy336⟩ : ∃ y_ : List ByteArray, y_ = (([] : List ByteArray)) := ⟨_, rfl⟩
 replace H : (spec_Words.l0 k t333 y336 0) = some r := rY hy336
 have Ny336 := am hy336
 clear hy336
 have H' := am H
 clear H
 go_enter Tryd.func33, Tryd.ntmps33
 go_wp2_with (first | ((with_reducible refine gate_callee (f := 28) rfl ?_); refine gl 15 Tryd.func28 #[.string a0, .slice A1 l1.length c1] ?_; (with_reducible refine (spec_WordCuts.calls k a0 _ _ l1 t330 _ ?side1 ?side2 A3.out).mono ?_); (case side1 => exact cC HR1.out); (case side2 => exact HC1.out); rintro e w5 ⟨v331, rfl, ho0, hb⟩; refine ⟨_, rfl, ?_⟩; have HO332 := am (Kd.R_lower ho0 (below_size bB)); replace HB := am (below_step bB hb); (try clear hb); (try clear ho0); obtain ⟨Ao6, co6, eo6⟩ := Kd.R_slice HO332.out; subst eo6) | ((with_reducible refine gate_callee (f := 51) rfl ?_); refine gl 16 Tryd.func51 #[.string a0, .slice Ao6 t330.length co6] ?_; (with_reducible refine (spec_l07Pieces.calls k a0 _ _ t330 t333 _ ?side1 ?side2 A4.out).mono ?_); (case side1 => repeat (first | exact (Kd.R_reads' HO332.out).2.2 | (with_reducible refine Kd.C_alloc ?_ _) | (with_reducible refine Kd.C_drewN ?_ _) | (with_reducible refine Kd.C_drew ?_))); (case side2 => exact (Kd.R_reads' HO332.out).2.1); rintro e w7 ⟨v334, rfl, ho0, hb⟩; refine ⟨_, rfl, ?_⟩; replace HO332 := am (Kd.R_below (kR HO332.out) hb); have HO335 := am (Kd.R_lower ho0 (below_size bB)); replace HB := am (below_step bB hb); (try clear hb); (try clear ho0)) | ((with_reducible refine gate_dst (N := 17) rfl ?_); refine Kd.R_lit Kd.string _ 9 ?hg (N := 17) ?hd (xs := ([] : List ByteArray)) (inner := []) (ok := fun _ => True) (okp := fun _ => True) ?hr ?hp (fun _ hk => hk) trivial (Below.refl _ _) (Nat.le_refl _) (by simp) ?_; (case hd => rfl); (case hg => rfl); (case hr => first | (go_simp; done) | (go_simp; rfl)); (case hp => exact (Reps.none _ _)); intro v337 w8 ho9 hb hg_ hnew_; clear hg_ hnew_; (first | rw [← Ny336.out] at ho9 | (simp only [Int.reduceToNat] at ho9; rw [← Ny336.out] at ho9)); replace HO332 := am (Kd.R_below (kR HO332.out) hb); have HO338 := am (Kd.R_lower (Kd.R_new' ho9 (Kd.R_lt (kR HO335.out))) (below_size bB)); replace HO335 := am (Kd.R_elder' (kR HO335.out) (Kd.R_base ho9) hb); replace HB := am (below_step bB hb); clear hb ho9))
 go_loopg [6, 7] k (fun kq v6 v7 w' => ∃ (x6_1 : List ByteArray) (x7_1 : Int), v7 = .int .i64 x7_1 ∧ Aside0 (spec_Words.l0 kq t333 x6_1 x7_1 = some r) ∧ Aside0 (kq ≤ k) ∧ Aside0 (Kd.R Kd.string 9 w' w.heap.size (fun k_ => some k_ ≠ (v6 : Value).ownBlock) v334 t333) ∧ Aside0 (Kd.R Kd.string 9 w' w.heap.size (fun k_ => some k_ ≠ (v334 : Value).ownBlock) v6 x6_1) ∧ Aside0 (Below w.heap.size w w'))
 case atStart => exact ⟨(y336), (0), sr, H', ⟨Nat.le_refl _⟩, ⟨kR (Kd.R_mono HO335.out (fun _ hk => hk.2))⟩, ⟨kR (Kd.R_mono HO338.out (fun _ hk => hk.2))⟩, ⟨bB⟩⟩
 case round =>
  clear H'
  try clear c1
  obtain ⟨x6_1, x7_1, rfl, HA, HK1, HO_5, HO_6, HB⟩ := hrel
  cases gk with
  | zero => exact absurd HA.out (by simp [spec_Words.l0])
  | succ k1 =>
   have H := HA.out
   clear HA
   simp only [spec_Words.l0] at H
   by_cases c10 : x7_1 < (t333.length : Int)
   rotate_left
   ·rw [if_neg c10] at H
    have c10b0 := decide_eq_false c10
    clear c10
    obtain rfl := Option.some.inj H
    obtain ⟨Ao41, co41, eo41⟩ := Kd.R_slice HO_5.out
    subst eo41
    go_wp2
    go_ret
    exact ⟨_, rv, by (with_reducible repeat (first | apply Kd.R_alloc | apply Kd.R_drewN | apply Kd.R_drew)); exact Kd.R_mono HO_6.out (fun _ hk => trivial), bB⟩
   rw [if_pos c10] at H
   have c10b0 := decide_eq_true c10
   clear c10
   replace H := iteN H
   obtain ⟨c11, H⟩ := H
   have c11b0 := decide_eq_true c11
   clear c11
   obtain ⟨t340, A12, H⟩ := bb H
   have H' := am H
   clear H
   obtain ⟨Ao13, co13, eo13⟩ := Kd.R_slice HO_5.out
   subst eo13
   have p339 : 0 ≤ (x7_1 : Int) := od
   have q339 : x7_1 < (t333.length : Int) := od
   obtain ⟨ad339, e339, hx339_0⟩ := Kd.at_string (Kd.R_reads' HO_5.out).2.2 x7_1 p339 q339
   cases e339
   replace p339 := eq_true p339; replace q339 := eq_true q339
   go_wp2_with (first | ((with_reducible refine gate_callee (f := 61) rfl ?_); refine gl 28 Tryd.func61 #[.string (rdOf ByteArray.empty t333 x7_1)] ?_; (with_reducible refine (spec_l01Points.calls k1 (rdOf ByteArray.empty t333 x7_1) t340 _ A12.out).mono ?_); rintro e w14 ⟨v341, rfl, ho0, hb⟩; refine ⟨_, rfl, ?_⟩; replace HO_5 := am (Kd.R_below (kR HO_5.out) hb); replace HO_6 := am (Kd.R_below (kR HO_6.out) hb); have HO342 := am (Kd.R_lower ho0 (below_size bB)); replace HB := am (below_step bB hb); (try clear hb); (try clear ho0)))
   go_loopg [9, 10] k1 (fun kq v9 v10 w' => ∃ (x9_2 : Bool) (x10_2 : Int), v9 = .bool x9_2 ∧ v10 = .int .i64 x10_2 ∧ Aside0 (spec_Words.l1 kq t333 x6_1 x7_1 t340 x9_2 x10_2 = some r) ∧ Aside0 (kq ≤ k1) ∧ Aside0 (Kd.R Kd.string 9 w' w.heap.size (fun k_ => some k_ ≠ (u6 : Value).ownBlock) (.slice (some ad339) t333.length co13) t333) ∧ Aside0 (Kd.R Kd.string 9 w' w.heap.size (fun k_ => some k_ ≠ ((.slice (some ad339) t333.length co13) : Value).ownBlock) u6 x6_1) ∧ Aside0 (Kd.R (Kd.int .i64) 2 w' w.heap.size (fun _ => True) v341 t340) ∧ Aside0 (Below w.heap.size w w'))
   case atStart => exact ⟨(false), (0), sr, sr, H', ⟨Nat.le_refl _⟩, ⟨kR HO_5.out⟩, ⟨kR HO_6.out⟩, ⟨kR HO342.out⟩, ⟨bB⟩⟩
   case round =>
    clear H'
    try clear c10b0
    try clear c11b0
    try clear hx339_0
    try clear p339
    try clear q339
    obtain ⟨x9_2, x10_2, rfl, rfl, HA, HK2, HO_5, HO_6, HO_8, HB⟩ := hrel
    cases gk with
    | zero => exact absurd HA.out (by simp [spec_Words.l1])
    | succ k2 =>
     have H := HA.out
     clear HA
     simp only [spec_Words.l1] at H
     by_cases c15 : x10_2 < (t340.length : Int)
     rotate_left
     ·rw [if_neg c15] at H
      have c15b0 := decide_eq_false c15
      clear c15
      by_cases c34 : x9_2 = true
      rotate_left
      ·replace c34 := Bool.eq_false_iff.mpr c34
       subst c34
       replace H := iF H
       have H' := am H
       clear H
       obtain ⟨Ao40, co40, eo40⟩ := Kd.R_slice HO_8.out
       subst eo40
       go_wp2
       go_roundg k2
       case measure => have := HK1.out; have := HK2.out; omega
       case rel => exact ⟨(x6_1), (wrap64 (x7_1 + 1)), sr, H', ⟨kl⟩, ⟨kR HO_5.out⟩, ⟨kR HO_6.out⟩, ⟨bB⟩⟩
      subst c34
      replace H := iT H
      replace H := iteN H
      obtain ⟨c35, H⟩ := H
      have c35b0 := decide_eq_true c35
      clear c35
      replace H := iteN H
      obtain ⟨c36, H⟩ := H
      have c36b0 := decide_eq_true c36
      clear c36
      replace H := iteN H
      obtain ⟨c37, H⟩ := H
      have LMc37 := am c37
      clear c37
      obtain ⟨y348, hy348⟩ : ∃ y_ : List ByteArray, y_ = (x6_1 ++ [rdOf ByteArray.empty t333 x7_1]) := ⟨_, rfl⟩
      replace H : (spec_Words.l0 k2 t333 y348 (wrap64 (x7_1 + 1))) = some r := rY hy348
      have Ny348 := am hy348
      clear hy348
      have H' := am H
      clear H
      obtain ⟨Ao38, co38, eo38⟩ := Kd.R_slice HO_8.out
      subst eo38
      have p347 : 0 ≤ (x7_1 : Int) := od
      have q347 : x7_1 < (t333.length : Int) := od
      obtain ⟨ad347, e347, hx347_0⟩ := Kd.at_string (Kd.R_reads' HO_5.out).2.2 x7_1 p347 q347
      obtain rfl : ad339 = ad347 := (by injection e347)
      replace p347 := eq_true p347; replace q347 := eq_true q347
      go_wp2_with (first | ((with_reducible refine gate_builtin (b := .append) (xs := #[.tmp 62, .tmp 67]) rfl ?_); at_builtin; refine Kd.R_append Kd.string (w0 := w) w.heap.size rfl (.tmp 62) (.tmp 67) 27 9 (.string ⟨#[]⟩) 16 rfl Tryd.underlying27 info9 rfl (by decide) (by omega) u6 x6_1 (rdOf ByteArray.empty t333 x7_1) [.string (rdOf ByteArray.empty t333 x7_1)] (fun k_ => some k_ ≠ (.slice (some ad339) t333.length co13 : Value).ownBlock) (fun _ => False) rfl rfl ?aP (fun _ hk => hk.elim) ?aF ?aO ?aB ?aS ?aL ?_; (case aP => exact rfl); (case aB => exact bB); (case aF => exact (fun k_ hk => Kd.fresh' (Kd.R_lt (kR HO_5.out)) k_ hk)); (case aO => exact (kR HO_6.out)); (case aS => exact (below_size bB)); (case aL => have := LMc37.out; omega); intro v349 w39 ho hb hg hat; rw [← Ny348.out] at ho; replace HO_5 := am (Kd.R_after (ok := (fun _ => True)) (kR (Kd.R_mono HO_5.out (fun _ hk => ⟨trivial, hk⟩))) hg hat); replace HO_8 := am (Kd.R_over' (kR HO_8.out) (Kd.R_typed (kR HO_6.out)) (by decide) hg); replace HB := am (hb); have HO350 := am (ho); clear HO_6; clear ho hb hg hat))
      go_roundg k2
      case measure => have := HK1.out; have := HK2.out; omega
      case rel => exact ⟨(y348), (wrap64 (x7_1 + 1)), sr, H', ⟨kl⟩, ⟨kR (Kd.R_mono HO_5.out (fun _ hk => hk.2))⟩, ⟨kR HO350.out⟩, ⟨bB⟩⟩
     rw [if_pos c15] at H
     have c15b0 := decide_eq_true c15
     clear c15
     replace H := iteN H
     obtain ⟨c16, H⟩ := H
     have c16b0 := decide_eq_true c16
     clear c16
     obtain ⟨t344, A17, H⟩ := bb H
     by_cases c18 : x9_2 = true
     ·subst c18
      replace H := iT H
      have H' := am H
      clear H
      obtain ⟨Ao19, co19, eo19⟩ := Kd.R_slice HO_8.out
      subst eo19
      have p343 : 0 ≤ (x10_2 : Int) := od
      have q343 : x10_2 < (t340.length : Int) := od
      obtain ⟨ad343, e343, hx343_0⟩ := Kd.at_int (Kd.R_reads' HO_8.out).2.2 x10_2 p343 q343
      cases e343
      replace p343 := eq_true p343; replace q343 := eq_true q343
      go_wp2_with (first | ((with_reducible refine gate_callee (f := 62) rfl ?_); refine gl 39 Tryd.func62 #[.int .i64 (rd t340 x10_2)] ?_; (with_reducible refine (spec_l07Word.calls k2 (rd t340 x10_2) t344 _ A17.out).mono ?_); rintro e w20 ⟨rfl, hb⟩; refine ⟨_, rfl, ?_⟩; replace HO_5 := am (Kd.R_below (kR HO_5.out) hb); replace HO_6 := am (Kd.R_below (kR HO_6.out) hb); replace HO_8 := am (Kd.R_below (kR HO_8.out) hb); replace HB := am (below_step bB hb); (try clear hb)))
      go_roundg k2
      case measure => have := HK1.out; have := HK2.out; omega
      case rel => exact ⟨(true), (wrap64 (x10_2 + 1)), sr, sr, H', ⟨kl⟩, ⟨kR HO_5.out⟩, ⟨kR HO_6.out⟩, ⟨kR HO_8.out⟩, ⟨bB⟩⟩
     replace c18 := Bool.eq_false_iff.mpr c18
     subst c18
     replace H := iF H
     by_cases c21 : t344 = 1
     ·rw [if_pos c21] at H
      have c21b0 : (t344 == 1) = true := beq_iff_eq.mpr c21
      have c21b1 : (t344 != 1) = false := bne_eq_false_iff_eq.mpr c21
      clear c21
      have H' := am H
      clear H
      obtain ⟨Ao22, co22, eo22⟩ := Kd.R_slice HO_8.out
      subst eo22
      have p343 : 0 ≤ (x10_2 : Int) := od
      have q343 : x10_2 < (t340.length : Int) := od
      obtain ⟨ad343, e343, hx343_0⟩ := Kd.at_int (Kd.R_reads' HO_8.out).2.2 x10_2 p343 q343
      cases e343
      replace p343 := eq_true p343; replace q343 := eq_true q343
      go_wp2_with (first | ((with_reducible refine gate_callee (f := 62) rfl ?_); refine gl 39 Tryd.func62 #[.int .i64 (rd t340 x10_2)] ?_; (with_reducible refine (spec_l07Word.calls k2 (rd t340 x10_2) t344 _ A17.out).mono ?_); rintro e w23 ⟨rfl, hb⟩; refine ⟨_, rfl, ?_⟩; replace HO_5 := am (Kd.R_below (kR HO_5.out) hb); replace HO_6 := am (Kd.R_below (kR HO_6.out) hb); replace HO_8 := am (Kd.R_below (kR HO_8.out) hb); replace HB := am (below_step bB hb); (try clear hb)))
      go_roundg k2
      case measure => have := HK1.out; have := HK2.out; omega
      case rel => exact ⟨(true), (wrap64 (x10_2 + 1)), sr, sr, H', ⟨kl⟩, ⟨kR HO_5.out⟩, ⟨kR HO_6.out⟩, ⟨kR HO_8.out⟩, ⟨bB⟩⟩
     rw [if_neg c21] at H
     have c21b0 : (t344 == 1) = false := beq_eq_false_iff_ne.mpr c21
     have c21b1 : (t344 != 1) = true := bne_iff_ne.mpr c21
     by_cases c24 : t344 = 2
     ·rw [if_pos c24] at H
      have c24b0 : (t344 == 2) = true := beq_iff_eq.mpr c24
      have c24b1 : (t344 != 2) = false := bne_eq_false_iff_eq.mpr c24
      clear c24
      have H' := am H
      clear H
      obtain ⟨Ao25, co25, eo25⟩ := Kd.R_slice HO_8.out
      subst eo25
      have p343 : 0 ≤ (x10_2 : Int) := od
      have q343 : x10_2 < (t340.length : Int) := od
      obtain ⟨ad343, e343, hx343_0⟩ := Kd.at_int (Kd.R_reads' HO_8.out).2.2 x10_2 p343 q343
      cases e343
      replace p343 := eq_true p343; replace q343 := eq_true q343
      go_wp2_with (first | ((with_reducible refine gate_callee (f := 62) rfl ?_); refine gl 39 Tryd.func62 #[.int .i64 (rd t340 x10_2)] ?_; (with_reducible refine (spec_l07Word.calls k2 (rd t340 x10_2) t344 _ A17.out).mono ?_); rintro e w26 ⟨rfl, hb⟩; refine ⟨_, rfl, ?_⟩; replace HO_5 := am (Kd.R_below (kR HO_5.out) hb); replace HO_6 := am (Kd.R_below (kR HO_6.out) hb); replace HO_8 := am (Kd.R_below (kR HO_8.out) hb); replace HB := am (below_step bB hb); (try clear hb)))
      go_roundg k2
      case measure => have := HK1.out; have := HK2.out; omega
      case rel => exact ⟨(true), (wrap64 (x10_2 + 1)), sr, sr, H', ⟨kl⟩, ⟨kR HO_5.out⟩, ⟨kR HO_6.out⟩, ⟨kR HO_8.out⟩, ⟨bB⟩⟩
     rw [if_neg c24] at H
     have c24b0 : (t344 == 2) = false := beq_eq_false_iff_ne.mpr c24
     have c24b1 : (t344 != 2) = true := bne_iff_ne.mpr c24
     by_cases c27 : t344 = 5
     ·rw [if_pos c27] at H
      have c27b0 : (t344 == 5) = true := beq_iff_eq.mpr c27
      have c27b1 : (t344 != 5) = false := bne_eq_false_iff_eq.mpr c27
      clear c27
      have H' := am H
      clear H
      obtain ⟨Ao28, co28, eo28⟩ := Kd.R_slice HO_8.out
      subst eo28
      have p343 : 0 ≤ (x10_2 : Int) := od
      have q343 : x10_2 < (t340.length : Int) := od
      obtain ⟨ad343, e343, hx343_0⟩ := Kd.at_int (Kd.R_reads' HO_8.out).2.2 x10_2 p343 q343
      cases e343
      replace p343 := eq_true p343; replace q343 := eq_true q343
      go_wp2_with (first | ((with_reducible refine gate_callee (f := 62) rfl ?_); refine gl 39 Tryd.func62 #[.int .i64 (rd t340 x10_2)] ?_; (with_reducible refine (spec_l07Word.calls k2 (rd t340 x10_2) t344 _ A17.out).mono ?_); rintro e w29 ⟨rfl, hb⟩; refine ⟨_, rfl, ?_⟩; replace HO_5 := am (Kd.R_below (kR HO_5.out) hb); replace HO_6 := am (Kd.R_below (kR HO_6.out) hb); replace HO_8 := am (Kd.R_below (kR HO_8.out) hb); replace HB := am (below_step bB hb); (try clear hb)))
      go_roundg k2
      case measure => have := HK1.out; have := HK2.out; omega
      case rel => exact ⟨(true), (wrap64 (x10_2 + 1)), sr, sr, H', ⟨kl⟩, ⟨kR HO_5.out⟩, ⟨kR HO_6.out⟩, ⟨kR HO_8.out⟩, ⟨bB⟩⟩
     rw [if_neg c27] at H
     have c27b0 : (t344 == 5) = false := beq_eq_false_iff_ne.mpr c27
     have c27b1 : (t344 != 5) = true := bne_iff_ne.mpr c27
     obtain ⟨t346, A30, H⟩ := bb H
     have H' := am H
     clear H
     obtain ⟨Ao31, co31, eo31⟩ := Kd.R_slice HO_8.out
     subst eo31
     have p343 : 0 ≤ (x10_2 : Int) := od
     have q343 : x10_2 < (t340.length : Int) := od
     obtain ⟨ad343, e343, hx343_0⟩ := Kd.at_int (Kd.R_reads' HO_8.out).2.2 x10_2 p343 q343
     cases e343
     replace p343 := eq_true p343; replace q343 := eq_true q343
     go_wp2_with (first | ((with_reducible refine gate_callee (f := 62) rfl ?_); refine gl 39 Tryd.func62 #[.int .i64 (rd t340 x10_2)] ?_; (with_reducible refine (spec_l07Word.calls k2 (rd t340 x10_2) t344 _ A17.out).mono ?_); rintro e w32 ⟨rfl, hb⟩; refine ⟨_, rfl, ?_⟩; replace HO_5 := am (Kd.R_below (kR HO_5.out) hb); replace HO_6 := am (Kd.R_below (kR HO_6.out) hb); replace HO_8 := am (Kd.R_below (kR HO_8.out) hb); replace HB := am (below_step bB hb); (try clear hb); have p345 : 0 ≤ (x10_2 : Int) := od; have q345 : x10_2 < (t340.length : Int) := od; obtain ⟨ad345, e345, hx345_0⟩ := Kd.at_int (Kd.R_reads' HO_8.out).2.2 x10_2 p345 q345; obtain rfl : ad343 = ad345 := (by injection e345); replace p345 := eq_true p345; replace q345 := eq_true q345) | (go_at_call 63; (with_reducible refine (spec_l01Script.calls k2 (rd t340 x10_2) t346 _ A30.out).mono ?_); rintro e w33 ⟨rfl, hb⟩; replace HO_5 := am (Kd.R_below (kR HO_5.out) hb); replace HO_6 := am (Kd.R_below (kR HO_6.out) hb); replace HO_8 := am (Kd.R_below (kR HO_8.out) hb); replace HB := am (below_step bB hb); (try clear hb)))
     go_roundg k2
     case measure => have := HK1.out; have := HK2.out; omega
     case rel => exact ⟨((t346 == 9)), (wrap64 (x10_2 + 1)), sr, sr, H', ⟨kl⟩, ⟨kR HO_5.out⟩, ⟨kR HO_6.out⟩, ⟨kR HO_8.out⟩, ⟨bB⟩⟩
/-! ### impl_long: function 49 -/
def impl_long.f (a0 : ByteArray) : Option (Bool) := some (decide ((a0.size : Int) > 65536))
set_option maxHeartbeats 8000000 in
set_option maxRecDepth 100000 in
theorem impl_long.calls (a0 : ByteArray) (r : Bool) (w : World) (h : impl_long.f a0 = some r) :
  Calls Tryd.prog 49 #[.string a0] w fun e w' => e = .returned (.bool r) ∧ Drawn0 w w' := by
 have H : (some (decide ((a0.size : Int) > 65536))) = some r := h
 clear h
 obtain rfl := Option.some.inj H
 go_enter Tryd.func49, Tryd.ntmps49
 go_wp2
 go_ret
 exact rdd
-- NOT PRINTED: function 117 (utf8_decodeRuneInStringSlow)
/-! ### utf8_DecodeRuneInString: function 84 (by hand) -/
def utf8_DecodeRuneInString.f (a0 : ByteArray) : Option (Int × Int) := some (((Go.Lib.decodeGo a0).1 : Int), ((Go.Lib.decodeGo a0).2 : Int))
theorem utf8_DecodeRuneInString.calls (a0 : ByteArray) (r1 : Int) (r2 : Int) (w : World) (hG : GL w) (h : utf8_DecodeRuneInString.f a0 = some (r1, r2)) :
  Calls Tryd.prog 84 #[.string a0] w fun e w' => e = .returned (.tuple #[.int .i32 r1, .int .i64 r2]) ∧ Below w.heap.size w w' := by
 obtain ⟨rfl, rfl⟩ := Prod.mk.inj (Option.some.inj h)
 exact Go.Proofs.Any.utf8_DecodeRuneInString Tryd.lays197 a0 w hG
end Go.Proofs.YtmlhnpggjkoinaaDoor.PFnExactWords

-- Written by a program of this session: what the printed functions compute.
import Derived.Test.YtnbedmihgnjdpaaDoorPFnExactCollatorFaultx0
import Derived.Test.YtnbedmihgnjdpaaDoorSlimMore
import Derived.Test.YtnbedmihgnjdpaaDoorSlimStep
import Derived.Test.YtnbedmihgnjdpaaDoorPFnExactCollatorFaultx1
import Derived.Test.YtnbedmihgnjdpaaDoorPFnExactCollatorFaultx7
import Derived.Test.YtnbedmihgnjdpaaDoorPFnExactCollatorFaultx8
import Derived.Test.YtnbedmihgnjdpaaDoorPFnExactCollatorFaultx14
import Derived.Test.YtnbedmihgnjdpaaDoorPFnExactCollatorFaultx15
namespace Go.Proofs.YtnbedmihgnjdpaaDoor.PFnExactCollatorFault
open Go.RowKit Go.Proofs.YtnbedmihgnjdpaaDoorW.PrintWords Go.Proofs.YtnbedmihgnjdpaaDoorW.PrintLast Go.Proofs.YtnbedmihgnjdpaaDoorW.PrintMore
attribute [local go_sem] max2_int min2_int max_two min_two max_three min_three max_four min_four
set_option linter.unusedVariables false
set_option linter.unusedSimpArgs false
def laws_eqEntryS.l0 : Nat → List (S72) → List (S72) → Int → Option (Bool)
 | 0, _, _, _ => none
 | k + 1, x0, x1, x5 => if x5 < (x0.length : Int) then (if 0 ≤ x5 then (if x5 < (x1.length : Int) then ((laws_eqEntry.f k ((rd_T72 x0 x5).f0) ((rd_T72 x0 x5).f1) ((rd_T72 x1 x5).f0) ((rd_T72 x1 x5).f1)).bind fun t502 => (if t502 = true then (laws_eqEntryS.l0 k x0 x1 (wrap64 (x5 + 1))) else (some false))) else (none)) else (none)) else (some true)
def laws_eqEntryS.f (k : Nat) (l0 : List (S72)) (l1 : List (S72)) : Option (Bool) := if (l0.length : Int) = (l1.length : Int) then (laws_eqEntryS.l0 k l0 l1 0) else (some false)
def laws_eqEntryS.T6 : Bool × List (List Nat × List Nat) := (true, [([], []), ([], []), ([0, 1], [0, 1]), ([2], [2]), ([], []), ([], []), ([4, 5], [4, 5]), ([6], [6]), ([3, 7], [3, 7]), ([8], [8])])
def laws_eqEntryS.B6 : List Nat := [0, 0, 3, 7, 0, 0, 48, 112, 255, 511]
theorem laws_eqEntryS.tab6 : rtab .any (opsOf Tryd.f68 6) = laws_eqEntryS.T6 := by kernel_rfl
theorem laws_eqEntryS.bits6 : waitsOk laws_eqEntryS.T6.2 laws_eqEntryS.B6 = true := by kernel_rfl
set_option maxHeartbeats 8000000 in
set_option maxRecDepth 100000 in
theorem laws_eqEntryS.calls (k : Nat) (A0 : Option Addr) (c0 : Nat) (l0 : List (S72)) (A1 : Option Addr) (c1 : Nat) (l1 : List (S72)) (r : Bool) (w : World) (hr0 : Kd.C k72 w A0 l0.length l0) (hc0 : l0.length ≤ c0) (hr1 : Kd.C k72 w A1 l1.length l1) (hc1 : l1.length ≤ c1) (h : laws_eqEntryS.f k l0 l1 = some r) :
  Calls Tryd.prog 68 #[.slice A0 l0.length c0, .slice A1 l1.length c1] w fun e w' => e = .returned (.bool r) ∧ Below w.heap.size w w' := by
 have hu72 := Tryd.underlying72
 have HR0 := am hr0
 have HC0 := am hc0
 clear hr0 hc0
 have HR1 := am hr1
 have HC1 := am hc1
 clear hr1 hc1
 have HB := am (Below.refl w.heap.size w)
 have H : (if (l0.length : Int) = (l1.length : Int) then (laws_eqEntryS.l0 k l0 l1 0) else (some false)) = some r := h
 clear h
 by_cases c3 : (l0.length : Int) = (l1.length : Int)
 ·rw [if_pos c3] at H
  have c3b0 : ((l0.length : Int) == (l1.length : Int)) = true := beq_iff_eq.mpr c3
  have c3b1 : ((l0.length : Int) != (l1.length : Int)) = false := bne_eq_false_iff_eq.mpr c3
  have c3b2 : (l0.length == l1.length) = true := by first | simpa using c3 | (simp at c3 ⊢; omega)
  clear c3
  have H' := am H
  clear H
  go_enter Tryd.func68, Tryd.ntmps68
  go_wp2
  go_loopg [5] k (fun kq v5 w' => ∃ (x5_1 : Int), v5 = .int .i64 x5_1 ∧ Aside0 (laws_eqEntryS.l0 kq l0 l1 x5_1 = some r) ∧ Aside0 (kq ≤ k) ∧ Aside0 (Below w.heap.size w w'))
  case atStart => exact ⟨(0), (by first | rfl | (simp; done) | (simp [*]; done)), H', ⟨Nat.le_refl _⟩, ⟨bB⟩⟩
  case round =>
   clear H'
   try clear c1
   try clear p2
   try clear c3
   try clear c3b0
   try clear c3b1
   try clear c3b2
   obtain ⟨x5_1, rfl, HA, HK1, HB⟩ := hrel
   cases gk with
   | zero => exact absurd HA.out (by simp [laws_eqEntryS.l0])
   | succ k1 =>
    have H := HA.out
    clear HA
    simp only [laws_eqEntryS.l0] at H
    by_cases c4 : x5_1 < (l0.length : Int)
    ·rw [if_pos c4] at H
     have c4b0 : decide (x5_1 < (l0.length : Int)) = true := decide_eq_true c4
     clear c4
     by_cases c5 : 0 ≤ x5_1
     ·rw [if_pos c5] at H
      have c5b0 : decide (0 ≤ x5_1) = true := decide_eq_true c5
      clear c5
      by_cases c6 : x5_1 < (l1.length : Int)
      ·rw [if_pos c6] at H
       have c6b0 : decide (x5_1 < (l1.length : Int)) = true := decide_eq_true c6
       clear c6
       replace H := Option.bind_eq_some_iff.mp H
       obtain ⟨t502, A70, H⟩ := H
       replace H : (if t502 = true then (laws_eqEntryS.l0 k1 l0 l1 (wrap64 (x5_1 + 1))) else (some false)) = some r := H
       have A7 := am A70
       clear A70
       by_cases c8 : t502 = true
       ·subst c8
        have H1 : (laws_eqEntryS.l0 k1 l0 l1 (wrap64 (x5_1 + 1))) = some r := by rw [if_pos rfl] at H; exact H
        clear H
        have H := H1
        clear H1
        have H' := am H
        clear H
        try go_wp2
        replace HB := am (below_drew1 HB.out)
        have p500 : 0 ≤ (x5_1 : Int) := od
        have q500 : x5_1 < (l0.length : Int) := od
        obtain ⟨ad500, A500_1, c500_1, e500, hx500_0, hx500_1, hl500_1, hi500_1⟩ := at_T72 HR0.out x5_1 p500 q500
        have hw500_1 := hx500_1
        have hw500_0 := hx500_0
        cases e500
        replace hx500_0 := (HB.out.cell (World.block_lt_of_cell? w _ hx500_0)).trans hx500_0
        replace hx500_1 := (HB.out.cell (World.block_lt_of_cell? w _ hx500_1)).trans hx500_1
        have HR500_1 := am hi500_1
        have HC500_1 := am hl500_1
        clear hi500_1 hl500_1
        replace p500 := eq_true p500
        replace q500 := eq_true q500
        have p501 : 0 ≤ (x5_1 : Int) := od
        have q501 : x5_1 < (l1.length : Int) := od
        obtain ⟨ad501, A501_1, c501_1, e501, hx501_0, hx501_1, hl501_1, hi501_1⟩ := at_T72 HR1.out x5_1 p501 q501
        have hw501_1 := hx501_1
        have hw501_0 := hx501_0
        cases e501
        replace hx501_0 := (HB.out.cell (World.block_lt_of_cell? w _ hx501_0)).trans hx501_0
        replace hx501_1 := (HB.out.cell (World.block_lt_of_cell? w _ hx501_1)).trans hx501_1
        have HR501_1 := am hi501_1
        have HC501_1 := am hl501_1
        clear hi501_1 hl501_1
        replace p501 := eq_true p501
        replace q501 := eq_true q501
        refine start_ (n := 10) (S := fun w' => w'.cell? (ad500.add ((x5_1).toNat * 2)) = some (.string ((rd_T72 l0 x5_1).f0)) ∧ w'.cell? ⟨(ad500.add ((x5_1).toNat * 2)).block, (ad500.add ((x5_1).toNat * 2)).off + 1, none⟩ = some (.slice A500_1 ((rd_T72 l0 x5_1).f1).length c500_1) ∧ w'.cell? (ad501.add ((x5_1).toNat * 2)) = some (.string ((rd_T72 l1 x5_1).f0)) ∧ w'.cell? ⟨(ad501.add ((x5_1).toNat * 2)).block, (ad501.add ((x5_1).toNat * 2)).off + 1, none⟩ = some (.slice A501_1 ((rd_T72 l1 x5_1).f1).length c501_1)) (ds := []) #[false, false, false, false, false, false, false, false, false, false] (by kernel_rfl) rfl rfl ⟨((HB.out.cell (World.block_lt_of_cell? w _ hw500_0)).trans hw500_0), ((HB.out.cell (World.block_lt_of_cell? w _ hw500_1)).trans hw500_1), ((HB.out.cell (World.block_lt_of_cell? w _ hw501_0)).trans hw501_0), ((HB.out.cell (World.block_lt_of_cell? w _ hw501_1)).trans hw501_1)⟩ (fun hHeld => ?_); refine with_tabW laws_eqEntryS.tab6 laws_eqEntryS.bits6 (fun HT_ HW_ => ?_)
        generalize wr.drew = w9 at HB HR500_1 HR501_1 hx500_0 hx500_1 hx501_0 hx501_1 hHeld ⊢
        refine pq 0 17 HT_.out ?_
        refine pq 1 18 HT_.out ?_
        refine pq 2 19 HT_.out ?_
        refine pq 4 21 HT_.out ?_
        refine pq 5 22 HT_.out ?_
        refine pq 6 23 HT_.out ?_
        refine take_ (i := 3) (N := some 20) (v := ?_) (a' := ?_) #[true, true, true, true, true, true, true, false, false, false] rfl rfl (take_ofW HT_.out HW_.out (by kernel_rfl)) (fun _ _ _ h => h) (Or.inl ⟨by rfl, ?_⟩) hHeld ?_ ?_
        rotate_left
        ·rintro w' ⟨s0, s1, s2, s3⟩
         go_simp
         with_reducible rfl
        rotate_left
        ·simp only [Act.put, List.setIfInBounds_toArray, List.set_cons_zero, List.set_cons_succ, i64_w, i32_w]
         rfl
        refine take_ (i := 7) (N := some 24) (v := ?_) (a' := ?_) #[true, true, true, true, true, true, true, true, false, false] rfl rfl (take_ofW HT_.out HW_.out (by kernel_rfl)) (fun _ _ _ h => h) (Or.inl ⟨by rfl, ?_⟩) hHeld ?_ ?_
        rotate_left
        ·rintro w' ⟨s0, s1, s2, s3⟩
         go_simp
         with_reducible rfl
        rotate_left
        ·simp only [Act.put, List.setIfInBounds_toArray, List.set_cons_zero, List.set_cons_succ, i64_w, i32_w]
         rfl
        refine one_ (i := 8) (N := some 25) #[true, true, true, true, true, true, true, true, true, false] rfl rfl (one_of HT_.out (by kernel_rfl)) (by decide) (fun K hK => ?_)
        refine goes_ Tryd.func85 (by kernel_rfl) rfl #[.agg #[.string ((rd_T72 l0 x5_1).f0), .slice A500_1 ((rd_T72 l0 x5_1).f1).length c500_1], .agg #[.string ((rd_T72 l1 x5_1).f0), .slice A501_1 ((rd_T72 l1 x5_1).f1).length c501_1]] (by rfl) rfl rfl (by (try simp only [List.map_toArray, List.map_cons, List.map_nil]); first | done | rfl | (simp only [List.length_drop, List.length_take]; rfl)) ?_
        with_reducible refine (laws_eqEntry.calls k1 ((rd_T72 l0 x5_1).f0) _ _ ((rd_T72 l0 x5_1).f1) ((rd_T72 l1 x5_1).f0) _ _ ((rd_T72 l1 x5_1).f1) true _ ?side1 ?side2 ?side3 ?side4 A7.out).mono ?_
        (case side1 => exact cC (Kd.C_below HR500_1.out HB.out))
        (case side2 => exact HC500_1.out)
        (case side3 => exact cC (Kd.C_below HR501_1.out HB.out))
        (case side4 => exact HC501_1.out)
        rintro e w10 ⟨rfl, hb⟩
        refine ⟨_, rfl, ?_⟩
        replace HB := am (below_step bB hb)
        (try clear hb)
        (try clear hb2)
        (try clear hk)
        (try clear hi)
        refine hK.out _ _ ⟨((HB.out.cell (World.block_lt_of_cell? w _ hw500_0)).trans hw500_0), ((HB.out.cell (World.block_lt_of_cell? w _ hw500_1)).trans hw500_1), ((HB.out.cell (World.block_lt_of_cell? w _ hw501_0)).trans hw501_0), ((HB.out.cell (World.block_lt_of_cell? w _ hw501_1)).trans hw501_1)⟩ (fun hHeld => ?_)
        clear hK K
        refine norm_ (a' := ?_) ?_ ?_
        rotate_left
        ·show Act.put _ (some 25) _ = _
         simp only [Act.put, List.setIfInBounds_toArray, List.set_cons_zero, List.set_cons_succ, i64_w, i32_w]
         rfl
        refine pq 9 26 HT_.out ?_
        refine done_ (done_of HT_.out (by kernel_rfl)) ?_
        try go_wp2
        go_roundg k1
        case measure => have := HK1.out; omega
        case rel => exact ⟨(wrap64 (x5_1 + 1)), (by first | rfl | (simp; done) | (simp [*]; done)), H', ⟨by have := HK1.out; omega⟩, ⟨bB⟩⟩
       ·replace c8 := Bool.eq_false_iff.mpr c8
        subst c8
        have H1 : (some false) = some r := by rw [if_neg (show ¬ (false = true) by decide)] at H; exact H
        clear H
        have H := H1
        clear H1
        obtain rfl := Option.some.inj H
        try go_wp2
        replace HB := am (below_drew1 HB.out)
        have p500 : 0 ≤ (x5_1 : Int) := od
        have q500 : x5_1 < (l0.length : Int) := od
        obtain ⟨ad500, A500_1, c500_1, e500, hx500_0, hx500_1, hl500_1, hi500_1⟩ := at_T72 HR0.out x5_1 p500 q500
        have hw500_1 := hx500_1
        have hw500_0 := hx500_0
        cases e500
        replace hx500_0 := (HB.out.cell (World.block_lt_of_cell? w _ hx500_0)).trans hx500_0
        replace hx500_1 := (HB.out.cell (World.block_lt_of_cell? w _ hx500_1)).trans hx500_1
        have HR500_1 := am hi500_1
        have HC500_1 := am hl500_1
        clear hi500_1 hl500_1
        replace p500 := eq_true p500
        replace q500 := eq_true q500
        have p501 : 0 ≤ (x5_1 : Int) := od
        have q501 : x5_1 < (l1.length : Int) := od
        obtain ⟨ad501, A501_1, c501_1, e501, hx501_0, hx501_1, hl501_1, hi501_1⟩ := at_T72 HR1.out x5_1 p501 q501
        have hw501_1 := hx501_1
        have hw501_0 := hx501_0
        cases e501
        replace hx501_0 := (HB.out.cell (World.block_lt_of_cell? w _ hx501_0)).trans hx501_0
        replace hx501_1 := (HB.out.cell (World.block_lt_of_cell? w _ hx501_1)).trans hx501_1
        have HR501_1 := am hi501_1
        have HC501_1 := am hl501_1
        clear hi501_1 hl501_1
        replace p501 := eq_true p501
        replace q501 := eq_true q501
        refine start_ (n := 10) (S := fun w' => w'.cell? (ad500.add ((x5_1).toNat * 2)) = some (.string ((rd_T72 l0 x5_1).f0)) ∧ w'.cell? ⟨(ad500.add ((x5_1).toNat * 2)).block, (ad500.add ((x5_1).toNat * 2)).off + 1, none⟩ = some (.slice A500_1 ((rd_T72 l0 x5_1).f1).length c500_1) ∧ w'.cell? (ad501.add ((x5_1).toNat * 2)) = some (.string ((rd_T72 l1 x5_1).f0)) ∧ w'.cell? ⟨(ad501.add ((x5_1).toNat * 2)).block, (ad501.add ((x5_1).toNat * 2)).off + 1, none⟩ = some (.slice A501_1 ((rd_T72 l1 x5_1).f1).length c501_1)) (ds := []) #[false, false, false, false, false, false, false, false, false, false] (by kernel_rfl) rfl rfl ⟨((HB.out.cell (World.block_lt_of_cell? w _ hw500_0)).trans hw500_0), ((HB.out.cell (World.block_lt_of_cell? w _ hw500_1)).trans hw500_1), ((HB.out.cell (World.block_lt_of_cell? w _ hw501_0)).trans hw501_0), ((HB.out.cell (World.block_lt_of_cell? w _ hw501_1)).trans hw501_1)⟩ (fun hHeld => ?_); refine with_tabW laws_eqEntryS.tab6 laws_eqEntryS.bits6 (fun HT_ HW_ => ?_)
        generalize wr.drew = w11 at HB HR500_1 HR501_1 hx500_0 hx500_1 hx501_0 hx501_1 hHeld ⊢
        refine pq 0 17 HT_.out ?_
        refine pq 1 18 HT_.out ?_
        refine pq 2 19 HT_.out ?_
        refine pq 4 21 HT_.out ?_
        refine pq 5 22 HT_.out ?_
        refine pq 6 23 HT_.out ?_
        refine take_ (i := 3) (N := some 20) (v := ?_) (a' := ?_) #[true, true, true, true, true, true, true, false, false, false] rfl rfl (take_ofW HT_.out HW_.out (by kernel_rfl)) (fun _ _ _ h => h) (Or.inl ⟨by rfl, ?_⟩) hHeld ?_ ?_
        rotate_left
        ·rintro w' ⟨s0, s1, s2, s3⟩
         go_simp
         with_reducible rfl
        rotate_left
        ·simp only [Act.put, List.setIfInBounds_toArray, List.set_cons_zero, List.set_cons_succ, i64_w, i32_w]
         rfl
        refine take_ (i := 7) (N := some 24) (v := ?_) (a' := ?_) #[true, true, true, true, true, true, true, true, false, false] rfl rfl (take_ofW HT_.out HW_.out (by kernel_rfl)) (fun _ _ _ h => h) (Or.inl ⟨by rfl, ?_⟩) hHeld ?_ ?_
        rotate_left
        ·rintro w' ⟨s0, s1, s2, s3⟩
         go_simp
         with_reducible rfl
        rotate_left
        ·simp only [Act.put, List.setIfInBounds_toArray, List.set_cons_zero, List.set_cons_succ, i64_w, i32_w]
         rfl
        refine one_ (i := 8) (N := some 25) #[true, true, true, true, true, true, true, true, true, false] rfl rfl (one_of HT_.out (by kernel_rfl)) (by decide) (fun K hK => ?_)
        refine goes_ Tryd.func85 (by kernel_rfl) rfl #[.agg #[.string ((rd_T72 l0 x5_1).f0), .slice A500_1 ((rd_T72 l0 x5_1).f1).length c500_1], .agg #[.string ((rd_T72 l1 x5_1).f0), .slice A501_1 ((rd_T72 l1 x5_1).f1).length c501_1]] (by rfl) rfl rfl (by (try simp only [List.map_toArray, List.map_cons, List.map_nil]); first | done | rfl | (simp only [List.length_drop, List.length_take]; rfl)) ?_
        with_reducible refine (laws_eqEntry.calls k1 ((rd_T72 l0 x5_1).f0) _ _ ((rd_T72 l0 x5_1).f1) ((rd_T72 l1 x5_1).f0) _ _ ((rd_T72 l1 x5_1).f1) false _ ?side1 ?side2 ?side3 ?side4 A7.out).mono ?_
        (case side1 => exact cC (Kd.C_below HR500_1.out HB.out))
        (case side2 => exact HC500_1.out)
        (case side3 => exact cC (Kd.C_below HR501_1.out HB.out))
        (case side4 => exact HC501_1.out)
        rintro e w12 ⟨rfl, hb⟩
        refine ⟨_, rfl, ?_⟩
        replace HB := am (below_step bB hb)
        (try clear hb)
        (try clear hb2)
        (try clear hk)
        (try clear hi)
        refine hK.out _ _ ⟨((HB.out.cell (World.block_lt_of_cell? w _ hw500_0)).trans hw500_0), ((HB.out.cell (World.block_lt_of_cell? w _ hw500_1)).trans hw500_1), ((HB.out.cell (World.block_lt_of_cell? w _ hw501_0)).trans hw501_0), ((HB.out.cell (World.block_lt_of_cell? w _ hw501_1)).trans hw501_1)⟩ (fun hHeld => ?_)
        clear hK K
        refine norm_ (a' := ?_) ?_ ?_
        rotate_left
        ·show Act.put _ (some 25) _ = _
         simp only [Act.put, List.setIfInBounds_toArray, List.set_cons_zero, List.set_cons_succ, i64_w, i32_w]
         rfl
        refine pq 9 26 HT_.out ?_
        refine done_ (done_of HT_.out (by kernel_rfl)) ?_
        try go_wp2
        go_ret
        exact ⟨rv, bB⟩
      ·rw [if_neg c6] at H
       exact absurd H (by simp)
     ·rw [if_neg c5] at H
      exact absurd H (by simp)
    ·rw [if_neg c4] at H
     have c4b0 : decide (x5_1 < (l0.length : Int)) = false := decide_eq_false c4
     clear c4
     obtain rfl := Option.some.inj H
     go_wp2
     go_ret
     exact ⟨rv, bB⟩
 ·rw [if_neg c3] at H
  have c3b0 : ((l0.length : Int) == (l1.length : Int)) = false := beq_eq_false_iff_ne.mpr c3
  have c3b1 : ((l0.length : Int) != (l1.length : Int)) = true := bne_iff_ne.mpr c3
  have c3b2 : (l0.length == l1.length) = false := by first | simpa using c3 | (simp at c3 ⊢; omega)
  obtain rfl := Option.some.inj H
  go_enter Tryd.func68, Tryd.ntmps68
  go_wp2
  go_ret
  exact ⟨rv, bB⟩
def laws_eqCollator.f (k : Nat) (l0_0 : List (S72)) (a0_1 : Int) (a0_2 : Bool) (l1_0 : List (S72)) (a1_1 : Int) (a1_2 : Bool) : Option (Bool) := (laws_eqEntryS.f k l0_0 l1_0).bind fun t505 => (if t505 = true then (if a0_1 = a1_1 then (if (a0_2 != a1_2) = true then (some false) else (some true)) else (some false)) else (some false))
set_option maxHeartbeats 8000000 in
set_option maxRecDepth 100000 in
theorem laws_eqCollator.calls (k : Nat) (A0_0 : Option Addr) (c0_0 : Nat) (l0_0 : List (S72)) (a0_1 : Int) (a0_2 : Bool) (A1_0 : Option Addr) (c1_0 : Nat) (l1_0 : List (S72)) (a1_1 : Int) (a1_2 : Bool) (r : Bool) (w : World) (hr0_0 : Kd.C k72 w A0_0 l0_0.length l0_0) (hc0_0 : l0_0.length ≤ c0_0) (hr1_0 : Kd.C k72 w A1_0 l1_0.length l1_0) (hc1_0 : l1_0.length ≤ c1_0) (h : laws_eqCollator.f k l0_0 a0_1 a0_2 l1_0 a1_1 a1_2 = some r) :
  Calls Tryd.prog 35 #[.agg #[.slice A0_0 l0_0.length c0_0, .int .i64 a0_1, .bool a0_2], .agg #[.slice A1_0 l1_0.length c1_0, .int .i64 a1_1, .bool a1_2]] w fun e w' => e = .returned (.bool r) ∧ Below w.heap.size w w' := by
 have hu48 := Tryd.underlying48
 have HR0_0 := am hr0_0
 have HC0_0 := am hc0_0
 clear hr0_0 hc0_0
 have HR1_0 := am hr1_0
 have HC1_0 := am hc1_0
 clear hr1_0 hc1_0
 have HB := am (Below.refl w.heap.size w)
 have H : ((laws_eqEntryS.f k l0_0 l1_0).bind fun t505 => (if t505 = true then (if a0_1 = a1_1 then (if (a0_2 != a1_2) = true then (some false) else (some true)) else (some false)) else (some false))) = some r := h
 clear h
 replace H := Option.bind_eq_some_iff.mp H
 obtain ⟨t505, A30, H⟩ := H
 replace H : (if t505 = true then (if a0_1 = a1_1 then (if (a0_2 != a1_2) = true then (some false) else (some true)) else (some false)) else (some false)) = some r := H
 have A3 := am A30
 clear A30
 by_cases c4 : t505 = true
 ·subst c4
  have H1 : (if a0_1 = a1_1 then (if (a0_2 != a1_2) = true then (some false) else (some true)) else (some false)) = some r := by rw [if_pos rfl] at H; exact H
  clear H
  have H := H1
  clear H1
  by_cases c5 : a0_1 = a1_1
  ·rw [if_pos c5] at H
   have c5b0 : (a0_1 == a1_1) = true := beq_iff_eq.mpr c5
   have c5b1 : (a0_1 != a1_1) = false := bne_eq_false_iff_eq.mpr c5
   clear c5
   by_cases c6 : (a0_2 != a1_2) = true
   ·rw [if_pos c6] at H
    have c6b0 : (a0_2 != a1_2) = true := c6
    (try (have c6b1 : decide (a0_2 = a1_2) = false := by simpa using c6))
    (try (have c6b2 : (a0_2 == a1_2) = false := by simpa using c6))
    (try (have c6b3 : ¬ (a0_2 = a1_2) := by simpa using c6))
    clear c6
    obtain rfl := Option.some.inj H
    go_enter Tryd.func35, Tryd.ntmps35
    go_wp2_with (first | ((with_reducible refine gate_dst (N := 2) rfl ?_); refine bx 2 #[.slice A0_0 l0_0.length c0_0, .int .i64 a0_1, .bool a0_2] 48 ?_; intro gb503 hg w7 hbox hb; have BK503 := am (hbox); have GW503 := am ((by rw [hg]; exact (below_size bB) : w.heap.size ≤ gb503)); have GE503 := am ((by rw [hg]; exact (below_size bB) : w.heap.size ≤ gb503)); replace HB := am (below_step bB hb); clear hb hbox hg) | ((with_reducible refine gate_dst (N := 3) rfl ?_); refine bx 3 #[.slice A1_0 l1_0.length c1_0, .int .i64 a1_1, .bool a1_2] 48 ?_; intro gb504 hg w8 hbox hb; have BK504 := am (hbox); have GW504 := am ((by rw [hg]; exact (below_size bS) : w.heap.size ≤ gb504)); have GE504 := am ((by rw [hg]; exact (below_size bS) : w.heap.size ≤ gb504)); replace HB := am (below_step bS hb); have NB503_504 := am ((by rw [hg]; exact Nat.ne_of_lt (blk_lt (g := gb503) (o := .cells #[.slice A0_0 l0_0.length c0_0, .int .i64 a0_1, .bool a0_2] 48 (0, 0)) (bk BK503.out)) : gb503 ≠ gb504)); have NB504_503 := am ((by rw [hg]; exact Nat.ne_of_gt (blk_lt (g := gb503) (o := .cells #[.slice A0_0 l0_0.length c0_0, .int .i64 a0_1, .bool a0_2] 48 (0, 0)) (bk BK503.out)) : gb504 ≠ gb503)); replace BK503 := am (blk_below (g := gb503) (o := .cells #[.slice A0_0 l0_0.length c0_0, .int .i64 a0_1, .bool a0_2] 48 (0, 0)) (bk BK503.out) hb); clear hb hbox hg; have hnb9 := NB503_504.out; have hnc9 := NB504_503.out; have hcz10_0 := bc BK503.out 0 (.slice A0_0 l0_0.length c0_0); have hcz10_1 := bc BK503.out 1 (.int .i64 a0_1); have hcz10_2 := bc BK503.out 2 (.bool a0_2); have hfz10_0 := blk_frozen BK503.out 0; have hfz10_1 := blk_frozen BK503.out 1; have hfz10_2 := blk_frozen BK503.out 2; have hcz11_0 := bc BK504.out 0 (.slice A1_0 l1_0.length c1_0); have hcz11_1 := bc BK504.out 1 (.int .i64 a1_1); have hcz11_2 := bc BK504.out 2 (.bool a1_2); have hfz11_0 := blk_frozen BK504.out 0; have hfz11_1 := blk_frozen BK504.out 1; have hfz11_2 := blk_frozen BK504.out 2) | ((with_reducible refine gate_callee (f := 68) rfl ?_); refine gl 9 Tryd.func68 #[.slice A0_0 l0_0.length c0_0, .slice A1_0 l1_0.length c1_0] ?_; (with_reducible refine (laws_eqEntryS.calls k _ _ l0_0 _ _ l1_0 true _ ?side1 ?side2 ?side3 ?side4 A3.out).mono ?_); (case side1 => exact cC (Kd.C_below HR0_0.out HB.out)); (case side2 => exact HC0_0.out); (case side3 => exact cC (Kd.C_below HR1_0.out HB.out)); (case side4 => exact HC1_0.out); rintro e w12 ⟨rfl, hb⟩; refine ⟨_, rfl, ?_⟩; replace BK503 := am (blk_below (g := gb503) (o := .cells #[.slice A0_0 l0_0.length c0_0, .int .i64 a0_1, .bool a0_2] 48 (0, 0)) (bk BK503.out) hb); replace BK504 := am (blk_below (g := gb504) (o := .cells #[.slice A1_0 l1_0.length c1_0, .int .i64 a1_1, .bool a1_2] 48 (0, 0)) (bk BK504.out) hb); replace HB := am (below_step bS hb); (try clear hb); (try clear hb2); (try clear hk); (try clear hi); have hcz13_0 := bc BK503.out 0 (.slice A0_0 l0_0.length c0_0); have hcz13_1 := bc BK503.out 1 (.int .i64 a0_1); have hcz13_2 := bc BK503.out 2 (.bool a0_2); have hfz13_0 := blk_frozen BK503.out 0; have hfz13_1 := blk_frozen BK503.out 1; have hfz13_2 := blk_frozen BK503.out 2; have hcz14_0 := bc BK504.out 0 (.slice A1_0 l1_0.length c1_0); have hcz14_1 := bc BK504.out 1 (.int .i64 a1_1); have hcz14_2 := bc BK504.out 2 (.bool a1_2); have hfz14_0 := blk_frozen BK504.out 0; have hfz14_1 := blk_frozen BK504.out 1; have hfz14_2 := blk_frozen BK504.out 2))
    go_ret
    exact ⟨rv, bS⟩
   ·rw [if_neg c6] at H
    have c6b0 : (a0_2 != a1_2) = false := by simpa using c6
    (try (have c6b1 : decide (a0_2 = a1_2) = true := by simpa using c6))
    (try (have c6b2 : (a0_2 == a1_2) = true := by simpa using c6))
    clear c6
    obtain rfl := Option.some.inj H
    go_enter Tryd.func35, Tryd.ntmps35
    go_wp2_with (first | ((with_reducible refine gate_dst (N := 2) rfl ?_); refine bx 2 #[.slice A0_0 l0_0.length c0_0, .int .i64 a0_1, .bool a0_2] 48 ?_; intro gb503 hg w15 hbox hb; have BK503 := am (hbox); have GW503 := am ((by rw [hg]; exact (below_size bB) : w.heap.size ≤ gb503)); have GE503 := am ((by rw [hg]; exact (below_size bB) : w.heap.size ≤ gb503)); replace HB := am (below_step bB hb); clear hb hbox hg) | ((with_reducible refine gate_dst (N := 3) rfl ?_); refine bx 3 #[.slice A1_0 l1_0.length c1_0, .int .i64 a1_1, .bool a1_2] 48 ?_; intro gb504 hg w16 hbox hb; have BK504 := am (hbox); have GW504 := am ((by rw [hg]; exact (below_size bS) : w.heap.size ≤ gb504)); have GE504 := am ((by rw [hg]; exact (below_size bS) : w.heap.size ≤ gb504)); replace HB := am (below_step bS hb); have NB503_504 := am ((by rw [hg]; exact Nat.ne_of_lt (blk_lt (g := gb503) (o := .cells #[.slice A0_0 l0_0.length c0_0, .int .i64 a0_1, .bool a0_2] 48 (0, 0)) (bk BK503.out)) : gb503 ≠ gb504)); have NB504_503 := am ((by rw [hg]; exact Nat.ne_of_gt (blk_lt (g := gb503) (o := .cells #[.slice A0_0 l0_0.length c0_0, .int .i64 a0_1, .bool a0_2] 48 (0, 0)) (bk BK503.out)) : gb504 ≠ gb503)); replace BK503 := am (blk_below (g := gb503) (o := .cells #[.slice A0_0 l0_0.length c0_0, .int .i64 a0_1, .bool a0_2] 48 (0, 0)) (bk BK503.out) hb); clear hb hbox hg; have hnb17 := NB503_504.out; have hnc17 := NB504_503.out; have hcz18_0 := bc BK503.out 0 (.slice A0_0 l0_0.length c0_0); have hcz18_1 := bc BK503.out 1 (.int .i64 a0_1); have hcz18_2 := bc BK503.out 2 (.bool a0_2); have hfz18_0 := blk_frozen BK503.out 0; have hfz18_1 := blk_frozen BK503.out 1; have hfz18_2 := blk_frozen BK503.out 2; have hcz19_0 := bc BK504.out 0 (.slice A1_0 l1_0.length c1_0); have hcz19_1 := bc BK504.out 1 (.int .i64 a1_1); have hcz19_2 := bc BK504.out 2 (.bool a1_2); have hfz19_0 := blk_frozen BK504.out 0; have hfz19_1 := blk_frozen BK504.out 1; have hfz19_2 := blk_frozen BK504.out 2) | ((with_reducible refine gate_callee (f := 68) rfl ?_); refine gl 9 Tryd.func68 #[.slice A0_0 l0_0.length c0_0, .slice A1_0 l1_0.length c1_0] ?_; (with_reducible refine (laws_eqEntryS.calls k _ _ l0_0 _ _ l1_0 true _ ?side1 ?side2 ?side3 ?side4 A3.out).mono ?_); (case side1 => exact cC (Kd.C_below HR0_0.out HB.out)); (case side2 => exact HC0_0.out); (case side3 => exact cC (Kd.C_below HR1_0.out HB.out)); (case side4 => exact HC1_0.out); rintro e w20 ⟨rfl, hb⟩; refine ⟨_, rfl, ?_⟩; replace BK503 := am (blk_below (g := gb503) (o := .cells #[.slice A0_0 l0_0.length c0_0, .int .i64 a0_1, .bool a0_2] 48 (0, 0)) (bk BK503.out) hb); replace BK504 := am (blk_below (g := gb504) (o := .cells #[.slice A1_0 l1_0.length c1_0, .int .i64 a1_1, .bool a1_2] 48 (0, 0)) (bk BK504.out) hb); replace HB := am (below_step bS hb); (try clear hb); (try clear hb2); (try clear hk); (try clear hi); have hcz21_0 := bc BK503.out 0 (.slice A0_0 l0_0.length c0_0); have hcz21_1 := bc BK503.out 1 (.int .i64 a0_1); have hcz21_2 := bc BK503.out 2 (.bool a0_2); have hfz21_0 := blk_frozen BK503.out 0; have hfz21_1 := blk_frozen BK503.out 1; have hfz21_2 := blk_frozen BK503.out 2; have hcz22_0 := bc BK504.out 0 (.slice A1_0 l1_0.length c1_0); have hcz22_1 := bc BK504.out 1 (.int .i64 a1_1); have hcz22_2 := bc BK504.out 2 (.bool a1_2); have hfz22_0 := blk_frozen BK504.out 0; have hfz22_1 := blk_frozen BK504.out 1; have hfz22_2 := blk_frozen BK504.out 2))
    go_ret
    exact ⟨rv, bS⟩
  ·rw [if_neg c5] at H
   have c5b0 : (a0_1 == a1_1) = false := beq_eq_false_iff_ne.mpr c5
   have c5b1 : (a0_1 != a1_1) = true := bne_iff_ne.mpr c5
   obtain rfl := Option.some.inj H
   go_enter Tryd.func35, Tryd.ntmps35
   go_wp2_with (first | ((with_reducible refine gate_dst (N := 2) rfl ?_); refine bx 2 #[.slice A0_0 l0_0.length c0_0, .int .i64 a0_1, .bool a0_2] 48 ?_; intro gb503 hg w23 hbox hb; have BK503 := am (hbox); have GW503 := am ((by rw [hg]; exact (below_size bB) : w.heap.size ≤ gb503)); have GE503 := am ((by rw [hg]; exact (below_size bB) : w.heap.size ≤ gb503)); replace HB := am (below_step bB hb); clear hb hbox hg) | ((with_reducible refine gate_dst (N := 3) rfl ?_); refine bx 3 #[.slice A1_0 l1_0.length c1_0, .int .i64 a1_1, .bool a1_2] 48 ?_; intro gb504 hg w24 hbox hb; have BK504 := am (hbox); have GW504 := am ((by rw [hg]; exact (below_size bS) : w.heap.size ≤ gb504)); have GE504 := am ((by rw [hg]; exact (below_size bS) : w.heap.size ≤ gb504)); replace HB := am (below_step bS hb); have NB503_504 := am ((by rw [hg]; exact Nat.ne_of_lt (blk_lt (g := gb503) (o := .cells #[.slice A0_0 l0_0.length c0_0, .int .i64 a0_1, .bool a0_2] 48 (0, 0)) (bk BK503.out)) : gb503 ≠ gb504)); have NB504_503 := am ((by rw [hg]; exact Nat.ne_of_gt (blk_lt (g := gb503) (o := .cells #[.slice A0_0 l0_0.length c0_0, .int .i64 a0_1, .bool a0_2] 48 (0, 0)) (bk BK503.out)) : gb504 ≠ gb503)); replace BK503 := am (blk_below (g := gb503) (o := .cells #[.slice A0_0 l0_0.length c0_0, .int .i64 a0_1, .bool a0_2] 48 (0, 0)) (bk BK503.out) hb); clear hb hbox hg; have hnb25 := NB503_504.out; have hnc25 := NB504_503.out; have hcz26_0 := bc BK503.out 0 (.slice A0_0 l0_0.length c0_0); have hcz26_1 := bc BK503.out 1 (.int .i64 a0_1); have hcz26_2 := bc BK503.out 2 (.bool a0_2); have hfz26_0 := blk_frozen BK503.out 0; have hfz26_1 := blk_frozen BK503.out 1; have hfz26_2 := blk_frozen BK503.out 2; have hcz27_0 := bc BK504.out 0 (.slice A1_0 l1_0.length c1_0); have hcz27_1 := bc BK504.out 1 (.int .i64 a1_1); have hcz27_2 := bc BK504.out 2 (.bool a1_2); have hfz27_0 := blk_frozen BK504.out 0; have hfz27_1 := blk_frozen BK504.out 1; have hfz27_2 := blk_frozen BK504.out 2) | ((with_reducible refine gate_callee (f := 68) rfl ?_); refine gl 9 Tryd.func68 #[.slice A0_0 l0_0.length c0_0, .slice A1_0 l1_0.length c1_0] ?_; (with_reducible refine (laws_eqEntryS.calls k _ _ l0_0 _ _ l1_0 true _ ?side1 ?side2 ?side3 ?side4 A3.out).mono ?_); (case side1 => exact cC (Kd.C_below HR0_0.out HB.out)); (case side2 => exact HC0_0.out); (case side3 => exact cC (Kd.C_below HR1_0.out HB.out)); (case side4 => exact HC1_0.out); rintro e w28 ⟨rfl, hb⟩; refine ⟨_, rfl, ?_⟩; replace BK503 := am (blk_below (g := gb503) (o := .cells #[.slice A0_0 l0_0.length c0_0, .int .i64 a0_1, .bool a0_2] 48 (0, 0)) (bk BK503.out) hb); replace BK504 := am (blk_below (g := gb504) (o := .cells #[.slice A1_0 l1_0.length c1_0, .int .i64 a1_1, .bool a1_2] 48 (0, 0)) (bk BK504.out) hb); replace HB := am (below_step bS hb); (try clear hb); (try clear hb2); (try clear hk); (try clear hi); have hcz29_0 := bc BK503.out 0 (.slice A0_0 l0_0.length c0_0); have hcz29_1 := bc BK503.out 1 (.int .i64 a0_1); have hcz29_2 := bc BK503.out 2 (.bool a0_2); have hfz29_0 := blk_frozen BK503.out 0; have hfz29_1 := blk_frozen BK503.out 1; have hfz29_2 := blk_frozen BK503.out 2; have hcz30_0 := bc BK504.out 0 (.slice A1_0 l1_0.length c1_0); have hcz30_1 := bc BK504.out 1 (.int .i64 a1_1); have hcz30_2 := bc BK504.out 2 (.bool a1_2); have hfz30_0 := blk_frozen BK504.out 0; have hfz30_1 := blk_frozen BK504.out 1; have hfz30_2 := blk_frozen BK504.out 2))
   go_ret
   exact ⟨rv, bS⟩
 ·replace c4 := Bool.eq_false_iff.mpr c4
  subst c4
  have H1 : (some false) = some r := by rw [if_neg (show ¬ (false = true) by decide)] at H; exact H
  clear H
  have H := H1
  clear H1
  obtain rfl := Option.some.inj H
  go_enter Tryd.func35, Tryd.ntmps35
  go_wp2_with (first | ((with_reducible refine gate_dst (N := 2) rfl ?_); refine bx 2 #[.slice A0_0 l0_0.length c0_0, .int .i64 a0_1, .bool a0_2] 48 ?_; intro gb503 hg w31 hbox hb; have BK503 := am (hbox); have GW503 := am ((by rw [hg]; exact (below_size bB) : w.heap.size ≤ gb503)); have GE503 := am ((by rw [hg]; exact (below_size bB) : w.heap.size ≤ gb503)); replace HB := am (below_step bB hb); clear hb hbox hg) | ((with_reducible refine gate_dst (N := 3) rfl ?_); refine bx 3 #[.slice A1_0 l1_0.length c1_0, .int .i64 a1_1, .bool a1_2] 48 ?_; intro gb504 hg w32 hbox hb; have BK504 := am (hbox); have GW504 := am ((by rw [hg]; exact (below_size bS) : w.heap.size ≤ gb504)); have GE504 := am ((by rw [hg]; exact (below_size bS) : w.heap.size ≤ gb504)); replace HB := am (below_step bS hb); have NB503_504 := am ((by rw [hg]; exact Nat.ne_of_lt (blk_lt (g := gb503) (o := .cells #[.slice A0_0 l0_0.length c0_0, .int .i64 a0_1, .bool a0_2] 48 (0, 0)) (bk BK503.out)) : gb503 ≠ gb504)); have NB504_503 := am ((by rw [hg]; exact Nat.ne_of_gt (blk_lt (g := gb503) (o := .cells #[.slice A0_0 l0_0.length c0_0, .int .i64 a0_1, .bool a0_2] 48 (0, 0)) (bk BK503.out)) : gb504 ≠ gb503)); replace BK503 := am (blk_below (g := gb503) (o := .cells #[.slice A0_0 l0_0.length c0_0, .int .i64 a0_1, .bool a0_2] 48 (0, 0)) (bk BK503.out) hb); clear hb hbox hg; have hnb33 := NB503_504.out; have hnc33 := NB504_503.out; have hcz34_0 := bc BK503.out 0 (.slice A0_0 l0_0.length c0_0); have hcz34_1 := bc BK503.out 1 (.int .i64 a0_1); have hcz34_2 := bc BK503.out 2 (.bool a0_2); have hfz34_0 := blk_frozen BK503.out 0; have hfz34_1 := blk_frozen BK503.out 1; have hfz34_2 := blk_frozen BK503.out 2; have hcz35_0 := bc BK504.out 0 (.slice A1_0 l1_0.length c1_0); have hcz35_1 := bc BK504.out 1 (.int .i64 a1_1); have hcz35_2 := bc BK504.out 2 (.bool a1_2); have hfz35_0 := blk_frozen BK504.out 0; have hfz35_1 := blk_frozen BK504.out 1; have hfz35_2 := blk_frozen BK504.out 2) | ((with_reducible refine gate_callee (f := 68) rfl ?_); refine gl 9 Tryd.func68 #[.slice A0_0 l0_0.length c0_0, .slice A1_0 l1_0.length c1_0] ?_; (with_reducible refine (laws_eqEntryS.calls k _ _ l0_0 _ _ l1_0 false _ ?side1 ?side2 ?side3 ?side4 A3.out).mono ?_); (case side1 => exact cC (Kd.C_below HR0_0.out HB.out)); (case side2 => exact HC0_0.out); (case side3 => exact cC (Kd.C_below HR1_0.out HB.out)); (case side4 => exact HC1_0.out); rintro e w36 ⟨rfl, hb⟩; refine ⟨_, rfl, ?_⟩; replace BK503 := am (blk_below (g := gb503) (o := .cells #[.slice A0_0 l0_0.length c0_0, .int .i64 a0_1, .bool a0_2] 48 (0, 0)) (bk BK503.out) hb); replace BK504 := am (blk_below (g := gb504) (o := .cells #[.slice A1_0 l1_0.length c1_0, .int .i64 a1_1, .bool a1_2] 48 (0, 0)) (bk BK504.out) hb); replace HB := am (below_step bS hb); (try clear hb); (try clear hb2); (try clear hk); (try clear hi)))
  go_ret
  exact ⟨rv, bS⟩
def laws_FnExactCollatorFault.f (k : Nat) (l0_0 : List (S91)) (a0_1 : Int) (a0_2 : Bool) : Option (Bool) := (laws_szCollator.f k l0_0 a0_1 a0_2 1048576).bind fun t507 => (if t507 < 0 then (some true) else ((laws_toCollator.f k l0_0 a0_1 a0_2).bind fun bt508 => ((spec_CollatorFault.f k bt508.1 bt508.2.1 bt508.2.2).bind fun t513 => ((laws_toCollator.f k l0_0 a0_1 a0_2).bind fun bt514 => ((impl_CollatorFault.f k bt514.1 bt514.2.1 bt514.2.2).bind fun t520 => (if t520 = t513 then ((laws_toCollator.f k l0_0 a0_1 a0_2).bind fun bt521 => ((laws_eqCollator.f k bt514.1 bt514.2.1 bt514.2.2 bt521.1 bt521.2.1 bt521.2.2).bind fun t526 => (if t526 = true then (some true) else (some false)))) else (some false)))))))
set_option maxHeartbeats 8000000 in
set_option maxRecDepth 100000 in
theorem laws_FnExactCollatorFault.calls (k : Nat) (A0_0 : Option Addr) (c0_0 : Nat) (l0_0 : List (S91)) (a0_1 : Int) (a0_2 : Bool) (r : Bool) (w : World) (hr0_0 : Kd.C k91 w A0_0 l0_0.length l0_0) (hc0_0 : l0_0.length ≤ c0_0) (hG : GL w) (h : laws_FnExactCollatorFault.f k l0_0 a0_1 a0_2 = some r) :
  Calls Tryd.prog 11 #[.agg #[.slice A0_0 l0_0.length c0_0, .int .i64 a0_1, .bool a0_2]] w fun e w' => e = .returned (.bool r) ∧ Below w.heap.size w w' := by
 have hu43 := Tryd.underlying43
 have hu48 := Tryd.underlying48
 have HR0_0 := am hr0_0
 have HC0_0 := am hc0_0
 clear hr0_0 hc0_0
 have HGL := am hG
 clear hG
 have HB := am (Below.refl w.heap.size w)
 have H : ((laws_szCollator.f k l0_0 a0_1 a0_2 1048576).bind fun t507 => (if t507 < 0 then (some true) else ((laws_toCollator.f k l0_0 a0_1 a0_2).bind fun bt508 => ((spec_CollatorFault.f k bt508.1 bt508.2.1 bt508.2.2).bind fun t513 => ((laws_toCollator.f k l0_0 a0_1 a0_2).bind fun bt514 => ((impl_CollatorFault.f k bt514.1 bt514.2.1 bt514.2.2).bind fun t520 => (if t520 = t513 then ((laws_toCollator.f k l0_0 a0_1 a0_2).bind fun bt521 => ((laws_eqCollator.f k bt514.1 bt514.2.1 bt514.2.2 bt521.1 bt521.2.1 bt521.2.2).bind fun t526 => (if t526 = true then (some true) else (some false)))) else (some false)))))))) = some r := h
 clear h
 replace H := Option.bind_eq_some_iff.mp H
 obtain ⟨t507, A20, H⟩ := H
 replace H : (if t507 < 0 then (some true) else ((laws_toCollator.f k l0_0 a0_1 a0_2).bind fun bt508 => ((spec_CollatorFault.f k bt508.1 bt508.2.1 bt508.2.2).bind fun t513 => ((laws_toCollator.f k l0_0 a0_1 a0_2).bind fun bt514 => ((impl_CollatorFault.f k bt514.1 bt514.2.1 bt514.2.2).bind fun t520 => (if t520 = t513 then ((laws_toCollator.f k l0_0 a0_1 a0_2).bind fun bt521 => ((laws_eqCollator.f k bt514.1 bt514.2.1 bt514.2.2 bt521.1 bt521.2.1 bt521.2.2).bind fun t526 => (if t526 = true then (some true) else (some false)))) else (some false))))))) = some r := H
 have A2 := am A20
 clear A20
 by_cases c3 : t507 < 0
 ·rw [if_pos c3] at H
  have c3b0 : decide (t507 < 0) = true := decide_eq_true c3
  clear c3
  obtain rfl := Option.some.inj H
  go_enter Tryd.func11, Tryd.ntmps11
  go_wp2_with (first | ((with_reducible refine gate_dst (N := 1) rfl ?_); refine bx 1 #[.slice A0_0 l0_0.length c0_0, .int .i64 a0_1, .bool a0_2] 43 ?_; intro gb506 hg w4 hbox hb; have BK506 := am (hbox); have GW506 := am ((by rw [hg]; exact (below_size bB) : w.heap.size ≤ gb506)); have GE506 := am ((by rw [hg]; exact (below_size bB) : w.heap.size ≤ gb506)); replace HB := am (below_step bB hb); clear hb hbox hg; have hcz5_0 := bc BK506.out 0 (.slice A0_0 l0_0.length c0_0); have hcz5_1 := bc BK506.out 1 (.int .i64 a0_1); have hcz5_2 := bc BK506.out 2 (.bool a0_2); have hfz5_0 := blk_frozen BK506.out 0; have hfz5_1 := blk_frozen BK506.out 1; have hfz5_2 := blk_frozen BK506.out 2) | ((with_reducible refine gate_callee (f := 31) rfl ?_); refine gl 9 Tryd.func31 #[.agg #[.slice A0_0 l0_0.length c0_0, .int .i64 a0_1, .bool a0_2], .int .i64 1048576] ?_; (with_reducible refine (laws_szCollator.calls k _ _ l0_0 a0_1 a0_2 1048576 t507 _ ?side1 ?side2 A2.out).mono ?_); (case side1 => exact cC (Kd.C_below HR0_0.out HB.out)); (case side2 => exact HC0_0.out); rintro e w6 ⟨rfl, hb⟩; refine ⟨_, rfl, ?_⟩; replace BK506 := am (blk_below (g := gb506) (o := .cells #[.slice A0_0 l0_0.length c0_0, .int .i64 a0_1, .bool a0_2] 43 (0, 0)) (bk BK506.out) hb); replace HB := am (below_step bS hb); (try clear hb); (try clear hb2); (try clear hk); (try clear hi)))
  go_ret
  exact ⟨rv, bS⟩
 ·rw [if_neg c3] at H
  have c3b0 : decide (t507 < 0) = false := decide_eq_false c3
  clear c3
  replace H := Option.bind_eq_some_iff.mp H
  obtain ⟨⟨t508, t511, t512⟩, A70, H⟩ := H
  replace H : ((spec_CollatorFault.f k t508 t511 t512).bind fun t513 => ((laws_toCollator.f k l0_0 a0_1 a0_2).bind fun bt514 => ((impl_CollatorFault.f k bt514.1 bt514.2.1 bt514.2.2).bind fun t520 => (if t520 = t513 then ((laws_toCollator.f k l0_0 a0_1 a0_2).bind fun bt521 => ((laws_eqCollator.f k bt514.1 bt514.2.1 bt514.2.2 bt521.1 bt521.2.1 bt521.2.2).bind fun t526 => (if t526 = true then (some true) else (some false)))) else (some false))))) = some r := H
  have A7 := am A70
  clear A70
  replace H := Option.bind_eq_some_iff.mp H
  obtain ⟨t513, A80, H⟩ := H
  replace H : ((laws_toCollator.f k l0_0 a0_1 a0_2).bind fun bt514 => ((impl_CollatorFault.f k bt514.1 bt514.2.1 bt514.2.2).bind fun t520 => (if t520 = t513 then ((laws_toCollator.f k l0_0 a0_1 a0_2).bind fun bt521 => ((laws_eqCollator.f k bt514.1 bt514.2.1 bt514.2.2 bt521.1 bt521.2.1 bt521.2.2).bind fun t526 => (if t526 = true then (some true) else (some false)))) else (some false)))) = some r := H
  have A8 := am A80
  clear A80
  replace H := Option.bind_eq_some_iff.mp H
  obtain ⟨⟨t514, t517, t518⟩, A90, H⟩ := H
  replace H : ((impl_CollatorFault.f k t514 t517 t518).bind fun t520 => (if t520 = t513 then ((laws_toCollator.f k l0_0 a0_1 a0_2).bind fun bt521 => ((laws_eqCollator.f k t514 t517 t518 bt521.1 bt521.2.1 bt521.2.2).bind fun t526 => (if t526 = true then (some true) else (some false)))) else (some false))) = some r := H
  have A9 := am A90
  clear A90
  replace H := Option.bind_eq_some_iff.mp H
  obtain ⟨t520, A100, H⟩ := H
  replace H : (if t520 = t513 then ((laws_toCollator.f k l0_0 a0_1 a0_2).bind fun bt521 => ((laws_eqCollator.f k t514 t517 t518 bt521.1 bt521.2.1 bt521.2.2).bind fun t526 => (if t526 = true then (some true) else (some false)))) else (some false)) = some r := H
  have A10 := am A100
  clear A100
  by_cases c11 : t520 = t513
  ·rw [if_pos c11] at H
   have c11b0 : (t520 == t513) = true := beq_iff_eq.mpr c11
   have c11b1 : (t520 != t513) = false := bne_eq_false_iff_eq.mpr c11
   clear c11
   replace H := Option.bind_eq_some_iff.mp H
   obtain ⟨⟨t521, t524, t525⟩, A120, H⟩ := H
   replace H : ((laws_eqCollator.f k t514 t517 t518 t521 t524 t525).bind fun t526 => (if t526 = true then (some true) else (some false))) = some r := H
   have A12 := am A120
   clear A120
   replace H := Option.bind_eq_some_iff.mp H
   obtain ⟨t526, A130, H⟩ := H
   replace H : (if t526 = true then (some true) else (some false)) = some r := H
   have A13 := am A130
   clear A130
   by_cases c14 : t526 = true
   ·subst c14
    have H1 : (some true) = some r := by rw [if_pos rfl] at H; exact H
    clear H
    have H := H1
    clear H1
    obtain rfl := Option.some.inj H
    go_enter Tryd.func11, Tryd.ntmps11
    try go_wp2_with (first | ((with_reducible refine gate_dst (N := 1) rfl ?_); refine bx 1 #[.slice A0_0 l0_0.length c0_0, .int .i64 a0_1, .bool a0_2] 43 ?_; intro gb506 hg w15 hbox hb; have BK506 := am (hbox); have GW506 := am ((by rw [hg]; exact (below_size bB) : w.heap.size ≤ gb506)); have GE506 := am ((by rw [hg]; exact (below_size bB) : w.heap.size ≤ gb506)); replace HB := am (below_step bB hb); clear hb hbox hg; have hcz16_0 := bc BK506.out 0 (.slice A0_0 l0_0.length c0_0); have hcz16_1 := bc BK506.out 1 (.int .i64 a0_1); have hcz16_2 := bc BK506.out 2 (.bool a0_2); have hfz16_0 := blk_frozen BK506.out 0; have hfz16_1 := blk_frozen BK506.out 1; have hfz16_2 := blk_frozen BK506.out 2) | ((with_reducible refine gate_callee (f := 31) rfl ?_); refine gl 9 Tryd.func31 #[.agg #[.slice A0_0 l0_0.length c0_0, .int .i64 a0_1, .bool a0_2], .int .i64 1048576] ?_; (with_reducible refine (laws_szCollator.calls k _ _ l0_0 a0_1 a0_2 1048576 t507 _ ?side1 ?side2 A2.out).mono ?_); (case side1 => exact cC (Kd.C_below HR0_0.out HB.out)); (case side2 => exact HC0_0.out); rintro e w17 ⟨rfl, hb⟩; refine ⟨_, rfl, ?_⟩; replace BK506 := am (blk_below (g := gb506) (o := .cells #[.slice A0_0 l0_0.length c0_0, .int .i64 a0_1, .bool a0_2] 43 (0, 0)) (bk BK506.out) hb); replace HB := am (below_step bS hb); (try clear hb); (try clear hb2); (try clear hk); (try clear hi); have hcz18_0 := bc BK506.out 0 (.slice A0_0 l0_0.length c0_0); have hcz18_1 := bc BK506.out 1 (.int .i64 a0_1); have hcz18_2 := bc BK506.out 2 (.bool a0_2); have hfz18_0 := blk_frozen BK506.out 0; have hfz18_1 := blk_frozen BK506.out 1; have hfz18_2 := blk_frozen BK506.out 2) | ((with_reducible refine gate_callee (f := 33) rfl ?_); refine gl 13 Tryd.func33 #[.agg #[.slice A0_0 l0_0.length c0_0, .int .i64 a0_1, .bool a0_2]] ?_; (with_reducible refine (laws_toCollator.calls k _ _ l0_0 a0_1 a0_2 t508 t511 t512 _ ?side1 ?side2 A7.out).mono ?_); (case side1 => exact cC (Kd.C_below HR0_0.out HB.out)); (case side2 => exact HC0_0.out); rintro e w19 ⟨v509, rfl, ho0, hb⟩; refine ⟨_, rfl, ?_⟩; have HO510 := am (Kd.S_lower ho0 (below_size bS)); replace BK506 := am (blk_below (g := gb506) (o := .cells #[.slice A0_0 l0_0.length c0_0, .int .i64 a0_1, .bool a0_2] 43 (0, 0)) (bk BK506.out) hb); replace HB := am (below_step bS hb); (try clear hb); (try clear hb2); (try clear hk); (try clear hi); (try clear ho0); obtain ⟨Ao20, co20, eo20⟩ := Kd.S_slice HO510.out; subst eo20) | ((with_reducible refine gate_callee (f := 32) rfl ?_); refine gl 14 Tryd.func32 #[.agg #[.slice Ao20 t508.length co20, .int .i64 t511, .bool t512]] ?_; (with_reducible refine (spec_CollatorFault.calls k _ _ t508 t511 t512 t513 _ ?side1 ?side2 A8.out).mono ?_); (case side1 => repeat (first | exact (Kd.S_reads' HO510.out).2.2 | (with_reducible refine Kd.C_alloc ?_ _) | (with_reducible refine Kd.C_drewN ?_ _) | (with_reducible refine Kd.C_drew ?_))); (case side2 => exact (Kd.S_reads' HO510.out).2.1); rintro e w21 ⟨rfl, hb⟩; refine ⟨_, rfl, ?_⟩; replace HO510 := am (Kd.S_below (by (with_reducible repeat (first | apply Kd.S_alloc | apply Kd.S_drewN | apply Kd.S_drew)); exact HO510.out) hb); replace BK506 := am (blk_below (g := gb506) (o := .cells #[.slice A0_0 l0_0.length c0_0, .int .i64 a0_1, .bool a0_2] 43 (0, 0)) (bk BK506.out) hb); replace HB := am (below_step bS hb); (try clear hb); (try clear hb2); (try clear hk); (try clear hi); have hcz22_0 := bc BK506.out 0 (.slice A0_0 l0_0.length c0_0); have hcz22_1 := bc BK506.out 1 (.int .i64 a0_1); have hcz22_2 := bc BK506.out 2 (.bool a0_2); have hfz22_0 := blk_frozen BK506.out 0; have hfz22_1 := blk_frozen BK506.out 1; have hfz22_2 := blk_frozen BK506.out 2) | ((with_reducible refine gate_callee (f := 33) rfl ?_); refine gl 16 Tryd.func33 #[.agg #[.slice A0_0 l0_0.length c0_0, .int .i64 a0_1, .bool a0_2]] ?_; (with_reducible refine (laws_toCollator.calls k _ _ l0_0 a0_1 a0_2 t514 t517 t518 _ ?side1 ?side2 A9.out).mono ?_); (case side1 => exact cC (Kd.C_below HR0_0.out HB.out)); (case side2 => exact HC0_0.out); rintro e w23 ⟨v515, rfl, ho0, hb⟩; refine ⟨_, rfl, ?_⟩; have HO516 := am (Kd.S_lower (Kd.S_new' ho0 (Kd.S_lt (by (with_reducible repeat (first | apply Kd.S_alloc | apply Kd.S_drewN | apply Kd.S_drew)); exact HO510.out))) (below_size bS)); replace HO510 := am (Kd.S_elder' (by (with_reducible repeat (first | apply Kd.S_alloc | apply Kd.S_drewN | apply Kd.S_drew)); exact HO510.out) (Kd.S_base ho0) hb); replace BK506 := am (blk_below (g := gb506) (o := .cells #[.slice A0_0 l0_0.length c0_0, .int .i64 a0_1, .bool a0_2] 43 (0, 0)) (bk BK506.out) hb); replace HB := am (below_step bS hb); (try clear hb); (try clear hb2); (try clear hk); (try clear hi); (try clear ho0)) | ((with_reducible refine gate_dst (N := 5) rfl ?_); refine bx 5 #[.slice none 0 0, .int .i64 0, .bool false] 48 ?_; intro gb519 hg w24 hbox hb; replace HO510 := am (Kd.S_below (by (with_reducible repeat (first | apply Kd.S_alloc | apply Kd.S_drewN | apply Kd.S_drew)); exact HO510.out) hb); replace HO516 := am (Kd.S_below (by (with_reducible repeat (first | apply Kd.S_alloc | apply Kd.S_drewN | apply Kd.S_drew)); exact HO516.out) hb); have BK519 := am (hbox); have GW519 := am ((by rw [hg]; exact (below_size bS) : w.heap.size ≤ gb519)); have GE519 := am ((by rw [hg]; exact (below_size bS) : w.heap.size ≤ gb519)); replace HB := am (below_step bS hb); have NB506_519 := am ((by rw [hg]; exact Nat.ne_of_lt (blk_lt (g := gb506) (o := .cells #[.slice A0_0 l0_0.length c0_0, .int .i64 a0_1, .bool a0_2] 43 (0, 0)) (bk BK506.out)) : gb506 ≠ gb519)); have NB519_506 := am ((by rw [hg]; exact Nat.ne_of_gt (blk_lt (g := gb506) (o := .cells #[.slice A0_0 l0_0.length c0_0, .int .i64 a0_1, .bool a0_2] 43 (0, 0)) (bk BK506.out)) : gb519 ≠ gb506)); replace BK506 := am (blk_below (g := gb506) (o := .cells #[.slice A0_0 l0_0.length c0_0, .int .i64 a0_1, .bool a0_2] 43 (0, 0)) (bk BK506.out) hb); clear hb hbox hg; obtain ⟨Ao25, co25, eo25⟩ := Kd.S_slice HO516.out; subst eo25; have hnb26 := NB519_506.out; have hnc26 := NB506_519.out; have hcz27_0 := bc BK519.out 0 (.slice none 0 0); have hcz27_1 := bc BK519.out 1 (.int .i64 0); have hcz27_2 := bc BK519.out 2 (.bool false); have hfz27_0 := blk_frozen BK519.out 0; have hfz27_1 := blk_frozen BK519.out 1; have hfz27_2 := blk_frozen BK519.out 2) | ((with_reducible refine gate_callee (f := 34) rfl ?_); refine gl 18 Tryd.func34 #[.agg #[.slice Ao25 t514.length co25, .int .i64 t517, .bool t518]] ?_; (with_reducible refine (impl_CollatorFault.calls k _ _ t514 t517 t518 t520 _ ?side1 ?side2 ?side3 A10.out).mono ?_); (case side1 => refine (Kd.S_reads' (e := 72) (base := w.heap.size) (ok := fun k_ => (True ∧ some k_ ≠ (.slice Ao20 t508.length co20 : Value).ownBlock)) (n := t514.length) (c := co25) ?_).2.2; exact (by (with_reducible repeat (first | apply Kd.S_alloc | apply Kd.S_drewN | apply Kd.S_drew)); exact (Kd.S_mono (Kd.S_far (p := ⟨gb519, 2, none⟩) (Kd.S_far (p := ⟨gb519, 1, none⟩) (Kd.S_far (p := ⟨gb519, 0, none⟩) (Kd.S_types HO516.out BK519.out (by decide)) (fun _ hk => hk.2) (.slice Ao25 t514.length co25)) (fun _ hk => hk.2) (.int .i64 t517)) (fun _ hk => hk.2) (.bool t518)) (fun _ h_ => h_.1)))); (case side2 => exact (Kd.S_reads' HO516.out).2.1); (case side3 => first | exact HGL.out | exact GL_below HGL.out bS); rintro e w28 ⟨rfl, hb⟩; refine ⟨_, rfl, ?_⟩; replace HO510 := am (Kd.S_below (by (with_reducible repeat (first | apply Kd.S_alloc | apply Kd.S_drewN | apply Kd.S_drew)); exact (Kd.S_mono (Kd.S_far (p := ⟨gb519, 2, none⟩) (Kd.S_far (p := ⟨gb519, 1, none⟩) (Kd.S_far (p := ⟨gb519, 0, none⟩) (Kd.S_types HO510.out BK519.out (by decide)) (fun _ hk => hk.2) (.slice Ao25 t514.length co25)) (fun _ hk => hk.2) (.int .i64 t517)) (fun _ hk => hk.2) (.bool t518)) (fun _ h_ => h_.1))) hb); replace HO516 := am (Kd.S_below (by (with_reducible repeat (first | apply Kd.S_alloc | apply Kd.S_drewN | apply Kd.S_drew)); exact (Kd.S_mono (Kd.S_far (p := ⟨gb519, 2, none⟩) (Kd.S_far (p := ⟨gb519, 1, none⟩) (Kd.S_far (p := ⟨gb519, 0, none⟩) (Kd.S_types HO516.out BK519.out (by decide)) (fun _ hk => hk.2) (.slice Ao25 t514.length co25)) (fun _ hk => hk.2) (.int .i64 t517)) (fun _ hk => hk.2) (.bool t518)) (fun _ h_ => h_.1))) hb); replace BK506 := am (blk_below (g := gb506) (o := .cells #[.slice A0_0 l0_0.length c0_0, .int .i64 a0_1, .bool a0_2] 43 (0, 0)) (by (with_reducible repeat (first | refine blk_drewN ?_ _ | refine blk_drew ?_ | refine blk_alloc ?_ _)); refine blk_far ?_ NB506_519.out _; (with_reducible repeat (first | refine blk_drewN ?_ _ | refine blk_drew ?_ | refine blk_alloc ?_ _)); refine blk_far ?_ NB506_519.out _; (with_reducible repeat (first | refine blk_drewN ?_ _ | refine blk_drew ?_ | refine blk_alloc ?_ _)); refine blk_far ?_ NB506_519.out _; (with_reducible repeat (first | refine blk_drewN ?_ _ | refine blk_drew ?_ | refine blk_alloc ?_ _)); exact BK506.out) hb); replace BK519 := am (blk_below (g := gb519) (o := .cells #[.slice Ao25 t514.length co25, .int .i64 t517, .bool t518] 48 (0, 0)) (by (with_reducible repeat (first | refine blk_drewN ?_ _ | refine blk_drew ?_ | refine blk_alloc ?_ _)); refine blk_put (cs := #[.slice Ao25 t514.length co25, .int .i64 t517, .bool false]) ?_ 2 _ rfl; (with_reducible repeat (first | refine blk_drewN ?_ _ | refine blk_drew ?_ | refine blk_alloc ?_ _)); refine blk_put (cs := #[.slice Ao25 t514.length co25, .int .i64 0, .bool false]) ?_ 1 _ rfl; (with_reducible repeat (first | refine blk_drewN ?_ _ | refine blk_drew ?_ | refine blk_alloc ?_ _)); refine blk_put (cs := #[.slice none 0 0, .int .i64 0, .bool false]) ?_ 0 _ rfl; (with_reducible repeat (first | refine blk_drewN ?_ _ | refine blk_drew ?_ | refine blk_alloc ?_ _)); exact BK519.out) hb); replace HB := am (below_step bS hb); (try clear hb); (try clear hb2); (try clear hk); (try clear hi)))
    replace HO510 := am (Kd.S_drew HO510.out)
    replace HO516 := am (Kd.S_drew HO516.out)
    replace BK506 := am (blk_drew BK506.out)
    replace BK519 := am (blk_drew BK519.out)
    replace HB := am (below_drew1 HB.out)
    refine start_ (n := 5) (S := fun w' => w'.cell? ⟨gb519, 0, none⟩ = some (.slice Ao25 t514.length co25) ∧ w'.cell? ⟨gb519, 1, none⟩ = some (.int .i64 t517) ∧ w'.cell? ⟨gb519, 2, none⟩ = some (.bool t518) ∧ w'.cell? ⟨gb506, 0, none⟩ = some (.slice A0_0 l0_0.length c0_0) ∧ w'.cell? ⟨gb506, 1, none⟩ = some (.int .i64 a0_1) ∧ w'.cell? ⟨gb506, 2, none⟩ = some (.bool a0_2)) (ds := []) #[false, false, false, false, false] (by kernel_rfl) rfl rfl ⟨(blk_cell BK519.out 0).trans rfl, (blk_cell BK519.out 1).trans rfl, (blk_cell BK519.out 2).trans rfl, (blk_cell BK506.out 0).trans rfl, (blk_cell BK506.out 1).trans rfl, (blk_cell BK506.out 2).trans rfl⟩ (fun hHeld => ?_)
    generalize w28.drew = w29 at HO510 HO516 BK506 BK519 HB hHeld ⊢
    refine take_ (i := 0) (N := some 22) (v := ?_) (a' := ?_) #[true, false, false, false, false] rfl rfl (by kernel_rfl) (fun _ _ _ h => h) (Or.inl ⟨by rfl, ?_⟩) hHeld ?_ ?_
    rotate_left
    ·rintro w' ⟨s0, s1, s2, s3, s4, s5⟩
     go_simp
     with_reducible rfl
    rotate_left
    ·simp only [Act.put, List.setIfInBounds_toArray, List.set_cons_zero, List.set_cons_succ, i64_w, i32_w]
     rfl
    refine take_ (i := 1) (N := some 23) (v := ?_) (a' := ?_) #[true, true, false, false, false] rfl rfl (by kernel_rfl) (fun _ _ _ h => h) (Or.inl ⟨by rfl, ?_⟩) hHeld ?_ ?_
    rotate_left
    ·rintro w' ⟨s0, s1, s2, s3, s4, s5⟩
     go_simp
     with_reducible rfl
    rotate_left
    ·simp only [Act.put, List.setIfInBounds_toArray, List.set_cons_zero, List.set_cons_succ, i64_w, i32_w]
     rfl
    refine one_ (i := 2) (N := some 24) #[true, true, true, false, false] rfl rfl (by kernel_rfl) (by decide) (fun K hK => ?_)
    refine goes_ Tryd.func33 (by kernel_rfl) rfl #[.agg #[.slice A0_0 l0_0.length c0_0, .int .i64 a0_1, .bool a0_2]] (by rfl) rfl rfl (by (try simp only [List.map_toArray, List.map_cons, List.map_nil]); first | done | rfl | (simp only [List.length_drop, List.length_take]; rfl)) ?_
    with_reducible refine (laws_toCollator.calls k _ _ l0_0 a0_1 a0_2 t521 t524 t525 _ ?side1 ?side2 A12.out).mono ?_
    (case side1 => exact cC (Kd.C_below HR0_0.out HB.out))
    (case side2 => exact HC0_0.out)
    rintro e w30 ⟨v522, rfl, ho0, hb⟩
    refine ⟨_, rfl, ?_⟩
    have HO523 := am (Kd.S_lower (Kd.S_new' (Kd.S_new' ho0 (Kd.S_lt (by (with_reducible repeat (first | apply Kd.S_alloc | apply Kd.S_drewN | apply Kd.S_drew)); exact HO510.out))) (Kd.S_lt (by (with_reducible repeat (first | apply Kd.S_alloc | apply Kd.S_drewN | apply Kd.S_drew)); exact HO516.out))) (below_size bS))
    replace HO510 := am (Kd.S_elder' (by (with_reducible repeat (first | apply Kd.S_alloc | apply Kd.S_drewN | apply Kd.S_drew)); exact HO510.out) (Kd.S_base ho0) hb)
    replace HO516 := am (Kd.S_elder' (by (with_reducible repeat (first | apply Kd.S_alloc | apply Kd.S_drewN | apply Kd.S_drew)); exact HO516.out) (Kd.S_base ho0) hb)
    replace BK506 := am (blk_below (g := gb506) (o := .cells #[.slice A0_0 l0_0.length c0_0, .int .i64 a0_1, .bool a0_2] 43 (0, 0)) (bk BK506.out) hb)
    replace BK519 := am (blk_below (g := gb519) (o := .cells #[.slice Ao25 t514.length co25, .int .i64 t517, .bool t518] 48 (0, 0)) (bk BK519.out) hb)
    replace HB := am (below_step bS hb)
    (try clear hb)
    (try clear hb2)
    (try clear hk)
    (try clear hi)
    (try clear ho0)
    obtain ⟨Ao31, co31, eo31⟩ := Kd.S_slice HO523.out
    (first | subst eo31 | (injection eo31 with f1_ f2_ f3_; have f4_ := f1_.symm; have f5_ := f3_.symm; clear f1_ f2_ f3_; subst f4_; subst f5_))
    refine hK.out _ _ ⟨(blk_cell BK519.out 0).trans rfl, (blk_cell BK519.out 1).trans rfl, (blk_cell BK519.out 2).trans rfl, (blk_cell BK506.out 0).trans rfl, (blk_cell BK506.out 1).trans rfl, (blk_cell BK506.out 2).trans rfl⟩ (fun hHeld => ?_)
    clear hK K
    refine norm_ (a' := ?_) ?_ ?_
    rotate_left
    ·show Act.put _ (some 24) _ = _
     simp only [Act.put, List.setIfInBounds_toArray, List.set_cons_zero, List.set_cons_succ, i64_w, i32_w]
     rfl
    refine one_ (i := 3) (N := some 25) #[true, true, true, true, false] rfl rfl (by kernel_rfl) (by decide) (fun K hK => ?_)
    refine goes_ Tryd.func35 (by kernel_rfl) rfl #[.agg #[.slice Ao25 t514.length co25, .int .i64 t517, .bool t518], .agg #[.slice Ao31 t521.length co31, .int .i64 t524, .bool t525]] (by rfl) rfl rfl (by (try simp only [List.map_toArray, List.map_cons, List.map_nil]); first | done | rfl | (simp only [List.length_drop, List.length_take]; rfl)) ?_
    with_reducible refine (laws_eqCollator.calls k _ _ t514 t517 t518 _ _ t521 t524 t525 true _ ?side1 ?side2 ?side3 ?side4 A13.out).mono ?_
    (case side1 => repeat (first | exact (Kd.S_reads' HO516.out).2.2 | (with_reducible refine Kd.C_alloc ?_ _) | (with_reducible refine Kd.C_drewN ?_ _) | (with_reducible refine Kd.C_drew ?_)))
    (case side2 => exact (Kd.S_reads' HO516.out).2.1)
    (case side3 => repeat (first | exact (Kd.S_reads' HO523.out).2.2 | (with_reducible refine Kd.C_alloc ?_ _) | (with_reducible refine Kd.C_drewN ?_ _) | (with_reducible refine Kd.C_drew ?_)))
    (case side4 => exact (Kd.S_reads' HO523.out).2.1)
    rintro e w32 ⟨rfl, hb⟩
    refine ⟨_, rfl, ?_⟩
    replace HO510 := am (Kd.S_below (by (with_reducible repeat (first | apply Kd.S_alloc | apply Kd.S_drewN | apply Kd.S_drew)); exact HO510.out) hb)
    replace HO516 := am (Kd.S_below (by (with_reducible repeat (first | apply Kd.S_alloc | apply Kd.S_drewN | apply Kd.S_drew)); exact HO516.out) hb)
    replace HO523 := am (Kd.S_below (by (with_reducible repeat (first | apply Kd.S_alloc | apply Kd.S_drewN | apply Kd.S_drew)); exact HO523.out) hb)
    replace BK506 := am (blk_below (g := gb506) (o := .cells #[.slice A0_0 l0_0.length c0_0, .int .i64 a0_1, .bool a0_2] 43 (0, 0)) (bk BK506.out) hb)
    replace BK519 := am (blk_below (g := gb519) (o := .cells #[.slice Ao25 t514.length co25, .int .i64 t517, .bool t518] 48 (0, 0)) (bk BK519.out) hb)
    replace HB := am (below_step bS hb)
    (try clear hb)
    (try clear hb2)
    (try clear hk)
    (try clear hi)
    refine hK.out _ _ ⟨(blk_cell BK519.out 0).trans rfl, (blk_cell BK519.out 1).trans rfl, (blk_cell BK519.out 2).trans rfl, (blk_cell BK506.out 0).trans rfl, (blk_cell BK506.out 1).trans rfl, (blk_cell BK506.out 2).trans rfl⟩ (fun hHeld => ?_)
    clear hK K
    refine norm_ (a' := ?_) ?_ ?_
    rotate_left
    ·show Act.put _ (some 25) _ = _
     simp only [Act.put, List.setIfInBounds_toArray, List.set_cons_zero, List.set_cons_succ, i64_w, i32_w]
     rfl
    refine pure_ (i := 4) (N := some 26) (v := ?_) (a' := ?_) #[true, true, true, true, true] rfl rfl (by kernel_rfl) (fun _ _ _ h => h) (Or.inl ⟨by rfl, ?_⟩) ?_ ?_
    rotate_left
    ·intro w'
     go_simp
     with_reducible rfl
    rotate_left
    ·simp only [Act.put, List.setIfInBounds_toArray, List.set_cons_zero, List.set_cons_succ, i64_w, i32_w]
     rfl
    refine done_ (by kernel_rfl) ?_
    try go_wp2
    go_ret
    exact ⟨rv, bS⟩
   ·replace c14 := Bool.eq_false_iff.mpr c14
    subst c14
    have H1 : (some false) = some r := by rw [if_neg (show ¬ (false = true) by decide)] at H; exact H
    clear H
    have H := H1
    clear H1
    obtain rfl := Option.some.inj H
    go_enter Tryd.func11, Tryd.ntmps11
    try go_wp2_with (first | ((with_reducible refine gate_dst (N := 1) rfl ?_); refine bx 1 #[.slice A0_0 l0_0.length c0_0, .int .i64 a0_1, .bool a0_2] 43 ?_; intro gb506 hg w33 hbox hb; have BK506 := am (hbox); have GW506 := am ((by rw [hg]; exact (below_size bB) : w.heap.size ≤ gb506)); have GE506 := am ((by rw [hg]; exact (below_size bB) : w.heap.size ≤ gb506)); replace HB := am (below_step bB hb); clear hb hbox hg; have hcz34_0 := bc BK506.out 0 (.slice A0_0 l0_0.length c0_0); have hcz34_1 := bc BK506.out 1 (.int .i64 a0_1); have hcz34_2 := bc BK506.out 2 (.bool a0_2); have hfz34_0 := blk_frozen BK506.out 0; have hfz34_1 := blk_frozen BK506.out 1; have hfz34_2 := blk_frozen BK506.out 2) | ((with_reducible refine gate_callee (f := 31) rfl ?_); refine gl 9 Tryd.func31 #[.agg #[.slice A0_0 l0_0.length c0_0, .int .i64 a0_1, .bool a0_2], .int .i64 1048576] ?_; (with_reducible refine (laws_szCollator.calls k _ _ l0_0 a0_1 a0_2 1048576 t507 _ ?side1 ?side2 A2.out).mono ?_); (case side1 => exact cC (Kd.C_below HR0_0.out HB.out)); (case side2 => exact HC0_0.out); rintro e w35 ⟨rfl, hb⟩; refine ⟨_, rfl, ?_⟩; replace BK506 := am (blk_below (g := gb506) (o := .cells #[.slice A0_0 l0_0.length c0_0, .int .i64 a0_1, .bool a0_2] 43 (0, 0)) (bk BK506.out) hb); replace HB := am (below_step bS hb); (try clear hb); (try clear hb2); (try clear hk); (try clear hi); have hcz36_0 := bc BK506.out 0 (.slice A0_0 l0_0.length c0_0); have hcz36_1 := bc BK506.out 1 (.int .i64 a0_1); have hcz36_2 := bc BK506.out 2 (.bool a0_2); have hfz36_0 := blk_frozen BK506.out 0; have hfz36_1 := blk_frozen BK506.out 1; have hfz36_2 := blk_frozen BK506.out 2) | ((with_reducible refine gate_callee (f := 33) rfl ?_); refine gl 13 Tryd.func33 #[.agg #[.slice A0_0 l0_0.length c0_0, .int .i64 a0_1, .bool a0_2]] ?_; (with_reducible refine (laws_toCollator.calls k _ _ l0_0 a0_1 a0_2 t508 t511 t512 _ ?side1 ?side2 A7.out).mono ?_); (case side1 => exact cC (Kd.C_below HR0_0.out HB.out)); (case side2 => exact HC0_0.out); rintro e w37 ⟨v509, rfl, ho0, hb⟩; refine ⟨_, rfl, ?_⟩; have HO510 := am (Kd.S_lower ho0 (below_size bS)); replace BK506 := am (blk_below (g := gb506) (o := .cells #[.slice A0_0 l0_0.length c0_0, .int .i64 a0_1, .bool a0_2] 43 (0, 0)) (bk BK506.out) hb); replace HB := am (below_step bS hb); (try clear hb); (try clear hb2); (try clear hk); (try clear hi); (try clear ho0); obtain ⟨Ao38, co38, eo38⟩ := Kd.S_slice HO510.out; subst eo38) | ((with_reducible refine gate_callee (f := 32) rfl ?_); refine gl 14 Tryd.func32 #[.agg #[.slice Ao38 t508.length co38, .int .i64 t511, .bool t512]] ?_; (with_reducible refine (spec_CollatorFault.calls k _ _ t508 t511 t512 t513 _ ?side1 ?side2 A8.out).mono ?_); (case side1 => repeat (first | exact (Kd.S_reads' HO510.out).2.2 | (with_reducible refine Kd.C_alloc ?_ _) | (with_reducible refine Kd.C_drewN ?_ _) | (with_reducible refine Kd.C_drew ?_))); (case side2 => exact (Kd.S_reads' HO510.out).2.1); rintro e w39 ⟨rfl, hb⟩; refine ⟨_, rfl, ?_⟩; replace HO510 := am (Kd.S_below (by (with_reducible repeat (first | apply Kd.S_alloc | apply Kd.S_drewN | apply Kd.S_drew)); exact HO510.out) hb); replace BK506 := am (blk_below (g := gb506) (o := .cells #[.slice A0_0 l0_0.length c0_0, .int .i64 a0_1, .bool a0_2] 43 (0, 0)) (bk BK506.out) hb); replace HB := am (below_step bS hb); (try clear hb); (try clear hb2); (try clear hk); (try clear hi); have hcz40_0 := bc BK506.out 0 (.slice A0_0 l0_0.length c0_0); have hcz40_1 := bc BK506.out 1 (.int .i64 a0_1); have hcz40_2 := bc BK506.out 2 (.bool a0_2); have hfz40_0 := blk_frozen BK506.out 0; have hfz40_1 := blk_frozen BK506.out 1; have hfz40_2 := blk_frozen BK506.out 2) | ((with_reducible refine gate_callee (f := 33) rfl ?_); refine gl 16 Tryd.func33 #[.agg #[.slice A0_0 l0_0.length c0_0, .int .i64 a0_1, .bool a0_2]] ?_; (with_reducible refine (laws_toCollator.calls k _ _ l0_0 a0_1 a0_2 t514 t517 t518 _ ?side1 ?side2 A9.out).mono ?_); (case side1 => exact cC (Kd.C_below HR0_0.out HB.out)); (case side2 => exact HC0_0.out); rintro e w41 ⟨v515, rfl, ho0, hb⟩; refine ⟨_, rfl, ?_⟩; have HO516 := am (Kd.S_lower (Kd.S_new' ho0 (Kd.S_lt (by (with_reducible repeat (first | apply Kd.S_alloc | apply Kd.S_drewN | apply Kd.S_drew)); exact HO510.out))) (below_size bS)); replace HO510 := am (Kd.S_elder' (by (with_reducible repeat (first | apply Kd.S_alloc | apply Kd.S_drewN | apply Kd.S_drew)); exact HO510.out) (Kd.S_base ho0) hb); replace BK506 := am (blk_below (g := gb506) (o := .cells #[.slice A0_0 l0_0.length c0_0, .int .i64 a0_1, .bool a0_2] 43 (0, 0)) (bk BK506.out) hb); replace HB := am (below_step bS hb); (try clear hb); (try clear hb2); (try clear hk); (try clear hi); (try clear ho0)) | ((with_reducible refine gate_dst (N := 5) rfl ?_); refine bx 5 #[.slice none 0 0, .int .i64 0, .bool false] 48 ?_; intro gb519 hg w42 hbox hb; replace HO510 := am (Kd.S_below (by (with_reducible repeat (first | apply Kd.S_alloc | apply Kd.S_drewN | apply Kd.S_drew)); exact HO510.out) hb); replace HO516 := am (Kd.S_below (by (with_reducible repeat (first | apply Kd.S_alloc | apply Kd.S_drewN | apply Kd.S_drew)); exact HO516.out) hb); have BK519 := am (hbox); have GW519 := am ((by rw [hg]; exact (below_size bS) : w.heap.size ≤ gb519)); have GE519 := am ((by rw [hg]; exact (below_size bS) : w.heap.size ≤ gb519)); replace HB := am (below_step bS hb); have NB506_519 := am ((by rw [hg]; exact Nat.ne_of_lt (blk_lt (g := gb506) (o := .cells #[.slice A0_0 l0_0.length c0_0, .int .i64 a0_1, .bool a0_2] 43 (0, 0)) (bk BK506.out)) : gb506 ≠ gb519)); have NB519_506 := am ((by rw [hg]; exact Nat.ne_of_gt (blk_lt (g := gb506) (o := .cells #[.slice A0_0 l0_0.length c0_0, .int .i64 a0_1, .bool a0_2] 43 (0, 0)) (bk BK506.out)) : gb519 ≠ gb506)); replace BK506 := am (blk_below (g := gb506) (o := .cells #[.slice A0_0 l0_0.length c0_0, .int .i64 a0_1, .bool a0_2] 43 (0, 0)) (bk BK506.out) hb); clear hb hbox hg; obtain ⟨Ao43, co43, eo43⟩ := Kd.S_slice HO516.out; subst eo43; have hnb44 := NB519_506.out; have hnc44 := NB506_519.out; have hcz45_0 := bc BK519.out 0 (.slice none 0 0); have hcz45_1 := bc BK519.out 1 (.int .i64 0); have hcz45_2 := bc BK519.out 2 (.bool false); have hfz45_0 := blk_frozen BK519.out 0; have hfz45_1 := blk_frozen BK519.out 1; have hfz45_2 := blk_frozen BK519.out 2) | ((with_reducible refine gate_callee (f := 34) rfl ?_); refine gl 18 Tryd.func34 #[.agg #[.slice Ao43 t514.length co43, .int .i64 t517, .bool t518]] ?_; (with_reducible refine (impl_CollatorFault.calls k _ _ t514 t517 t518 t520 _ ?side1 ?side2 ?side3 A10.out).mono ?_); (case side1 => refine (Kd.S_reads' (e := 72) (base := w.heap.size) (ok := fun k_ => (True ∧ some k_ ≠ (.slice Ao38 t508.length co38 : Value).ownBlock)) (n := t514.length) (c := co43) ?_).2.2; exact (by (with_reducible repeat (first | apply Kd.S_alloc | apply Kd.S_drewN | apply Kd.S_drew)); exact (Kd.S_mono (Kd.S_far (p := ⟨gb519, 2, none⟩) (Kd.S_far (p := ⟨gb519, 1, none⟩) (Kd.S_far (p := ⟨gb519, 0, none⟩) (Kd.S_types HO516.out BK519.out (by decide)) (fun _ hk => hk.2) (.slice Ao43 t514.length co43)) (fun _ hk => hk.2) (.int .i64 t517)) (fun _ hk => hk.2) (.bool t518)) (fun _ h_ => h_.1)))); (case side2 => exact (Kd.S_reads' HO516.out).2.1); (case side3 => first | exact HGL.out | exact GL_below HGL.out bS); rintro e w46 ⟨rfl, hb⟩; refine ⟨_, rfl, ?_⟩; replace HO510 := am (Kd.S_below (by (with_reducible repeat (first | apply Kd.S_alloc | apply Kd.S_drewN | apply Kd.S_drew)); exact (Kd.S_mono (Kd.S_far (p := ⟨gb519, 2, none⟩) (Kd.S_far (p := ⟨gb519, 1, none⟩) (Kd.S_far (p := ⟨gb519, 0, none⟩) (Kd.S_types HO510.out BK519.out (by decide)) (fun _ hk => hk.2) (.slice Ao43 t514.length co43)) (fun _ hk => hk.2) (.int .i64 t517)) (fun _ hk => hk.2) (.bool t518)) (fun _ h_ => h_.1))) hb); replace HO516 := am (Kd.S_below (by (with_reducible repeat (first | apply Kd.S_alloc | apply Kd.S_drewN | apply Kd.S_drew)); exact (Kd.S_mono (Kd.S_far (p := ⟨gb519, 2, none⟩) (Kd.S_far (p := ⟨gb519, 1, none⟩) (Kd.S_far (p := ⟨gb519, 0, none⟩) (Kd.S_types HO516.out BK519.out (by decide)) (fun _ hk => hk.2) (.slice Ao43 t514.length co43)) (fun _ hk => hk.2) (.int .i64 t517)) (fun _ hk => hk.2) (.bool t518)) (fun _ h_ => h_.1))) hb); replace BK506 := am (blk_below (g := gb506) (o := .cells #[.slice A0_0 l0_0.length c0_0, .int .i64 a0_1, .bool a0_2] 43 (0, 0)) (by (with_reducible repeat (first | refine blk_drewN ?_ _ | refine blk_drew ?_ | refine blk_alloc ?_ _)); refine blk_far ?_ NB506_519.out _; (with_reducible repeat (first | refine blk_drewN ?_ _ | refine blk_drew ?_ | refine blk_alloc ?_ _)); refine blk_far ?_ NB506_519.out _; (with_reducible repeat (first | refine blk_drewN ?_ _ | refine blk_drew ?_ | refine blk_alloc ?_ _)); refine blk_far ?_ NB506_519.out _; (with_reducible repeat (first | refine blk_drewN ?_ _ | refine blk_drew ?_ | refine blk_alloc ?_ _)); exact BK506.out) hb); replace BK519 := am (blk_below (g := gb519) (o := .cells #[.slice Ao43 t514.length co43, .int .i64 t517, .bool t518] 48 (0, 0)) (by (with_reducible repeat (first | refine blk_drewN ?_ _ | refine blk_drew ?_ | refine blk_alloc ?_ _)); refine blk_put (cs := #[.slice Ao43 t514.length co43, .int .i64 t517, .bool false]) ?_ 2 _ rfl; (with_reducible repeat (first | refine blk_drewN ?_ _ | refine blk_drew ?_ | refine blk_alloc ?_ _)); refine blk_put (cs := #[.slice Ao43 t514.length co43, .int .i64 0, .bool false]) ?_ 1 _ rfl; (with_reducible repeat (first | refine blk_drewN ?_ _ | refine blk_drew ?_ | refine blk_alloc ?_ _)); refine blk_put (cs := #[.slice none 0 0, .int .i64 0, .bool false]) ?_ 0 _ rfl; (with_reducible repeat (first | refine blk_drewN ?_ _ | refine blk_drew ?_ | refine blk_alloc ?_ _)); exact BK519.out) hb); replace HB := am (below_step bS hb); (try clear hb); (try clear hb2); (try clear hk); (try clear hi)))
    replace HO510 := am (Kd.S_drew HO510.out)
    replace HO516 := am (Kd.S_drew HO516.out)
    replace BK506 := am (blk_drew BK506.out)
    replace BK519 := am (blk_drew BK519.out)
    replace HB := am (below_drew1 HB.out)
    refine start_ (n := 5) (S := fun w' => w'.cell? ⟨gb519, 0, none⟩ = some (.slice Ao43 t514.length co43) ∧ w'.cell? ⟨gb519, 1, none⟩ = some (.int .i64 t517) ∧ w'.cell? ⟨gb519, 2, none⟩ = some (.bool t518) ∧ w'.cell? ⟨gb506, 0, none⟩ = some (.slice A0_0 l0_0.length c0_0) ∧ w'.cell? ⟨gb506, 1, none⟩ = some (.int .i64 a0_1) ∧ w'.cell? ⟨gb506, 2, none⟩ = some (.bool a0_2)) (ds := []) #[false, false, false, false, false] (by kernel_rfl) rfl rfl ⟨(blk_cell BK519.out 0).trans rfl, (blk_cell BK519.out 1).trans rfl, (blk_cell BK519.out 2).trans rfl, (blk_cell BK506.out 0).trans rfl, (blk_cell BK506.out 1).trans rfl, (blk_cell BK506.out 2).trans rfl⟩ (fun hHeld => ?_)
    generalize w46.drew = w47 at HO510 HO516 BK506 BK519 HB hHeld ⊢
    refine take_ (i := 0) (N := some 22) (v := ?_) (a' := ?_) #[true, false, false, false, false] rfl rfl (by kernel_rfl) (fun _ _ _ h => h) (Or.inl ⟨by rfl, ?_⟩) hHeld ?_ ?_
    rotate_left
    ·rintro w' ⟨s0, s1, s2, s3, s4, s5⟩
     go_simp
     with_reducible rfl
    rotate_left
    ·simp only [Act.put, List.setIfInBounds_toArray, List.set_cons_zero, List.set_cons_succ, i64_w, i32_w]
     rfl
    refine take_ (i := 1) (N := some 23) (v := ?_) (a' := ?_) #[true, true, false, false, false] rfl rfl (by kernel_rfl) (fun _ _ _ h => h) (Or.inl ⟨by rfl, ?_⟩) hHeld ?_ ?_
    rotate_left
    ·rintro w' ⟨s0, s1, s2, s3, s4, s5⟩
     go_simp
     with_reducible rfl
    rotate_left
    ·simp only [Act.put, List.setIfInBounds_toArray, List.set_cons_zero, List.set_cons_succ, i64_w, i32_w]
     rfl
    refine one_ (i := 2) (N := some 24) #[true, true, true, false, false] rfl rfl (by kernel_rfl) (by decide) (fun K hK => ?_)
    refine goes_ Tryd.func33 (by kernel_rfl) rfl #[.agg #[.slice A0_0 l0_0.length c0_0, .int .i64 a0_1, .bool a0_2]] (by rfl) rfl rfl (by (try simp only [List.map_toArray, List.map_cons, List.map_nil]); first | done | rfl | (simp only [List.length_drop, List.length_take]; rfl)) ?_
    with_reducible refine (laws_toCollator.calls k _ _ l0_0 a0_1 a0_2 t521 t524 t525 _ ?side1 ?side2 A12.out).mono ?_
    (case side1 => exact cC (Kd.C_below HR0_0.out HB.out))
    (case side2 => exact HC0_0.out)
    rintro e w48 ⟨v522, rfl, ho0, hb⟩
    refine ⟨_, rfl, ?_⟩
    have HO523 := am (Kd.S_lower (Kd.S_new' (Kd.S_new' ho0 (Kd.S_lt (by (with_reducible repeat (first | apply Kd.S_alloc | apply Kd.S_drewN | apply Kd.S_drew)); exact HO510.out))) (Kd.S_lt (by (with_reducible repeat (first | apply Kd.S_alloc | apply Kd.S_drewN | apply Kd.S_drew)); exact HO516.out))) (below_size bS))
    replace HO510 := am (Kd.S_elder' (by (with_reducible repeat (first | apply Kd.S_alloc | apply Kd.S_drewN | apply Kd.S_drew)); exact HO510.out) (Kd.S_base ho0) hb)
    replace HO516 := am (Kd.S_elder' (by (with_reducible repeat (first | apply Kd.S_alloc | apply Kd.S_drewN | apply Kd.S_drew)); exact HO516.out) (Kd.S_base ho0) hb)
    replace BK506 := am (blk_below (g := gb506) (o := .cells #[.slice A0_0 l0_0.length c0_0, .int .i64 a0_1, .bool a0_2] 43 (0, 0)) (bk BK506.out) hb)
    replace BK519 := am (blk_below (g := gb519) (o := .cells #[.slice Ao43 t514.length co43, .int .i64 t517, .bool t518] 48 (0, 0)) (bk BK519.out) hb)
    replace HB := am (below_step bS hb)
    (try clear hb)
    (try clear hb2)
    (try clear hk)
    (try clear hi)
    (try clear ho0)
    obtain ⟨Ao49, co49, eo49⟩ := Kd.S_slice HO523.out
    (first | subst eo49 | (injection eo49 with f1_ f2_ f3_; have f4_ := f1_.symm; have f5_ := f3_.symm; clear f1_ f2_ f3_; subst f4_; subst f5_))
    refine hK.out _ _ ⟨(blk_cell BK519.out 0).trans rfl, (blk_cell BK519.out 1).trans rfl, (blk_cell BK519.out 2).trans rfl, (blk_cell BK506.out 0).trans rfl, (blk_cell BK506.out 1).trans rfl, (blk_cell BK506.out 2).trans rfl⟩ (fun hHeld => ?_)
    clear hK K
    refine norm_ (a' := ?_) ?_ ?_
    rotate_left
    ·show Act.put _ (some 24) _ = _
     simp only [Act.put, List.setIfInBounds_toArray, List.set_cons_zero, List.set_cons_succ, i64_w, i32_w]
     rfl
    refine one_ (i := 3) (N := some 25) #[true, true, true, true, false] rfl rfl (by kernel_rfl) (by decide) (fun K hK => ?_)
    refine goes_ Tryd.func35 (by kernel_rfl) rfl #[.agg #[.slice Ao43 t514.length co43, .int .i64 t517, .bool t518], .agg #[.slice Ao49 t521.length co49, .int .i64 t524, .bool t525]] (by rfl) rfl rfl (by (try simp only [List.map_toArray, List.map_cons, List.map_nil]); first | done | rfl | (simp only [List.length_drop, List.length_take]; rfl)) ?_
    with_reducible refine (laws_eqCollator.calls k _ _ t514 t517 t518 _ _ t521 t524 t525 false _ ?side1 ?side2 ?side3 ?side4 A13.out).mono ?_
    (case side1 => repeat (first | exact (Kd.S_reads' HO516.out).2.2 | (with_reducible refine Kd.C_alloc ?_ _) | (with_reducible refine Kd.C_drewN ?_ _) | (with_reducible refine Kd.C_drew ?_)))
    (case side2 => exact (Kd.S_reads' HO516.out).2.1)
    (case side3 => repeat (first | exact (Kd.S_reads' HO523.out).2.2 | (with_reducible refine Kd.C_alloc ?_ _) | (with_reducible refine Kd.C_drewN ?_ _) | (with_reducible refine Kd.C_drew ?_)))
    (case side4 => exact (Kd.S_reads' HO523.out).2.1)
    rintro e w50 ⟨rfl, hb⟩
    refine ⟨_, rfl, ?_⟩
    replace HO510 := am (Kd.S_below (by (with_reducible repeat (first | apply Kd.S_alloc | apply Kd.S_drewN | apply Kd.S_drew)); exact HO510.out) hb)
    replace HO516 := am (Kd.S_below (by (with_reducible repeat (first | apply Kd.S_alloc | apply Kd.S_drewN | apply Kd.S_drew)); exact HO516.out) hb)
    replace HO523 := am (Kd.S_below (by (with_reducible repeat (first | apply Kd.S_alloc | apply Kd.S_drewN | apply Kd.S_drew)); exact HO523.out) hb)
    replace BK506 := am (blk_below (g := gb506) (o := .cells #[.slice A0_0 l0_0.length c0_0, .int .i64 a0_1, .bool a0_2] 43 (0, 0)) (bk BK506.out) hb)
    replace BK519 := am (blk_below (g := gb519) (o := .cells #[.slice Ao43 t514.length co43, .int .i64 t517, .bool t518] 48 (0, 0)) (bk BK519.out) hb)
    replace HB := am (below_step bS hb)
    (try clear hb)
    (try clear hb2)
    (try clear hk)
    (try clear hi)
    refine hK.out _ _ ⟨(blk_cell BK519.out 0).trans rfl, (blk_cell BK519.out 1).trans rfl, (blk_cell BK519.out 2).trans rfl, (blk_cell BK506.out 0).trans rfl, (blk_cell BK506.out 1).trans rfl, (blk_cell BK506.out 2).trans rfl⟩ (fun hHeld => ?_)
    clear hK K
    refine norm_ (a' := ?_) ?_ ?_
    rotate_left
    ·show Act.put _ (some 25) _ = _
     simp only [Act.put, List.setIfInBounds_toArray, List.set_cons_zero, List.set_cons_succ, i64_w, i32_w]
     rfl
    refine pure_ (i := 4) (N := some 26) (v := ?_) (a' := ?_) #[true, true, true, true, true] rfl rfl (by kernel_rfl) (fun _ _ _ h => h) (Or.inl ⟨by rfl, ?_⟩) ?_ ?_
    rotate_left
    ·intro w'
     go_simp
     with_reducible rfl
    rotate_left
    ·simp only [Act.put, List.setIfInBounds_toArray, List.set_cons_zero, List.set_cons_succ, i64_w, i32_w]
     rfl
    refine done_ (by kernel_rfl) ?_
    try go_wp2
    go_ret
    exact ⟨rv, bS⟩
  ·rw [if_neg c11] at H
   have c11b0 : (t520 == t513) = false := beq_eq_false_iff_ne.mpr c11
   have c11b1 : (t520 != t513) = true := bne_iff_ne.mpr c11
   obtain rfl := Option.some.inj H
   go_enter Tryd.func11, Tryd.ntmps11
   go_wp2_with (first | ((with_reducible refine gate_dst (N := 1) rfl ?_); refine bx 1 #[.slice A0_0 l0_0.length c0_0, .int .i64 a0_1, .bool a0_2] 43 ?_; intro gb506 hg w51 hbox hb; have BK506 := am (hbox); have GW506 := am ((by rw [hg]; exact (below_size bB) : w.heap.size ≤ gb506)); have GE506 := am ((by rw [hg]; exact (below_size bB) : w.heap.size ≤ gb506)); replace HB := am (below_step bB hb); clear hb hbox hg; have hcz52_0 := bc BK506.out 0 (.slice A0_0 l0_0.length c0_0); have hcz52_1 := bc BK506.out 1 (.int .i64 a0_1); have hcz52_2 := bc BK506.out 2 (.bool a0_2); have hfz52_0 := blk_frozen BK506.out 0; have hfz52_1 := blk_frozen BK506.out 1; have hfz52_2 := blk_frozen BK506.out 2) | ((with_reducible refine gate_callee (f := 31) rfl ?_); refine gl 9 Tryd.func31 #[.agg #[.slice A0_0 l0_0.length c0_0, .int .i64 a0_1, .bool a0_2], .int .i64 1048576] ?_; (with_reducible refine (laws_szCollator.calls k _ _ l0_0 a0_1 a0_2 1048576 t507 _ ?side1 ?side2 A2.out).mono ?_); (case side1 => exact cC (Kd.C_below HR0_0.out HB.out)); (case side2 => exact HC0_0.out); rintro e w53 ⟨rfl, hb⟩; refine ⟨_, rfl, ?_⟩; replace BK506 := am (blk_below (g := gb506) (o := .cells #[.slice A0_0 l0_0.length c0_0, .int .i64 a0_1, .bool a0_2] 43 (0, 0)) (bk BK506.out) hb); replace HB := am (below_step bS hb); (try clear hb); (try clear hb2); (try clear hk); (try clear hi); have hcz54_0 := bc BK506.out 0 (.slice A0_0 l0_0.length c0_0); have hcz54_1 := bc BK506.out 1 (.int .i64 a0_1); have hcz54_2 := bc BK506.out 2 (.bool a0_2); have hfz54_0 := blk_frozen BK506.out 0; have hfz54_1 := blk_frozen BK506.out 1; have hfz54_2 := blk_frozen BK506.out 2) | ((with_reducible refine gate_callee (f := 33) rfl ?_); refine gl 13 Tryd.func33 #[.agg #[.slice A0_0 l0_0.length c0_0, .int .i64 a0_1, .bool a0_2]] ?_; (with_reducible refine (laws_toCollator.calls k _ _ l0_0 a0_1 a0_2 t508 t511 t512 _ ?side1 ?side2 A7.out).mono ?_); (case side1 => exact cC (Kd.C_below HR0_0.out HB.out)); (case side2 => exact HC0_0.out); rintro e w55 ⟨v509, rfl, ho0, hb⟩; refine ⟨_, rfl, ?_⟩; have HO510 := am (Kd.S_lower ho0 (below_size bS)); replace BK506 := am (blk_below (g := gb506) (o := .cells #[.slice A0_0 l0_0.length c0_0, .int .i64 a0_1, .bool a0_2] 43 (0, 0)) (bk BK506.out) hb); replace HB := am (below_step bS hb); (try clear hb); (try clear hb2); (try clear hk); (try clear hi); (try clear ho0); obtain ⟨Ao56, co56, eo56⟩ := Kd.S_slice HO510.out; subst eo56) | ((with_reducible refine gate_callee (f := 32) rfl ?_); refine gl 14 Tryd.func32 #[.agg #[.slice Ao56 t508.length co56, .int .i64 t511, .bool t512]] ?_; (with_reducible refine (spec_CollatorFault.calls k _ _ t508 t511 t512 t513 _ ?side1 ?side2 A8.out).mono ?_); (case side1 => repeat (first | exact (Kd.S_reads' HO510.out).2.2 | (with_reducible refine Kd.C_alloc ?_ _) | (with_reducible refine Kd.C_drewN ?_ _) | (with_reducible refine Kd.C_drew ?_))); (case side2 => exact (Kd.S_reads' HO510.out).2.1); rintro e w57 ⟨rfl, hb⟩; refine ⟨_, rfl, ?_⟩; replace HO510 := am (Kd.S_below (by (with_reducible repeat (first | apply Kd.S_alloc | apply Kd.S_drewN | apply Kd.S_drew)); exact HO510.out) hb); replace BK506 := am (blk_below (g := gb506) (o := .cells #[.slice A0_0 l0_0.length c0_0, .int .i64 a0_1, .bool a0_2] 43 (0, 0)) (bk BK506.out) hb); replace HB := am (below_step bS hb); (try clear hb); (try clear hb2); (try clear hk); (try clear hi); have hcz58_0 := bc BK506.out 0 (.slice A0_0 l0_0.length c0_0); have hcz58_1 := bc BK506.out 1 (.int .i64 a0_1); have hcz58_2 := bc BK506.out 2 (.bool a0_2); have hfz58_0 := blk_frozen BK506.out 0; have hfz58_1 := blk_frozen BK506.out 1; have hfz58_2 := blk_frozen BK506.out 2) | ((with_reducible refine gate_callee (f := 33) rfl ?_); refine gl 16 Tryd.func33 #[.agg #[.slice A0_0 l0_0.length c0_0, .int .i64 a0_1, .bool a0_2]] ?_; (with_reducible refine (laws_toCollator.calls k _ _ l0_0 a0_1 a0_2 t514 t517 t518 _ ?side1 ?side2 A9.out).mono ?_); (case side1 => exact cC (Kd.C_below HR0_0.out HB.out)); (case side2 => exact HC0_0.out); rintro e w59 ⟨v515, rfl, ho0, hb⟩; refine ⟨_, rfl, ?_⟩; have HO516 := am (Kd.S_lower (Kd.S_new' ho0 (Kd.S_lt (by (with_reducible repeat (first | apply Kd.S_alloc | apply Kd.S_drewN | apply Kd.S_drew)); exact HO510.out))) (below_size bS)); replace HO510 := am (Kd.S_elder' (by (with_reducible repeat (first | apply Kd.S_alloc | apply Kd.S_drewN | apply Kd.S_drew)); exact HO510.out) (Kd.S_base ho0) hb); replace BK506 := am (blk_below (g := gb506) (o := .cells #[.slice A0_0 l0_0.length c0_0, .int .i64 a0_1, .bool a0_2] 43 (0, 0)) (bk BK506.out) hb); replace HB := am (below_step bS hb); (try clear hb); (try clear hb2); (try clear hk); (try clear hi); (try clear ho0)) | ((with_reducible refine gate_dst (N := 5) rfl ?_); refine bx 5 #[.slice none 0 0, .int .i64 0, .bool false] 48 ?_; intro gb519 hg w60 hbox hb; replace HO510 := am (Kd.S_below (by (with_reducible repeat (first | apply Kd.S_alloc | apply Kd.S_drewN | apply Kd.S_drew)); exact HO510.out) hb); replace HO516 := am (Kd.S_below (by (with_reducible repeat (first | apply Kd.S_alloc | apply Kd.S_drewN | apply Kd.S_drew)); exact HO516.out) hb); have BK519 := am (hbox); have GW519 := am ((by rw [hg]; exact (below_size bS) : w.heap.size ≤ gb519)); have GE519 := am ((by rw [hg]; exact (below_size bS) : w.heap.size ≤ gb519)); replace HB := am (below_step bS hb); have NB506_519 := am ((by rw [hg]; exact Nat.ne_of_lt (blk_lt (g := gb506) (o := .cells #[.slice A0_0 l0_0.length c0_0, .int .i64 a0_1, .bool a0_2] 43 (0, 0)) (bk BK506.out)) : gb506 ≠ gb519)); have NB519_506 := am ((by rw [hg]; exact Nat.ne_of_gt (blk_lt (g := gb506) (o := .cells #[.slice A0_0 l0_0.length c0_0, .int .i64 a0_1, .bool a0_2] 43 (0, 0)) (bk BK506.out)) : gb519 ≠ gb506)); replace BK506 := am (blk_below (g := gb506) (o := .cells #[.slice A0_0 l0_0.length c0_0, .int .i64 a0_1, .bool a0_2] 43 (0, 0)) (bk BK506.out) hb); clear hb hbox hg; obtain ⟨Ao61, co61, eo61⟩ := Kd.S_slice HO516.out; subst eo61; have hnb62 := NB519_506.out; have hnc62 := NB506_519.out; have hcz63_0 := bc BK519.out 0 (.slice none 0 0); have hcz63_1 := bc BK519.out 1 (.int .i64 0); have hcz63_2 := bc BK519.out 2 (.bool false); have hfz63_0 := blk_frozen BK519.out 0; have hfz63_1 := blk_frozen BK519.out 1; have hfz63_2 := blk_frozen BK519.out 2) | ((with_reducible refine gate_callee (f := 34) rfl ?_); refine gl 18 Tryd.func34 #[.agg #[.slice Ao61 t514.length co61, .int .i64 t517, .bool t518]] ?_; (with_reducible refine (impl_CollatorFault.calls k _ _ t514 t517 t518 t520 _ ?side1 ?side2 ?side3 A10.out).mono ?_); (case side1 => refine (Kd.S_reads' (e := 72) (base := w.heap.size) (ok := fun k_ => (True ∧ some k_ ≠ (.slice Ao56 t508.length co56 : Value).ownBlock)) (n := t514.length) (c := co61) ?_).2.2; exact (by (with_reducible repeat (first | apply Kd.S_alloc | apply Kd.S_drewN | apply Kd.S_drew)); exact (Kd.S_mono (Kd.S_far (p := ⟨gb519, 2, none⟩) (Kd.S_far (p := ⟨gb519, 1, none⟩) (Kd.S_far (p := ⟨gb519, 0, none⟩) (Kd.S_types HO516.out BK519.out (by decide)) (fun _ hk => hk.2) (.slice Ao61 t514.length co61)) (fun _ hk => hk.2) (.int .i64 t517)) (fun _ hk => hk.2) (.bool t518)) (fun _ h_ => h_.1)))); (case side2 => exact (Kd.S_reads' HO516.out).2.1); (case side3 => first | exact HGL.out | exact GL_below HGL.out bS); rintro e w64 ⟨rfl, hb⟩; refine ⟨_, rfl, ?_⟩; replace HO510 := am (Kd.S_below (by (with_reducible repeat (first | apply Kd.S_alloc | apply Kd.S_drewN | apply Kd.S_drew)); exact (Kd.S_mono (Kd.S_far (p := ⟨gb519, 2, none⟩) (Kd.S_far (p := ⟨gb519, 1, none⟩) (Kd.S_far (p := ⟨gb519, 0, none⟩) (Kd.S_types HO510.out BK519.out (by decide)) (fun _ hk => hk.2) (.slice Ao61 t514.length co61)) (fun _ hk => hk.2) (.int .i64 t517)) (fun _ hk => hk.2) (.bool t518)) (fun _ h_ => h_.1))) hb); replace HO516 := am (Kd.S_below (by (with_reducible repeat (first | apply Kd.S_alloc | apply Kd.S_drewN | apply Kd.S_drew)); exact (Kd.S_mono (Kd.S_far (p := ⟨gb519, 2, none⟩) (Kd.S_far (p := ⟨gb519, 1, none⟩) (Kd.S_far (p := ⟨gb519, 0, none⟩) (Kd.S_types HO516.out BK519.out (by decide)) (fun _ hk => hk.2) (.slice Ao61 t514.length co61)) (fun _ hk => hk.2) (.int .i64 t517)) (fun _ hk => hk.2) (.bool t518)) (fun _ h_ => h_.1))) hb); replace BK506 := am (blk_below (g := gb506) (o := .cells #[.slice A0_0 l0_0.length c0_0, .int .i64 a0_1, .bool a0_2] 43 (0, 0)) (by (with_reducible repeat (first | refine blk_drewN ?_ _ | refine blk_drew ?_ | refine blk_alloc ?_ _)); refine blk_far ?_ NB506_519.out _; (with_reducible repeat (first | refine blk_drewN ?_ _ | refine blk_drew ?_ | refine blk_alloc ?_ _)); refine blk_far ?_ NB506_519.out _; (with_reducible repeat (first | refine blk_drewN ?_ _ | refine blk_drew ?_ | refine blk_alloc ?_ _)); refine blk_far ?_ NB506_519.out _; (with_reducible repeat (first | refine blk_drewN ?_ _ | refine blk_drew ?_ | refine blk_alloc ?_ _)); exact BK506.out) hb); replace BK519 := am (blk_below (g := gb519) (o := .cells #[.slice Ao61 t514.length co61, .int .i64 t517, .bool t518] 48 (0, 0)) (by (with_reducible repeat (first | refine blk_drewN ?_ _ | refine blk_drew ?_ | refine blk_alloc ?_ _)); refine blk_put (cs := #[.slice Ao61 t514.length co61, .int .i64 t517, .bool false]) ?_ 2 _ rfl; (with_reducible repeat (first | refine blk_drewN ?_ _ | refine blk_drew ?_ | refine blk_alloc ?_ _)); refine blk_put (cs := #[.slice Ao61 t514.length co61, .int .i64 0, .bool false]) ?_ 1 _ rfl; (with_reducible repeat (first | refine blk_drewN ?_ _ | refine blk_drew ?_ | refine blk_alloc ?_ _)); refine blk_put (cs := #[.slice none 0 0, .int .i64 0, .bool false]) ?_ 0 _ rfl; (with_reducible repeat (first | refine blk_drewN ?_ _ | refine blk_drew ?_ | refine blk_alloc ?_ _)); exact BK519.out) hb); replace HB := am (below_step bS hb); (try clear hb); (try clear hb2); (try clear hk); (try clear hi)))
   go_ret
   exact ⟨rv, bS⟩
def Q111 (x : S111) : Prop := (Lit.int .i64 x.f0).wf = true ∧ (Lit.int .i64 x.f1).wf = true ∧ (Lit.int .i64 x.f2).wf = true
def Q91 (x : S91) : Prop := x.f0.size ≤ maxLen ∧ (x.f1.length ≤ maxLen ∧ ∀ y ∈ x.f1, Q111 y)
def laws_FnExactCollatorFault.Pure : Prop := ∀ (l0_0 : List (S91)) (a0_1 : Int) (a0_2 : Bool), ((l0_0.length ≤ maxLen ∧ ∀ y ∈ l0_0, Q91 y)) → ((Lit.int .i64 a0_1).wf = true) → ∃ k, laws_FnExactCollatorFault.f k l0_0 a0_1 a0_2 = some true
end Go.Proofs.YtnbedmihgnjdpaaDoor.PFnExactCollatorFault

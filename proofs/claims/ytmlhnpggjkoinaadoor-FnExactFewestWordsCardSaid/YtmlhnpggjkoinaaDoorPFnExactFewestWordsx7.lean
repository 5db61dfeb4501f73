-- Written by a program of this session (wip/tools/myprint.py) that runs the kit's print with hooks of its own. Lean checks it.
import Derived.Test.YtmlhnpggjkoinaaDoorPFnExactFewestWordsx0
import Derived.Test.YtmlhnpggjkoinaaDoorSlimMore
import Derived.Test.YtmlhnpggjkoinaaDoorSlimStep
import Derived.Test.YtmlhnpggjkoinaaDoorPFnExactFewestWordsx4
import Derived.Test.YtmlhnpggjkoinaaDoorPFnExactFewestWordsx5
import Derived.Test.YtmlhnpggjkoinaaDoorPFnExactFewestWordsx6
namespace Go.Proofs.YtmlhnpggjkoinaaDoor.PFnExactFewestWords
open Go.RowKit Go.Proofs.YtmlhnpggjkoinaaDoorW.PrintWords Go.Proofs.YtmlhnpggjkoinaaDoorW.PrintLast Go.Proofs.YtmlhnpggjkoinaaDoorW.PrintMore
attribute [local go_sem] max2_int min2_int max_two min_two max_three min_three max_four min_four   -- for this text's walks alone
set_option linter.unusedVariables false
set_option linter.unusedSimpArgs false

/-! ### spec_l08Cut: function 77 -/
def spec_l08Cut.l0 : Nat → ByteArray → List Int → List ByteArray → Int → Int → List Int → List Int → Option (List ByteArray)
  | 0, _, _, _, _, _, _, _ => none
  | k + 1, x1, x6, x7, x8, x9, x234000, x234001 => if x9 < (x6.length : Int) then (if 0 ≤ x8 then (if x8 < (x234001.length : Int) then (if 0 ≤ x9 then (if 0 ≤ (wrap64 (x8 + (rd x6 x9))) then (if (wrap64 (x8 + (rd x6 x9))) < (x234001.length : Int) then (if 0 ≤ (rd x234001 x8) then (if (rd x234001 x8) ≤ (rd x234001 (wrap64 (x8 + (rd x6 x9)))) then (if (rd x234001 (wrap64 (x8 + (rd x6 x9)))) ≤ (x1.size : Int) then (if x7.length < 8796093022208 then (spec_l08Cut.l0 k x1 x6 (x7 ++ [x1.extract ((rd x234001 x8) : Int).toNat ((rd x234001 (wrap64 (x8 + (rd x6 x9)))) : Int).toNat]) (wrap64 (x8 + (rd x6 x9))) (wrap64 (x9 + 1)) x234000 x234001) else (none)) else (none)) else (none)) else (none)) else (none)) else (none)) else (none)) else (none)) else (none)) else (some x7)
def spec_l08Cut.f (k : Nat) (l0 : List ByteArray) (a1 : ByteArray) : Option (List ByteArray) := (spec_l07RowOf.f k a1).bind fun bt227 => ((spec_l08Fewest.f k l0 bt227.1 bt227.2 a1).bind fun t234 => (spec_l08Cut.l0 k a1 t234 (([] : List ByteArray)) 0 0 bt227.1 bt227.2))
theorem spec_l08Cut.mono_l : ∀ k, (∀ y0 y1 y2 y3 y4 y5 y6, LeO (spec_l08Cut.l0 k y0 y1 y2 y3 y4 y5 y6) (spec_l08Cut.l0 (k + 1) y0 y1 y2 y3 y4 y5 y6))
  | 0 => fun _ _ _ _ _ _ _ r h => by simp [spec_l08Cut.l0] at h
  | k + 1 => by
    have ih0 := spec_l08Cut.mono_l k
    · intro y0 y1 y2 y3 y4 y5 y6
      unfold spec_l08Cut.l0
      repeat' first
      | (with_reducible exact ih0 _ _ _ _ _ _ _)
      | (with_reducible exact spec_l07RowOf.mono _ _)
      | (with_reducible exact spec_l08Fewest.mono _ _ _ _ _)
      | (with_reducible exact LeO.refl _)
      | (with_reducible exact LeO.none _)
      | (with_reducible refine LeO.ite ?_ ?_)
      | (with_reducible refine LeO.bind ?_ (fun _ => ?_))
      | exact ih0 _ _ _ _ _ _ _
      | exact spec_l07RowOf.mono _ _
      | exact spec_l08Fewest.mono _ _ _ _ _
      | exact LeO.none _
      | refine LeO.ite ?_ ?_
      | refine LeO.bind ?_ (fun _ => ?_)
theorem spec_l08Cut.mono : ∀ a0 a1 k, LeO (spec_l08Cut.f k a0 a1) (spec_l08Cut.f (k + 1) a0 a1) := by
  intro a0 a1 k
  have ih0 := spec_l08Cut.mono_l k
  unfold spec_l08Cut.f
  repeat' first
      | (with_reducible exact ih0 _ _ _ _ _ _ _)
      | (with_reducible exact spec_l07RowOf.mono _ _)
      | (with_reducible exact spec_l08Fewest.mono _ _ _ _ _)
      | (with_reducible exact LeO.refl _)
      | (with_reducible exact LeO.none _)
      | (with_reducible refine LeO.ite ?_ ?_)
      | (with_reducible refine LeO.bind ?_ (fun _ => ?_))
      | exact ih0 _ _ _ _ _ _ _
      | exact spec_l07RowOf.mono _ _
      | exact spec_l08Fewest.mono _ _ _ _ _
      | exact LeO.none _
      | refine LeO.ite ?_ ?_
      | refine LeO.bind ?_ (fun _ => ?_)
def spec_l08Cut.T8 : Bool × List (List Nat × List Nat) := (true, [([], []), ([], []), ([], []), ([2], [2]), ([], []), ([3, 4], [3, 4]), ([5], [5]), ([], []), ([7], [7]), ([], []), ([], []), ([], []), ([10, 11], [10, 11]), ([12], [12]), ([9, 13], [9, 13]), ([8, 14], [8, 14]), ([15], [15]), ([1, 6, 16], [1, 6, 16]), ([17], [17]), ([0, 18], [0, 18]), ([19, 19, 0, 1, 2, 3, 4, 5, 6, 7, 8, 9, 10, 11, 12, 13, 14, 15, 16, 17, 18, 19], [0, 19])])
def spec_l08Cut.B8 : List Nat := [0, 0, 0, 4, 0, 28, 60, 0, 128, 0, 0, 0, 3072, 7168, 15872, 32640, 65408, 131070, 262142, 524287, 1048575]
theorem spec_l08Cut.tab8 : rtab .any (opsOf Tryd.f77 8) = spec_l08Cut.T8 := by kernel_rfl
theorem spec_l08Cut.bits8 : waitsOk spec_l08Cut.T8.2 spec_l08Cut.B8 = true := by kernel_rfl
set_option maxHeartbeats 8000000 in
set_option maxRecDepth 100000 in
theorem spec_l08Cut.calls (k : Nat) (A0 : Option Addr) (c0 : Nat) (l0 : List ByteArray) (a1 : ByteArray) (r : List ByteArray) (w : World) (hr0 : Kd.C Kd.string w A0 l0.length l0) (hc0 : l0.length ≤ c0) (h : spec_l08Cut.f k l0 a1 = some r) :
    Calls Tryd.prog 77 #[.slice A0 l0.length c0, .string a1] w fun e w' => ∃ v0_ : Value, e = .returned (v0_) ∧ Kd.R Kd.string 9 w' w.heap.size (fun _ => True) v0_ r ∧ Below w.heap.size w w' := by
  have hu76 := Tryd.underlying76
  have HR0 := am hr0
  have HC0 := am hc0
  clear hr0 hc0
  have HB := am (Below.refl w.heap.size w)
  have H : ((spec_l07RowOf.f k a1).bind fun bt227 => ((spec_l08Fewest.f k l0 bt227.1 bt227.2 a1).bind fun t234 => (spec_l08Cut.l0 k a1 t234 (([] : List ByteArray)) 0 0 bt227.1 bt227.2))) = some r := h
  clear h
  replace H := Option.bind_eq_some_iff.mp H
  obtain ⟨⟨t227, t230⟩, A30, H⟩ := H
  replace H : ((spec_l08Fewest.f k l0 t227 t230 a1).bind fun t234 => (spec_l08Cut.l0 k a1 t234 (([] : List ByteArray)) 0 0 t227 t230)) = some r := H
  have A3 := am A30
  clear A30
  replace H := Option.bind_eq_some_iff.mp H
  obtain ⟨t234, A40, H⟩ := H
  replace H : (spec_l08Cut.l0 k a1 t234 (([] : List ByteArray)) 0 0 t227 t230) = some r := H
  have A4 := am A40
  clear A40
  obtain ⟨y237, hy237⟩ : ∃ y_ : List ByteArray, y_ = (([] : List ByteArray)) := ⟨_, rfl⟩
  replace H : (spec_l08Cut.l0 k a1 t234 y237 0 0 t227 t230) = some r := by first | (rw [hy237]; with_reducible exact H) | (have H2_ := (Option.bind_some _ _).symm.trans H; rw [hy237]; with_reducible exact H2_) | (have H2_ := (Option.bind_some _ _).symm.trans H; with_reducible exact H2_) | with_reducible exact H | (rw [hy237]; exact H) | exact H
  have Ny237 := am hy237
  clear hy237
  have H' := am H
  clear H
  go_enter Tryd.func77, Tryd.ntmps77
  go_wp2_with (first | ((with_reducible refine gate_callee (f := 79) rfl ?_); refine gl 11 Tryd.func79 #[.string a1] ?_; (with_reducible refine (spec_l07RowOf.calls k a1 t227 t230 _ A3.out).mono ?_); rintro e w5 ⟨v228, v231, rfl, ho0, ho1, hb⟩; refine ⟨_, rfl, ?_⟩; have HO229 := am (Kd.R_lower ho0 (below_size bB)); have HO232 := am (Kd.R_lower ho1 (below_size bB)); replace HB := am (below_step bB hb); (try clear hb); (try clear hb2); (try clear hk); (try clear hi); (try clear ho0); (try clear ho1)) | ((with_reducible refine gate_dst (N := 5) rfl ?_); refine bx 5 #[.slice none 0 0, .slice none 0 0] 76 ?_; intro gb233 hg w6 hbox hb; replace HO229 := am (Kd.R_below (kR HO229.out) hb); replace HO232 := am (Kd.R_below (kR HO232.out) hb); have BK233 := am (hbox); have GW233 := am ((by rw [hg]; exact (below_size bB) : w.heap.size ≤ gb233)); have GE233 := am ((by rw [hg]; exact (below_size bB) : w.heap.size ≤ gb233)); replace HB := am (below_step bB hb); clear hb hbox hg; obtain ⟨Ao7, co7, eo7⟩ := Kd.R_slice HO229.out; subst eo7; have hcz8_0 := bc BK233.out 0 (.slice none 0 0); have hcz8_1 := bc BK233.out 1 (.slice none 0 0); have hfz8_0 := blk_frozen BK233.out 0; have hfz8_1 := blk_frozen BK233.out 1; obtain ⟨Ao9, co9, eo9⟩ := Kd.R_slice HO232.out; subst eo9) | ((with_reducible refine gate_callee (f := 107) rfl ?_); refine gl 15 Tryd.func107 #[.slice A0 l0.length c0, .agg #[.slice Ao7 t227.length co7, .slice Ao9 t230.length co9], .string a1] ?_; (with_reducible refine (spec_l08Fewest.calls k _ _ l0 _ _ t227 _ _ t230 a1 t234 _ ?side1 ?side2 ?side3 ?side4 ?side5 ?side6 A4.out).mono ?_); (case side1 => exact Kd.C_below HR0.out bS); (case side2 => exact HC0.out); (case side3 => refine (Kd.R_reads' (e := 2) (base := w.heap.size) (ok := fun k_ => some k_ ≠ (.slice Ao9 t230.length co9 : Value).ownBlock) (n := t227.length) (c := co7) ?_).2.2; exact (kR ((Kd.R_mono (Kd.R_far (p := ⟨gb233, 1, none⟩) (Kd.R_far (p := ⟨gb233, 0, none⟩) (Kd.R_types HO229.out BK233.out (by decide)) (fun _ hk => hk.2) (.slice Ao7 t227.length co7)) (fun _ hk => hk.2) (.slice Ao9 t230.length co9)) (fun _ h_ => h_.1))))); (case side4 => exact (Kd.R_reads' HO229.out).2.1); (case side5 => refine (Kd.R_reads' (e := 2) (base := w.heap.size) (ok := fun k_ => some k_ ≠ (.slice Ao7 t227.length co7 : Value).ownBlock) (n := t230.length) (c := co9) ?_).2.2; exact (kR ((Kd.R_mono (Kd.R_far (p := ⟨gb233, 1, none⟩) (Kd.R_far (p := ⟨gb233, 0, none⟩) (Kd.R_types HO232.out BK233.out (by decide)) (fun _ hk => hk.2) (.slice Ao7 t227.length co7)) (fun _ hk => hk.2) (.slice Ao9 t230.length co9)) (fun _ h_ => h_.1))))); (case side6 => exact (Kd.R_reads' HO232.out).2.1); rintro e w10 ⟨v235, rfl, ho0, hb⟩; refine ⟨_, rfl, ?_⟩; replace HO229 := am (Kd.R_below (kR ((Kd.R_mono (Kd.R_far (p := ⟨gb233, 1, none⟩) (Kd.R_far (p := ⟨gb233, 0, none⟩) (Kd.R_types HO229.out BK233.out (by decide)) (fun _ hk => hk.2) (.slice Ao7 t227.length co7)) (fun _ hk => hk.2) (.slice Ao9 t230.length co9)) (fun _ h_ => h_.1)))) hb); replace HO232 := am (Kd.R_below (kR ((Kd.R_mono (Kd.R_far (p := ⟨gb233, 1, none⟩) (Kd.R_far (p := ⟨gb233, 0, none⟩) (Kd.R_types HO232.out BK233.out (by decide)) (fun _ hk => hk.2) (.slice Ao7 t227.length co7)) (fun _ hk => hk.2) (.slice Ao9 t230.length co9)) (fun _ h_ => h_.1)))) hb); have HO236 := am (Kd.R_lower ho0 (below_size bS)); replace BK233 := am (blk_below (g := gb233) (o := .cells #[.slice Ao7 t227.length co7, .slice Ao9 t230.length co9] 76 (0, 0)) (by (with_reducible repeat (first | refine blk_drewN ?_ _ | refine blk_drew ?_ | refine blk_alloc ?_ _)); refine blk_put (cs := #[.slice Ao7 t227.length co7, .slice none 0 0]) ?_ 1 _ rfl; (with_reducible repeat (first | refine blk_drewN ?_ _ | refine blk_drew ?_ | refine blk_alloc ?_ _)); refine blk_put (cs := #[.slice none 0 0, .slice none 0 0]) ?_ 0 _ rfl; (with_reducible repeat (first | refine blk_drewN ?_ _ | refine blk_drew ?_ | refine blk_alloc ?_ _)); exact BK233.out) hb); replace HB := am (below_step bS hb); (try clear hb); (try clear hb2); (try clear hk); (try clear hi); (try clear ho0)) | ((with_reducible refine gate_dst (N := 16) rfl ?_); refine Kd.R_lit Kd.string _ 9 ?hg (N := 16) ?hd (xs := ([] : List ByteArray)) (inner := []) (ok := fun _ => True) (okp := fun _ => True) ?hr ?hp (fun _ hk => hk) trivial (Below.refl _ _) (Nat.le_refl _) (by simp) ?_; (case hd => rfl); (case hg => rfl); (case hr => first | (go_simp; done) | (go_simp; rfl)); (case hp => exact (Reps.none _ _)); intro v238 w11 ho12 hb hg_ hnew_; clear hg_ hnew_; (first | rw [← Ny237.out] at ho12 | (simp only [Int.reduceToNat] at ho12; rw [← Ny237.out] at ho12)); replace HO229 := am (Kd.R_below (kR HO229.out) hb); replace HO232 := am (Kd.R_below (kR HO232.out) hb); replace HO236 := am (Kd.R_below (kR HO236.out) hb); have HO239 := am (Kd.R_lower ho12 (below_size bS)); replace BK233 := am (blk_below (g := gb233) (o := .cells #[.slice Ao7 t227.length co7, .slice Ao9 t230.length co9] 76 (0, 0)) (bk BK233.out) hb); replace HB := am (below_step bS hb); clear hb ho12))
  go_loopg [7, 8, 9] k (fun kq v7 v8 v9 w' => ∃ (x7_1 : List ByteArray) (x8_1 : Int) (x9_1 : Int), v8 = .int .i64 x8_1 ∧ v9 = .int .i64 x9_1 ∧ Aside0 (spec_l08Cut.l0 kq a1 t234 x7_1 x8_1 x9_1 t227 t230 = some r) ∧ Aside0 (kq ≤ k) ∧ Aside0 (Kd.R (Kd.int .i64) 3 w' w.heap.size (fun _ => True) v235 t234) ∧ Aside0 (Kd.R Kd.string 9 w' w.heap.size (fun _ => True) v7 x7_1) ∧ Aside0 (Kd.R (Kd.int .i64) 2 w' w.heap.size (fun k_ => some k_ ≠ ((.slice Ao9 t230.length co9) : Value).ownBlock) (.slice Ao7 t227.length co7) t227) ∧ Aside0 (Kd.R (Kd.int .i64) 2 w' w.heap.size (fun k_ => some k_ ≠ ((.slice Ao7 t227.length co7) : Value).ownBlock) (.slice Ao9 t230.length co9) t230) ∧ Aside0 (w'.heap[gb233]? = some (.cells #[(.slice Ao7 t227.length co7), (.slice Ao9 t230.length co9)] 76 (0, 0))) ∧ Aside0 (Below w.heap.size w w'))
  case atStart => exact ⟨(y237), (0), (0), (by first | rfl | (simp; done) | (simp [*]; done)), (by first | rfl | (simp; done) | (simp [*]; done)), H', ⟨Nat.le_refl _⟩, ⟨kR HO236.out⟩, ⟨kR HO239.out⟩, ⟨kR HO229.out⟩, ⟨kR HO232.out⟩, ⟨bk BK233.out⟩, ⟨bS⟩⟩
  case round =>
    clear H'
    try clear c1
    try clear p2
    try clear c7
    try clear c10
    try clear hcz8_0
    try clear hcz8_1
    try clear hfz8_0
    try clear hfz8_1
    obtain ⟨x7_1, x8_1, x9_1, rfl, rfl, HA, HK1, HO_6, HO_7, HO_234000, HO_234001, BK233, HB⟩ := hrel
    cases gk with
    | zero => exact absurd HA.out (by simp [spec_l08Cut.l0])
    | succ k1 =>
      have H := HA.out
      clear HA
      simp only [spec_l08Cut.l0] at H
      by_cases c13 : x9_1 < (t234.length : Int)
      · rw [if_pos c13] at H
        have c13b0 : decide (x9_1 < (t234.length : Int)) = true := decide_eq_true c13
        clear c13
        by_cases c14 : 0 ≤ x8_1
        · rw [if_pos c14] at H
          have c14b0 : decide (0 ≤ x8_1) = true := decide_eq_true c14
          clear c14
          by_cases c15 : x8_1 < (t230.length : Int)
          · rw [if_pos c15] at H
            have c15b0 : decide (x8_1 < (t230.length : Int)) = true := decide_eq_true c15
            clear c15
            by_cases c16 : 0 ≤ x9_1
            · rw [if_pos c16] at H
              have c16b0 : decide (0 ≤ x9_1) = true := decide_eq_true c16
              clear c16
              obtain ⟨ji17, hji17⟩ : ∃ j_ : Int, (wrap64 (x8_1 + (rd t234 x9_1))) = j_ := ⟨_, rfl⟩
              replace H : (if 0 ≤ (ji17) then (if (ji17) < (t230.length : Int) then (if 0 ≤ (rd t230 x8_1) then (if (rd t230 x8_1) ≤ (rd t230 (ji17)) then (if (rd t230 (ji17)) ≤ (a1.size : Int) then (if x7_1.length < 8796093022208 then (spec_l08Cut.l0 k1 a1 t234 (x7_1 ++ [a1.extract ((rd t230 x8_1) : Int).toNat ((rd t230 (ji17)) : Int).toNat]) ji17 (wrap64 (x9_1 + 1)) t227 t230) else (none)) else (none)) else (none)) else (none)) else (none)) else (none)) = some r := by first | (rw [hji17] at H; exact H) | (simp only [hji17] at H ⊢; exact H)
              have hji17w : (IntKind.i64.wrap (x8_1 + (rd t234 x9_1))) = ji17 := (i64_w _).trans hji17
              by_cases c18 : 0 ≤ (ji17)
              · rw [if_pos c18] at H
                have c18b0 : decide (0 ≤ (ji17)) = true := decide_eq_true c18
                clear c18
                by_cases c19 : (ji17) < (t230.length : Int)
                · rw [if_pos c19] at H
                  have c19b0 : decide ((ji17) < (t230.length : Int)) = true := decide_eq_true c19
                  clear c19
                  by_cases c20 : 0 ≤ (rd t230 x8_1)
                  · rw [if_pos c20] at H
                    have c20b0 := eq_true c20
                    have c20b1 : decide (0 ≤ (rd t230 x8_1)) = true := decide_eq_true c20
                    clear c20
                    by_cases c21 : (rd t230 x8_1) ≤ (rd t230 (ji17))
                    · rw [if_pos c21] at H
                      have c21b0 := eq_true c21
                      have c21b1 : decide ((rd t230 x8_1) ≤ (rd t230 (ji17))) = true := decide_eq_true c21
                      clear c21
                      by_cases c22 : (rd t230 (ji17)) ≤ (a1.size : Int)
                      · rw [if_pos c22] at H
                        have c22b0 := eq_true c22
                        have c22b1 : decide ((rd t230 (ji17)) ≤ (a1.size : Int)) = true := decide_eq_true c22
                        clear c22
                        by_cases c23 : x7_1.length < 8796093022208
                        · rw [if_pos c23] at H
                          have LMc23 := am c23
                          clear c23
                          obtain ⟨y243, hy243⟩ : ∃ y_ : List ByteArray, y_ = (x7_1 ++ [a1.extract ((rd t230 x8_1) : Int).toNat ((rd t230 (ji17)) : Int).toNat]) := ⟨_, rfl⟩
                          replace H : (spec_l08Cut.l0 k1 a1 t234 y243 ji17 (wrap64 (x9_1 + 1)) t227 t230) = some r := by first | (rw [hy243]; with_reducible exact H) | (have H2_ := (Option.bind_some _ _).symm.trans H; rw [hy243]; with_reducible exact H2_) | (have H2_ := (Option.bind_some _ _).symm.trans H; with_reducible exact H2_) | with_reducible exact H | (rw [hy243]; exact H) | exact H
                          have Ny243 := am hy243
                          clear hy243
                          have H' := am H
                          clear H
                          obtain ⟨Ao24, co24, eo24⟩ := Kd.R_slice HO_6.out
                          subst eo24
                          try go_wp2
                          replace HO_6 := am (Kd.R_drew HO_6.out)
                          replace HO_7 := am (Kd.R_drew HO_7.out)
                          replace HO_234000 := am (Kd.R_drew HO_234000.out)
                          replace HO_234001 := am (Kd.R_drew HO_234001.out)
                          replace BK233 := am (blk_drew BK233.out)
                          replace HB := am (below_drew1 HB.out)
                          have p240 : 0 ≤ (x8_1 : Int) := od
                          have q240 : x8_1 < (t230.length : Int) := od
                          obtain ⟨ad240, e240, hx240_0⟩ := Kd.at_int (Kd.R_reads' HO_234001.out).2.2 x8_1 p240 q240
                          cases e240
                          replace p240 := eq_true p240
                          replace q240 := eq_true q240
                          have p241 : 0 ≤ (x9_1 : Int) := od
                          have q241 : x9_1 < (t234.length : Int) := od
                          obtain ⟨ad241, e241, hx241_0⟩ := Kd.at_int (Kd.R_reads' HO_6.out).2.2 x9_1 p241 q241
                          cases e241
                          replace p241 := eq_true p241
                          replace q241 := eq_true q241
                          have p242 : 0 ≤ ((ji17) : Int) := od
                          have q242 : (ji17) < (t230.length : Int) := od
                          obtain ⟨ad242, e242, hx242_0⟩ := Kd.at_int (Kd.R_reads' HO_234001.out).2.2 (ji17) p242 q242
                          obtain rfl : ad240 = ad242 := (by injection e242)
                          replace p242 := eq_true p242
                          replace q242 := eq_true q242
                          refine start_ (n := 21) (S := fun w' => w'.cell? ⟨gb233, 0, none⟩ = some (.slice Ao7 t227.length co7) ∧ w'.cell? ⟨gb233, 1, none⟩ = some (.slice (some ad240) t230.length co9) ∧ w'.cell? (ad240.add (x8_1).toNat) = some (.int .i64 (rd t230 x8_1)) ∧ w'.cell? (ad241.add (x9_1).toNat) = some (.int .i64 (rd t234 x9_1)) ∧ w'.cell? (ad240.add ((ji17)).toNat) = some (.int .i64 (rd t230 (ji17)))) (ds := [18, 19]) #[false, false, false, false, false, false, false, false, false, false, false, false, false, false, false, false, false, false, false, false, false] (by kernel_rfl) rfl rfl ⟨(blk_cell BK233.out 0).trans rfl, (blk_cell BK233.out 1).trans rfl, hx240_0, hx241_0, hx242_0⟩ (fun hHeld => ?_); refine with_tabW spec_l08Cut.tab8 spec_l08Cut.bits8 (fun HT_ HW_ => ?_)
                          generalize wr.drew = w25 at HO_6 HO_7 HO_234000 HO_234001 BK233 HB hx240_0 hx241_0 hx242_0 hHeld ⊢
                          refine pq 0 23 HT_.out ?_
                          refine pq 1 24 HT_.out ?_
                          refine pq 2 25 HT_.out ?_
                          refine pq 4 27 HT_.out ?_
                          refine pq 7 30 HT_.out ?_
                          refine pq 9 32 HT_.out ?_
                          refine pq 10 33 HT_.out ?_
                          refine pq 11 34 HT_.out ?_
                          refine pq 12 35 HT_.out ?_
                          refine take_ (i := 3) (N := some 26) (v := ?_) (a' := ?_) #[true, true, true, true, true, false, false, true, false, true, true, true, true, false, false, false, false, false, false, false, false] rfl rfl (take_ofW HT_.out HW_.out (by kernel_rfl)) (fun _ _ _ h => h) (Or.inl ⟨by rfl, ?_⟩) hHeld ?_ ?_
                          rotate_left
                          · rintro w' ⟨s0, s1, s2, s3, s4⟩
                            go_simp
                            with_reducible rfl
                          rotate_left
                          · simp only [Act.put, List.setIfInBounds_toArray, List.set_cons_zero, List.set_cons_succ, i64_w, i32_w]
                            rfl
                          refine pq 5 28 HT_.out ?_
                          refine take_ (i := 6) (N := some 29) (v := ?_) (a' := ?_) #[true, true, true, true, true, true, true, true, false, true, true, true, true, false, false, false, false, false, false, false, false] rfl rfl (take_ofW HT_.out HW_.out (by kernel_rfl)) (fun _ _ _ h => h) (Or.inl ⟨by rfl, ?_⟩) hHeld ?_ ?_
                          rotate_left
                          · rintro w' ⟨s0, s1, s2, s3, s4⟩
                            go_simp
                            with_reducible rfl
                          rotate_left
                          · simp only [Act.put, List.setIfInBounds_toArray, List.set_cons_zero, List.set_cons_succ, i64_w, i32_w]
                            rfl
                          refine take_ (i := 8) (N := some 31) (v := ?_) (a' := ?_) #[true, true, true, true, true, true, true, true, true, true, true, true, true, false, false, false, false, false, false, false, false] rfl rfl (take_ofW HT_.out HW_.out (by kernel_rfl)) (fun _ _ _ h => h) (Or.inl ⟨by rfl, ?_⟩) hHeld ?_ ?_
                          rotate_left
                          · rintro w' ⟨s0, s1, s2, s3, s4⟩
                            go_simp
                            with_reducible rfl
                          rotate_left
                          · simp only [Act.put, List.setIfInBounds_toArray, List.set_cons_zero, List.set_cons_succ, i64_w, i32_w]
                            rfl
                          refine take_ (i := 13) (N := some 36) (v := ?_) (a' := ?_) #[true, true, true, true, true, true, true, true, true, true, true, true, true, true, false, false, false, false, false, false, false] rfl rfl (take_ofW HT_.out HW_.out (by kernel_rfl)) (fun _ _ _ h => h) (Or.inl ⟨by rfl, ?_⟩) hHeld ?_ ?_
                          rotate_left
                          · rintro w' ⟨s0, s1, s2, s3, s4⟩
                            go_simp
                            with_reducible rfl
                          rotate_left
                          · simp only [Act.put, List.setIfInBounds_toArray, List.set_cons_zero, List.set_cons_succ, i64_w, i32_w]
                            rfl
                          refine pq 14 37 HT_.out ?_
                          refine pq 15 38 HT_.out ?_
                          refine take_ (i := 16) (N := some 39) (v := ?_) (a' := ?_) #[true, true, true, true, true, true, true, true, true, true, true, true, true, true, true, true, true, false, false, false, false] rfl rfl (take_ofW HT_.out HW_.out (by kernel_rfl)) (fun _ _ _ h => h) (Or.inl ⟨by rfl, ?_⟩) hHeld ?_ ?_
                          rotate_left
                          · rintro w' ⟨s0, s1, s2, s3, s4⟩
                            go_simp
                            with_reducible rfl
                          rotate_left
                          · simp only [Act.put, List.setIfInBounds_toArray, List.set_cons_zero, List.set_cons_succ, i64_w, i32_w]
                            rfl
                          refine pq 17 40 HT_.out ?_
                          refine last_ (i := 18) (N := some 41) #[true, true, true, true, true, true, true, true, true, true, true, true, true, true, true, true, true, true, true, false, false] rfl rfl (one_of HT_.out (by kernel_rfl)) (by decide) (fun K hK => ?_)
                          refine value_ (w1 := ?_) (v := ?_) (by rfl) rfl ?_ ?_
                          rotate_left 2
                          · go_simp
                            constructor
                            · rfl
                            · rfl
                          refine hK.out _ _ ?_
                          clear hK K
                          refine norm_ (a' := ?_) ?_ ?_
                          rotate_left
                          · show Act.put _ (some 41) _ = _
                            simp only [Act.put, List.setIfInBounds_toArray, List.set_cons_zero, List.set_cons_succ, i64_w, i32_w]
                            rfl
                          refine last_ (i := 19) (N := some 42) #[true, true, true, true, true, true, true, true, true, true, true, true, true, true, true, true, true, true, true, true, false] rfl rfl (one_of HT_.out (by kernel_rfl)) (by decide) (fun K hK => ?_)
                          refine Kd.R_append_step Kd.string (w0 := w) w.heap.size (by rfl) (.tmp 23) (.tmp 41) 27 9 (.string ⟨#[]⟩) 16 rfl Tryd.underlying27 info9 rfl (by decide) (by omega) u7 x7_1 (a1.extract ((rd t230 x8_1) : Int).toNat ((rd t230 (ji17)) : Int).toNat) [.string (a1.extract ((rd t230 x8_1) : Int).toNat ((rd t230 (ji17)) : Int).toNat)] (fun _ => True) (fun _ => False) rfl rfl ?aP (fun _ hk => hk.elim) ?aF ?aO ?aB ?aS ?aL ?_
                          (case aP => exact rfl)
                          (case aB => exact bS)
                          (case aF => exact (fun _ _ => trivial))
                          (case aO => exact (kR HO_7.out))
                          (case aS => exact (below_size bS))
                          (case aL => have := LMc23.out; omega)
                          intro v244 w26 ho hb hg hat
                          rw [← Ny243.out] at ho
                          replace HO_6 := am (Kd.R_over' (kR HO_6.out) (Kd.R_typed (kR HO_7.out)) (by decide) hg)
                          replace HO_234000 := am (Kd.R_over' (kR HO_234000.out) (Kd.R_typed (kR HO_7.out)) (by decide) hg)
                          replace HO_234001 := am (Kd.R_over' (kR HO_234001.out) (Kd.R_typed (kR HO_7.out)) (by decide) hg)
                          replace BK233 := am (blk_grown (g := gb233) (o := .cells #[.slice Ao7 t227.length co7, .slice (some ad240) t230.length co9] 76 (0, 0)) (bk BK233.out) hg (Kd.R_ne HO_7.out BK233.out (by decide)))
                          replace HB := am (hb)
                          have HO245 := am (ho)
                          clear HO_7
                          clear ho hb hg hat
                          refine hK.out _ _ ?_
                          clear hK K
                          refine norm_ (a' := ?_) ?_ ?_
                          rotate_left
                          · show Act.put _ (some 42) _ = _
                            simp only [Act.put, List.setIfInBounds_toArray, List.set_cons_zero, List.set_cons_succ, i64_w, i32_w]
                            rfl
                          refine pq 20 7 HT_.out ?_
                          refine done_ (done_of HT_.out (by kernel_rfl)) ?_
                          have p246 : 0 ≤ (x9_1 : Int) := od
                          have q246 : x9_1 < (t234.length : Int) := od
                          obtain ⟨ad246, e246, hx246_0⟩ := Kd.at_int (Kd.R_reads' HO_6.out).2.2 x9_1 p246 q246
                          obtain rfl : ad241 = ad246 := (by injection e246)
                          replace p246 := eq_true p246
                          replace q246 := eq_true q246
                          try go_wp2
                          go_roundg k1
                          case measure => have := HK1.out; omega
                          case rel => exact ⟨(y243), (ji17), (wrap64 (x9_1 + 1)), (by first | rfl | (simp; done) | (simp only [← hji17] <;> (first | rfl | simp)) | (simp [*]; done)), (by first | rfl | (simp; done) | (simp [*]; done)), H', ⟨by have := HK1.out; omega⟩, ⟨kR HO_6.out⟩, ⟨kR HO245.out⟩, ⟨kR HO_234000.out⟩, ⟨kR HO_234001.out⟩, ⟨bk BK233.out⟩, ⟨bS⟩⟩
                        · rw [if_neg c23] at H
                          exact absurd H (by simp)
                      · rw [if_neg c22] at H
                        exact absurd H (by simp)
                    · rw [if_neg c21] at H
                      exact absurd H (by simp)
                  · rw [if_neg c20] at H
                    exact absurd H (by simp)
                · rw [if_neg c19] at H
                  exact absurd H (by simp)
              · rw [if_neg c18] at H
                exact absurd H (by simp)
            · rw [if_neg c16] at H
              exact absurd H (by simp)
          · rw [if_neg c15] at H
            exact absurd H (by simp)
        · rw [if_neg c14] at H
          exact absurd H (by simp)
      · rw [if_neg c13] at H
        have c13b0 : decide (x9_1 < (t234.length : Int)) = false := decide_eq_false c13
        clear c13
        obtain rfl := Option.some.inj H
        obtain ⟨Ao27, co27, eo27⟩ := Kd.R_slice HO_6.out
        subst eo27
        go_wp2
        go_ret
        exact ⟨_, rv, kR HO_7.out, bS⟩

/-! ### spec_FewestWords: function 46 -/
def spec_FewestWords.f (k : Nat) (l0 : List ByteArray) (a1 : ByteArray) : Option (List ByteArray) := if (a1.size : Int) > 65536 then (some (([] : List ByteArray))) else ((spec_WordsFault.f k l0).bind fun t250 => (if t250 = 0 then ((spec_l08Cut.f k l0 a1).bind fun t251 => (some t251)) else (some (([] : List ByteArray)))))
theorem spec_FewestWords.mono : ∀ a0 a1 k, LeO (spec_FewestWords.f k a0 a1) (spec_FewestWords.f (k + 1) a0 a1) := by
  intro a0 a1 k
  unfold spec_FewestWords.f
  repeat' first
      | (with_reducible exact spec_WordsFault.mono _ _)
      | (with_reducible exact spec_l08Cut.mono _ _ _)
      | (with_reducible exact LeO.refl _)
      | (with_reducible exact LeO.none _)
      | (with_reducible refine LeO.ite ?_ ?_)
      | (with_reducible refine LeO.bind ?_ (fun _ => ?_))
      | exact spec_WordsFault.mono _ _
      | exact spec_l08Cut.mono _ _ _
      | exact LeO.none _
      | refine LeO.ite ?_ ?_
      | refine LeO.bind ?_ (fun _ => ?_)
set_option maxHeartbeats 8000000 in
set_option maxRecDepth 100000 in
theorem spec_FewestWords.calls (k : Nat) (A0 : Option Addr) (c0 : Nat) (l0 : List ByteArray) (a1 : ByteArray) (r : List ByteArray) (w : World) (hr0 : Kd.C Kd.string w A0 l0.length l0) (hc0 : l0.length ≤ c0) (h : spec_FewestWords.f k l0 a1 = some r) :
    Calls Tryd.prog 46 #[.slice A0 l0.length c0, .string a1] w fun e w' => ∃ v0_ : Value, e = .returned (v0_) ∧ Kd.R Kd.string 9 w' w.heap.size (fun _ => True) v0_ r ∧ Below w.heap.size w w' := by
  have HR0 := am hr0
  have HC0 := am hc0
  clear hr0 hc0
  have HB := am (Below.refl w.heap.size w)
  have H : (if (a1.size : Int) > 65536 then (some (([] : List ByteArray))) else ((spec_WordsFault.f k l0).bind fun t250 => (if t250 = 0 then ((spec_l08Cut.f k l0 a1).bind fun t251 => (some t251)) else (some (([] : List ByteArray)))))) = some r := h
  clear h
  by_cases c3 : (a1.size : Int) > 65536
  · rw [if_pos c3] at H
    have c3b0 : decide (65536 < (a1.size : Int)) = true := decide_eq_true c3
    have c3b1 : decide (65536 < a1.size) = true := decide_eq_true (by omega)
    clear c3
    obtain ⟨y247, hy247⟩ : ∃ y_ : List ByteArray, y_ = (([] : List ByteArray)) := ⟨_, rfl⟩
    replace H : (some y247) = some r := by first | (rw [hy247]; with_reducible exact H) | (have H2_ := (Option.bind_some _ _).symm.trans H; rw [hy247]; with_reducible exact H2_) | (have H2_ := (Option.bind_some _ _).symm.trans H; with_reducible exact H2_) | with_reducible exact H | (rw [hy247]; exact H) | exact H
    have Ny247 := am hy247
    clear hy247
    obtain rfl := Option.some.inj H
    go_enter Tryd.func46, Tryd.ntmps46
    go_wp2_with (first | ((with_reducible refine gate_dst (N := 13) rfl ?_); refine Kd.R_lit Kd.string _ 9 ?hg (N := 13) ?hd (xs := ([] : List ByteArray)) (inner := []) (ok := fun _ => True) (okp := fun _ => True) ?hr ?hp (fun _ hk => hk) trivial (Below.refl _ _) (Nat.le_refl _) (by simp) ?_; (case hd => rfl); (case hg => rfl); (case hr => first | (go_simp; done) | (go_simp; rfl)); (case hp => exact (Reps.none _ _)); intro v248 w4 ho5 hb hg_ hnew_; clear hg_ hnew_; (first | rw [← Ny247.out] at ho5 | (simp only [Int.reduceToNat] at ho5; rw [← Ny247.out] at ho5)); have HO249 := am (Kd.R_lower ho5 (below_size bB)); replace HB := am (below_step bB hb); clear hb ho5))
    go_ret
    exact ⟨_, rv, kR HO249.out, bB⟩
  · rw [if_neg c3] at H
    have c3b0 : decide (65536 < (a1.size : Int)) = false := decide_eq_false c3
    have c3b1 : decide (65536 < a1.size) = false := decide_eq_false (by omega)
    clear c3
    replace H := Option.bind_eq_some_iff.mp H
    obtain ⟨t250, A60, H⟩ := H
    replace H : (if t250 = 0 then ((spec_l08Cut.f k l0 a1).bind fun t251 => (some t251)) else (some (([] : List ByteArray)))) = some r := H
    have A6 := am A60
    clear A60
    by_cases c7 : t250 = 0
    · rw [if_pos c7] at H
      have c7b0 : (t250 == 0) = true := beq_iff_eq.mpr c7
      have c7b1 : (t250 != 0) = false := bne_eq_false_iff_eq.mpr c7
      clear c7
      replace H := Option.bind_eq_some_iff.mp H
      obtain ⟨t251, A80, H⟩ := H
      replace H : (some t251) = some r := H
      have A8 := am A80
      clear A80
      obtain rfl := Option.some.inj H
      go_enter Tryd.func46, Tryd.ntmps46
      go_wp2_with (first | (go_at_call 43; (with_reducible refine (spec_WordsFault.calls k _ _ l0 t250 _ ?side1 ?side2 A6.out).mono ?_); (case side1 => exact cC HR0.out); (case side2 => exact HC0.out); rintro e w9 ⟨rfl, hb⟩; replace HB := am (below_step bB hb); (try clear hb); (try clear hb2); (try clear hk); (try clear hi)) | ((with_reducible refine gate_callee (f := 77) rfl ?_); refine gl 16 Tryd.func77 #[.slice A0 l0.length c0, .string a1] ?_; (with_reducible refine (spec_l08Cut.calls k _ _ l0 a1 t251 _ ?side1 ?side2 A8.out).mono ?_); (case side1 => exact cC (Kd.C_below HR0.out HB.out)); (case side2 => exact HC0.out); rintro e w10 ⟨v252, rfl, ho0, hb⟩; refine ⟨_, rfl, ?_⟩; have HO253 := am (Kd.R_lower ho0 (below_size bB)); replace HB := am (below_step bB hb); (try clear hb); (try clear hb2); (try clear hk); (try clear hi); (try clear ho0)))
      go_ret
      exact ⟨_, rv, kR HO253.out, bB⟩
    · rw [if_neg c7] at H
      have c7b0 : (t250 == 0) = false := beq_eq_false_iff_ne.mpr c7
      have c7b1 : (t250 != 0) = true := bne_iff_ne.mpr c7
      obtain ⟨y254, hy254⟩ : ∃ y_ : List ByteArray, y_ = (([] : List ByteArray)) := ⟨_, rfl⟩
      replace H : (some y254) = some r := by first | (rw [hy254]; with_reducible exact H) | (have H2_ := (Option.bind_some _ _).symm.trans H; rw [hy254]; with_reducible exact H2_) | (have H2_ := (Option.bind_some _ _).symm.trans H; with_reducible exact H2_) | with_reducible exact H | (rw [hy254]; exact H) | exact H
      have Ny254 := am hy254
      clear hy254
      obtain rfl := Option.some.inj H
      go_enter Tryd.func46, Tryd.ntmps46
      go_wp2_with (first | (go_at_call 43; (with_reducible refine (spec_WordsFault.calls k _ _ l0 t250 _ ?side1 ?side2 A6.out).mono ?_); (case side1 => exact cC HR0.out); (case side2 => exact HC0.out); rintro e w11 ⟨rfl, hb⟩; replace HB := am (below_step bB hb); (try clear hb); (try clear hb2); (try clear hk); (try clear hi)) | ((with_reducible refine gate_dst (N := 13) rfl ?_); refine Kd.R_lit Kd.string _ 9 ?hg (N := 13) ?hd (xs := ([] : List ByteArray)) (inner := []) (ok := fun _ => True) (okp := fun _ => True) ?hr ?hp (fun _ hk => hk) trivial (Below.refl _ _) (Nat.le_refl _) (by simp) ?_; (case hd => rfl); (case hg => rfl); (case hr => first | (go_simp; done) | (go_simp; rfl)); (case hp => exact (Reps.none _ _)); intro v255 w12 ho13 hb hg_ hnew_; clear hg_ hnew_; (first | rw [← Ny254.out] at ho13 | (simp only [Int.reduceToNat] at ho13; rw [← Ny254.out] at ho13)); have HO256 := am (Kd.R_lower ho13 (below_size bB)); replace HB := am (below_step bB hb); clear hb ho13))
      go_ret
      exact ⟨_, rv, kR HO256.out, bB⟩

-- NOT PRINTED: function 117 (utf8_decodeRuneInStringSlow)

/-! ### utf8_DecodeRuneInString: function 84 (by hand) -/
def utf8_DecodeRuneInString.f (a0 : ByteArray) : Option (Int × Int) := some (((Go.Lib.decodeGo a0).1 : Int), ((Go.Lib.decodeGo a0).2 : Int))
theorem utf8_DecodeRuneInString.calls (a0 : ByteArray) (r1 : Int) (r2 : Int) (w : World) (hG : GL w) (h : utf8_DecodeRuneInString.f a0 = some (r1, r2)) :
    Calls Tryd.prog 84 #[.string a0] w fun e w' => e = .returned (.tuple #[.int .i32 r1, .int .i64 r2]) ∧ Below w.heap.size w w' := by
  obtain ⟨rfl, rfl⟩ := Prod.mk.inj (Option.some.inj h)
  exact Go.Proofs.Any.utf8_DecodeRuneInString Tryd.lays197 a0 w hG


/-! ### impl_read: function 56 -/
def impl_read.l0 : Nat → ByteArray → List (S74) → Int → Option ((List (S74)))
  | 0, _, _, _ => none
  | k + 1, x0, x3, x4 => if x4 < (x0.size : Int) then (if 0 ≤ x4 then (if x4 ≤ (x0.size : Int) then ((utf8_DecodeRuneInString.f (x0.extract (x4 : Int).toNat x0.size)).bind fun bt257 => (if bt257.1 = 65533 then (if x3.length < 4398046511104 then (impl_read.l0 k x0 (x3 ++ [(⟨wrap64 (bt257.1), x4, wrap64 (x4 + bt257.2), (bt257.2 == 1)⟩ : S74)]) (wrap64 (x4 + bt257.2))) else (none)) else (if x3.length < 4398046511104 then (impl_read.l0 k x0 (x3 ++ [(⟨wrap64 (bt257.1), x4, wrap64 (x4 + bt257.2), false⟩ : S74)]) (wrap64 (x4 + bt257.2))) else (none)))) else (none)) else (none)) else (some x3)
def impl_read.f (k : Nat) (a0 : ByteArray) : Option ((List (S74))) := impl_read.l0 k a0 ([] : List (S74)) 0
theorem impl_read.mono_l : ∀ k, (∀ y0 y1 y2, LeO (impl_read.l0 k y0 y1 y2) (impl_read.l0 (k + 1) y0 y1 y2))
  | 0 => fun _ _ _ r h => by simp [impl_read.l0] at h
  | k + 1 => by
    have ih0 := impl_read.mono_l k
    · intro y0 y1 y2
      unfold impl_read.l0
      repeat' first
      | (with_reducible exact ih0 _ _ _)
      | (with_reducible exact LeO.refl _)
      | (with_reducible exact LeO.none _)
      | (with_reducible refine LeO.ite ?_ ?_)
      | (with_reducible refine LeO.bind ?_ (fun _ => ?_))
      | exact ih0 _ _ _
      | exact LeO.none _
      | refine LeO.ite ?_ ?_
      | refine LeO.bind ?_ (fun _ => ?_)
theorem impl_read.mono : ∀ a0 k, LeO (impl_read.f k a0) (impl_read.f (k + 1) a0) := by
  intro a0 k
  have ih0 := impl_read.mono_l k
  unfold impl_read.f
  repeat' first
      | (with_reducible exact ih0 _ _ _)
      | (with_reducible exact LeO.refl _)
      | (with_reducible exact LeO.none _)
      | (with_reducible refine LeO.ite ?_ ?_)
      | (with_reducible refine LeO.bind ?_ (fun _ => ?_))
      | exact ih0 _ _ _
      | exact LeO.none _
      | refine LeO.ite ?_ ?_
      | refine LeO.bind ?_ (fun _ => ?_)
set_option maxHeartbeats 8000000 in
set_option maxRecDepth 100000 in
theorem impl_read.calls (k : Nat) (a0 : ByteArray) (r : List (S74)) (w : World) (hG : GL w) (h : impl_read.f k a0 = some r) :
    Calls Tryd.prog 56 #[.string a0] w fun e w' => ∃ v0_ : Value, e = .returned (v0_) ∧ Kd.R k74 74 w' w.heap.size (fun _ => True) v0_ r ∧ Below w.heap.size w w' := by
  have hu74 := Tryd.underlying74
  have HGL := am hG
  clear hG
  have HB := am (Below.refl w.heap.size w)
  have H : (impl_read.l0 k a0 ([] : List (S74)) 0) = some r := h
  clear h
  have H' := am H
  clear H
  go_enter Tryd.func56, Tryd.ntmps56
  go_wp2
  go_loopg [3, 4] k (fun kq v3 v4 w' => ∃ (x3_1 : List (S74)) (x4_1 : Int), v4 = .int .i64 x4_1 ∧ Aside0 (impl_read.l0 kq a0 x3_1 x4_1 = some r) ∧ Aside0 (kq ≤ k) ∧ Aside0 (Kd.R k74 74 w' w.heap.size (fun _ => True) v3 x3_1) ∧ Aside0 (Below w.heap.size w w'))
  case atStart => exact ⟨(([] : List (S74))), (0), (by first | rfl | (simp; done) | (simp [*]; done)), H', ⟨Nat.le_refl _⟩, ⟨by first | exact Kd.R_nil _ _ _ _ _ | exact Kd.N_nil _ _ _ _ _ | exact Kd.V_nil _ _ _ _ _ | exact Kd.Q_nil _ _ _ _ _ | exact Kd.S_nil _ _ _ _ _⟩, ⟨bB⟩⟩
  case round =>
    clear H'
    obtain ⟨x3_1, x4_1, rfl, HA, HK1, HO_3, HB⟩ := hrel
    cases gk with
    | zero => exact absurd HA.out (by simp [impl_read.l0])
    | succ k1 =>
      have H := HA.out
      clear HA
      simp only [impl_read.l0] at H
      by_cases c2 : x4_1 < (a0.size : Int)
      · rw [if_pos c2] at H
        have c2b0 : decide (x4_1 < (a0.size : Int)) = true := decide_eq_true c2
        clear c2
        by_cases c3 : 0 ≤ x4_1
        · rw [if_pos c3] at H
          have c3b0 := eq_true c3
          have c3b1 : decide (0 ≤ x4_1) = true := decide_eq_true c3
          clear c3
          by_cases c4 : x4_1 ≤ (a0.size : Int)
          · rw [if_pos c4] at H
            have c4b0 := eq_true c4
            have c4b1 : decide (x4_1 ≤ (a0.size : Int)) = true := decide_eq_true c4
            clear c4
            replace H := Option.bind_eq_some_iff.mp H
            obtain ⟨⟨t257, t258⟩, A50, H⟩ := H
            replace H : (if t257 = 65533 then (if x3_1.length < 4398046511104 then (impl_read.l0 k1 a0 (x3_1 ++ [(⟨wrap64 (t257), x4_1, wrap64 (x4_1 + t258), (t258 == 1)⟩ : S74)]) (wrap64 (x4_1 + t258))) else (none)) else (if x3_1.length < 4398046511104 then (impl_read.l0 k1 a0 (x3_1 ++ [(⟨wrap64 (t257), x4_1, wrap64 (x4_1 + t258), false⟩ : S74)]) (wrap64 (x4_1 + t258))) else (none))) = some r := H
            have A5 := am A50
            clear A50
            by_cases c6 : t257 = 65533
            · rw [if_pos c6] at H
              have c6b0 : (t257 == 65533) = true := beq_iff_eq.mpr c6
              have c6b1 : (t257 != 65533) = false := bne_eq_false_iff_eq.mpr c6
              clear c6
              by_cases c7 : x3_1.length < 4398046511104
              · rw [if_pos c7] at H
                have LMc7 := am c7
                clear c7
                obtain ⟨y259, hy259⟩ : ∃ y_ : List (S74), y_ = (x3_1 ++ [(⟨wrap64 (t257), x4_1, wrap64 (x4_1 + t258), (t258 == 1)⟩ : S74)]) := ⟨_, rfl⟩
                replace H : (impl_read.l0 k1 a0 y259 (wrap64 (x4_1 + t258))) = some r := by first | (rw [hy259]; with_reducible exact H) | (have H2_ := (Option.bind_some _ _).symm.trans H; rw [hy259]; with_reducible exact H2_) | (have H2_ := (Option.bind_some _ _).symm.trans H; with_reducible exact H2_) | with_reducible exact H | (rw [hy259]; exact H) | exact H
                have Ny259 := am hy259
                clear hy259
                have H' := am H
                clear H
                go_wp2_with (first | ((with_reducible refine gate_callee (f := 84) rfl ?_); refine gl 16 Tryd.func84 #[.string (a0.extract (x4_1 : Int).toNat a0.size)] ?_; (with_reducible refine (utf8_DecodeRuneInString.calls (a0.extract (x4_1 : Int).toNat a0.size) t257 t258 _ ?side1 A5.out).mono ?_); (case side1 => first | exact HGL.out | exact GL_below HGL.out bB); rintro e w8 ⟨rfl, hb⟩; refine ⟨_, rfl, ?_⟩; replace HO_3 := am (Kd.R_below (kR HO_3.out) hb); replace HB := am (below_step bB hb); (try clear hb); (try clear hb2); (try clear hk); (try clear hi)) | ((with_reducible refine gate_builtin (b := .append) (xs := #[.tmp 25, .tmp 34]) rfl ?_); at_builtin; refine Kd.R_append k74 (w0 := w) w.heap.size rfl (.tmp 25) (.tmp 34) 57 74 (.agg #[(.int .i64 0), (.int .i64 0), (.int .i64 0), (.bool false)]) 32 rfl Tryd.underlying57 info74 rfl (by decide) (by omega) u3 x3_1 (⟨wrap64 (t257), x4_1, wrap64 (x4_1 + t258), (t258 == 1)⟩ : S74) [.int .i64 (wrap64 (t257)), .int .i64 x4_1, .int .i64 (wrap64 (x4_1 + t258)), .bool (t258 == 1)] (fun _ => True) (fun _ => False) rfl rfl ?aP (fun _ hk => hk.elim) ?aF ?aO ?aB ?aS ?aL ?_; (case aP => exact k74_mkM _ _ _ (⟨wrap64 (t257), x4_1, wrap64 (x4_1 + t258), (t258 == 1)⟩ : S74)); (case aB => exact bB); (case aF => exact (fun _ _ => trivial)); (case aO => exact (kR HO_3.out)); (case aS => exact (below_size bB)); (case aL => have := LMc7.out; omega); intro v260 w9 ho hb hg hat; rw [← Ny259.out] at ho; replace HB := am (hb); have HO261 := am (ho); clear HO_3; clear ho hb hg hat))
                go_roundg k1
                case measure => have := HK1.out; omega
                case rel => exact ⟨(y259), (wrap64 (x4_1 + t258)), (by first | rfl | (simp; done) | (simp [*]; done)), H', ⟨by have := HK1.out; omega⟩, ⟨kR HO261.out⟩, ⟨bB⟩⟩
              · rw [if_neg c7] at H
                exact absurd H (by simp)
            · rw [if_neg c6] at H
              have c6b0 : (t257 == 65533) = false := beq_eq_false_iff_ne.mpr c6
              have c6b1 : (t257 != 65533) = true := bne_iff_ne.mpr c6
              by_cases c10 : x3_1.length < 4398046511104
              · rw [if_pos c10] at H
                have LMc10 := am c10
                clear c10
                obtain ⟨y262, hy262⟩ : ∃ y_ : List (S74), y_ = (x3_1 ++ [(⟨wrap64 (t257), x4_1, wrap64 (x4_1 + t258), false⟩ : S74)]) := ⟨_, rfl⟩
                replace H : (impl_read.l0 k1 a0 y262 (wrap64 (x4_1 + t258))) = some r := by first | (rw [hy262]; with_reducible exact H) | (have H2_ := (Option.bind_some _ _).symm.trans H; rw [hy262]; with_reducible exact H2_) | (have H2_ := (Option.bind_some _ _).symm.trans H; with_reducible exact H2_) | with_reducible exact H | (rw [hy262]; exact H) | exact H
                have Ny262 := am hy262
                clear hy262
                have H' := am H
                clear H
                go_wp2_with (first | ((with_reducible refine gate_callee (f := 84) rfl ?_); refine gl 16 Tryd.func84 #[.string (a0.extract (x4_1 : Int).toNat a0.size)] ?_; (with_reducible refine (utf8_DecodeRuneInString.calls (a0.extract (x4_1 : Int).toNat a0.size) t257 t258 _ ?side1 A5.out).mono ?_); (case side1 => first | exact HGL.out | exact GL_below HGL.out bB); rintro e w11 ⟨rfl, hb⟩; refine ⟨_, rfl, ?_⟩; replace HO_3 := am (Kd.R_below (kR HO_3.out) hb); replace HB := am (below_step bB hb); (try clear hb); (try clear hb2); (try clear hk); (try clear hi)) | ((with_reducible refine gate_builtin (b := .append) (xs := #[.tmp 25, .tmp 34]) rfl ?_); at_builtin; refine Kd.R_append k74 (w0 := w) w.heap.size rfl (.tmp 25) (.tmp 34) 57 74 (.agg #[(.int .i64 0), (.int .i64 0), (.int .i64 0), (.bool false)]) 32 rfl Tryd.underlying57 info74 rfl (by decide) (by omega) u3 x3_1 (⟨wrap64 (t257), x4_1, wrap64 (x4_1 + t258), false⟩ : S74) [.int .i64 (wrap64 (t257)), .int .i64 x4_1, .int .i64 (wrap64 (x4_1 + t258)), .bool false] (fun _ => True) (fun _ => False) rfl rfl ?aP (fun _ hk => hk.elim) ?aF ?aO ?aB ?aS ?aL ?_; (case aP => exact k74_mkM _ _ _ (⟨wrap64 (t257), x4_1, wrap64 (x4_1 + t258), false⟩ : S74)); (case aB => exact bB); (case aF => exact (fun _ _ => trivial)); (case aO => exact (kR HO_3.out)); (case aS => exact (below_size bB)); (case aL => have := LMc10.out; omega); intro v263 w12 ho hb hg hat; rw [← Ny262.out] at ho; replace HB := am (hb); have HO264 := am (ho); clear HO_3; clear ho hb hg hat))
                go_roundg k1
                case measure => have := HK1.out; omega
                case rel => exact ⟨(y262), (wrap64 (x4_1 + t258)), (by first | rfl | (simp; done) | (simp [*]; done)), H', ⟨by have := HK1.out; omega⟩, ⟨kR HO264.out⟩, ⟨bB⟩⟩
              · rw [if_neg c10] at H
                exact absurd H (by simp)
          · rw [if_neg c4] at H
            exact absurd H (by simp)
        · rw [if_neg c3] at H
          exact absurd H (by simp)
      · rw [if_neg c2] at H
        have c2b0 : decide (x4_1 < (a0.size : Int)) = false := decide_eq_false c2
        clear c2
        obtain rfl := Option.some.inj H
        go_wp2
        go_ret
        exact ⟨_, rv, kR HO_3.out, bB⟩

/-! ### impl_points: function 65 -/
def impl_points.l0 : Nat → List Int → List (S74) → Int → Int → Option (List Int)
  | 0, _, _, _, _ => none
  | k + 1, x3, x7, x8, x9 => if x9 < x8 then (if 0 ≤ x9 then (if x9 < (x7.length : Int) then (if x3.length < 17592186044416 then (impl_points.l0 k (x3 ++ [(rd_T74 x7 x9).f0]) x7 x8 (wrap64 (x9 + 1))) else (none)) else (none)) else (none)) else (some x3)
def impl_points.f (k : Nat) (a0 : ByteArray) : Option (List Int) := (impl_read.f k a0).bind fun t265 => (impl_points.l0 k ([] : List Int) t265 (t265.length : Int) 0)
theorem impl_points.mono_l : ∀ k, (∀ y0 y1 y2 y3, LeO (impl_points.l0 k y0 y1 y2 y3) (impl_points.l0 (k + 1) y0 y1 y2 y3))
  | 0 => fun _ _ _ _ r h => by simp [impl_points.l0] at h
  | k + 1 => by
    have ih0 := impl_points.mono_l k
    · intro y0 y1 y2 y3
      unfold impl_points.l0
      repeat' first
      | (with_reducible exact ih0 _ _ _ _)
      | (with_reducible exact impl_read.mono _ _)
      | (with_reducible exact LeO.refl _)
      | (with_reducible exact LeO.none _)
      | (with_reducible refine LeO.ite ?_ ?_)
      | (with_reducible refine LeO.bind ?_ (fun _ => ?_))
      | exact ih0 _ _ _ _
      | exact impl_read.mono _ _
      | exact LeO.none _
      | refine LeO.ite ?_ ?_
      | refine LeO.bind ?_ (fun _ => ?_)
theorem impl_points.mono : ∀ a0 k, LeO (impl_points.f k a0) (impl_points.f (k + 1) a0) := by
  intro a0 k
  have ih0 := impl_points.mono_l k
  unfold impl_points.f
  repeat' first
      | (with_reducible exact ih0 _ _ _ _)
      | (with_reducible exact impl_read.mono _ _)
      | (with_reducible exact LeO.refl _)
      | (with_reducible exact LeO.none _)
      | (with_reducible refine LeO.ite ?_ ?_)
      | (with_reducible refine LeO.bind ?_ (fun _ => ?_))
      | exact ih0 _ _ _ _
      | exact impl_read.mono _ _
      | exact LeO.none _
      | refine LeO.ite ?_ ?_
      | refine LeO.bind ?_ (fun _ => ?_)
set_option maxHeartbeats 8000000 in
set_option maxRecDepth 100000 in
theorem impl_points.calls (k : Nat) (a0 : ByteArray) (r : List Int) (w : World) (hG : GL w) (h : impl_points.f k a0 = some r) :
    Calls Tryd.prog 65 #[.string a0] w fun e w' => ∃ v0_ : Value, e = .returned (v0_) ∧ Kd.R (Kd.int .i64) 2 w' w.heap.size (fun _ => True) v0_ r ∧ Below w.heap.size w w' := by
  have hu74 := Tryd.underlying74
  have HGL := am hG
  clear hG
  have HB := am (Below.refl w.heap.size w)
  have H : ((impl_read.f k a0).bind fun t265 => (impl_points.l0 k ([] : List Int) t265 (t265.length : Int) 0)) = some r := h
  clear h
  replace H := Option.bind_eq_some_iff.mp H
  obtain ⟨t265, A20, H⟩ := H
  replace H : (impl_points.l0 k ([] : List Int) t265 (t265.length : Int) 0) = some r := H
  have A2 := am A20
  clear A20
  have H' := am H
  clear H
  go_enter Tryd.func65, Tryd.ntmps65
  go_wp2_with (first | ((with_reducible refine gate_callee (f := 56) rfl ?_); refine gl 7 Tryd.func56 #[.string a0] ?_; (with_reducible refine (impl_read.calls k a0 t265 _ ?side1 A2.out).mono ?_); (case side1 => first | exact HGL.out | exact GL_below HGL.out bB); rintro e w3 ⟨v266, rfl, ho0, hb⟩; refine ⟨_, rfl, ?_⟩; have HO267 := am (Kd.R_lower ho0 (below_size bB)); replace HB := am (below_step bB hb); (try clear hb); (try clear hb2); (try clear hk); (try clear hi); (try clear ho0); obtain ⟨Ao4, co4, eo4⟩ := Kd.R_slice HO267.out; subst eo4))
  go_loopg [3, 9] k (fun kq v3 v9 w' => ∃ (x3_1 : List Int) (x9_1 : Int), v9 = .int .i64 x9_1 ∧ Aside0 (impl_points.l0 kq x3_1 t265 (t265.length : Int) x9_1 = some r) ∧ Aside0 (kq ≤ k) ∧ Aside0 (Kd.R (Kd.int .i64) 2 w' w.heap.size (fun _ => True) v3 x3_1) ∧ Aside0 (Kd.R k74 74 w' w.heap.size (fun _ => True) (.slice Ao4 t265.length co4) t265) ∧ Aside0 (Below w.heap.size w w'))
  case atStart => exact ⟨(([] : List Int)), (0), (by first | rfl | (simp; done) | (simp [*]; done)), H', ⟨Nat.le_refl _⟩, ⟨by first | exact Kd.R_nil _ _ _ _ _ | exact Kd.N_nil _ _ _ _ _ | exact Kd.V_nil _ _ _ _ _ | exact Kd.Q_nil _ _ _ _ _ | exact Kd.S_nil _ _ _ _ _⟩, ⟨kR HO267.out⟩, ⟨bB⟩⟩
  case round =>
    clear H'
    try clear p2
    obtain ⟨x3_1, x9_1, rfl, HA, HK1, HO_3, HO_7, HB⟩ := hrel
    cases gk with
    | zero => exact absurd HA.out (by simp [impl_points.l0])
    | succ k1 =>
      have H := HA.out
      clear HA
      simp only [impl_points.l0] at H
      by_cases c5 : x9_1 < (t265.length : Int)
      · rw [if_pos c5] at H
        have c5b0 : decide (x9_1 < (t265.length : Int)) = true := decide_eq_true c5
        clear c5
        by_cases c6 : 0 ≤ x9_1
        · rw [if_pos c6] at H
          have c6b0 : decide (0 ≤ x9_1) = true := decide_eq_true c6
          clear c6
          by_cases c7 : x9_1 < (t265.length : Int)
          · rw [if_pos c7] at H
            have c7b0 : decide (x9_1 < (t265.length : Int)) = true := decide_eq_true c7
            clear c7
            by_cases c8 : x3_1.length < 17592186044416
            · rw [if_pos c8] at H
              have LMc8 := am c8
              clear c8
              obtain ⟨y270, hy270⟩ : ∃ y_ : List Int, y_ = (x3_1 ++ [(rd_T74 t265 x9_1).f0]) := ⟨_, rfl⟩
              replace H : (impl_points.l0 k1 y270 t265 (t265.length : Int) (wrap64 (x9_1 + 1))) = some r := by first | (rw [hy270]; with_reducible exact H) | (have H2_ := (Option.bind_some _ _).symm.trans H; rw [hy270]; with_reducible exact H2_) | (have H2_ := (Option.bind_some _ _).symm.trans H; with_reducible exact H2_) | with_reducible exact H | (rw [hy270]; exact H) | exact H
              have Ny270 := am hy270
              clear hy270
              have H' := am H
              clear H
              have p268 : 0 ≤ (x9_1 : Int) := od
              have q268 : x9_1 < (t265.length : Int) := od
              obtain ⟨ad268, e268, hx268_0, hx268_1, hx268_2, hx268_3⟩ := at_T74 (Kd.R_reads' HO_7.out).2.2 x9_1 p268 q268
              cases e268
              replace p268 := eq_true p268
              replace q268 := eq_true q268
              go_wp2_with (first | ((with_reducible refine gate_dst (N := 5) rfl ?_); refine bx 5 #[.int .i64 0, .int .i64 0, .int .i64 0, .bool false] 74 ?_; intro gb269 hg w9 hbox hb; replace HO_3 := am (Kd.R_below (kR HO_3.out) hb); replace HO_7 := am (Kd.R_below (Kd.R_elderB (kR HO_7.out) gb269 (Nat.le_of_eq hg.symm)) hb); have BK269 := am (hbox); have GW269 := am ((by rw [hg]; exact (below_size bB) : w.heap.size ≤ gb269)); have GE269 := am ((by rw [hg]; exact (below_size bB) : w.heap.size ≤ gb269)); replace HB := am (below_step bB hb); clear hb hbox hg; have hcz10_0 := bc BK269.out 0 (.int .i64 0); have hcz10_1 := bc BK269.out 1 (.int .i64 0); have hcz10_2 := bc BK269.out 2 (.int .i64 0); have hcz10_3 := bc BK269.out 3 (.bool false); have hfz10_0 := blk_frozen BK269.out 0; have hfz10_1 := blk_frozen BK269.out 1; have hfz10_2 := blk_frozen BK269.out 2; have hfz10_3 := blk_frozen BK269.out 3) | ((with_reducible refine gate_builtin (b := .append) (xs := #[.tmp 13, .tmp 16]) rfl ?_); at_builtin; refine Kd.R_append (Kd.int .i64) (w0 := w) w.heap.size rfl (.tmp 13) (.tmp 16) 22 2 (.int .i64 0) 8 rfl Tryd.underlying22 info2 rfl (by decide) (by omega) u3 x3_1 ((rd_T74 t265 x9_1).f0) [.int .i64 ((rd_T74 t265 x9_1).f0)] (fun _ => True) (fun _ => False) rfl (by first | (go_simp; done) | (go_simp; rfl)) ?aP (fun _ hk => hk.elim) ?aF ?aO ?aB ?aS ?aL ?_; (case aP => exact rfl); (case aB => exact bS); (case aF => exact (fun _ _ => trivial)); (case aO => exact (kR (Kd.R_mono (Kd.R_far (p := ⟨gb269, 3, none⟩) (Kd.R_far (p := ⟨gb269, 2, none⟩) (Kd.R_far (p := ⟨gb269, 1, none⟩) (Kd.R_far (p := ⟨gb269, 0, none⟩) (Kd.R_types HO_3.out BK269.out (by decide)) (fun _ hk => hk.2) (.int .i64 ((rd_T74 t265 x9_1).f0))) (fun _ hk => hk.2) (.int .i64 ((rd_T74 t265 x9_1).f1))) (fun _ hk => hk.2) (.int .i64 ((rd_T74 t265 x9_1).f2))) (fun _ hk => hk.2) (.bool ((rd_T74 t265 x9_1).f3))) (fun _ hk => trivial)))); (case aS => exact (below_size bS)); (case aL => have := LMc8.out; omega); intro v271 w11 ho hb hg hat; rw [← Ny270.out] at ho; replace HO_7 := am (Kd.R_over' (kR ((Kd.R_mono (Kd.R_far (p := ⟨gb269, 3, none⟩) (Kd.R_far (p := ⟨gb269, 2, none⟩) (Kd.R_far (p := ⟨gb269, 1, none⟩) (Kd.R_far (p := ⟨gb269, 0, none⟩) (Kd.R_mono HO_7.out (fun k_ hk => (⟨hk, hk.2⟩ : _ ∧ k_ ≠ gb269))) (fun _ hk => hk.2) (.int .i64 ((rd_T74 t265 x9_1).f0))) (fun _ hk => hk.2) (.int .i64 ((rd_T74 t265 x9_1).f1))) (fun _ hk => hk.2) (.int .i64 ((rd_T74 t265 x9_1).f2))) (fun _ hk => hk.2) (.bool ((rd_T74 t265 x9_1).f3))) (fun _ h_ => h_.1)))) (Kd.R_typed (kR ((Kd.R_mono (Kd.R_far (p := ⟨gb269, 3, none⟩) (Kd.R_far (p := ⟨gb269, 2, none⟩) (Kd.R_far (p := ⟨gb269, 1, none⟩) (Kd.R_far (p := ⟨gb269, 0, none⟩) (Kd.R_types HO_3.out BK269.out (by decide)) (fun _ hk => hk.2) (.int .i64 ((rd_T74 t265 x9_1).f0))) (fun _ hk => hk.2) (.int .i64 ((rd_T74 t265 x9_1).f1))) (fun _ hk => hk.2) (.int .i64 ((rd_T74 t265 x9_1).f2))) (fun _ hk => hk.2) (.bool ((rd_T74 t265 x9_1).f3))) (fun _ h_ => h_.1))))) (by decide) hg); replace BK269 := am (blk_grown (g := gb269) (o := .cells #[.int .i64 ((rd_T74 t265 x9_1).f0), .int .i64 ((rd_T74 t265 x9_1).f1), .int .i64 ((rd_T74 t265 x9_1).f2), .bool ((rd_T74 t265 x9_1).f3)] 74 (0, 0)) (by (with_reducible repeat (first | refine blk_drewN ?_ _ | refine blk_drew ?_ | refine blk_alloc ?_ _)); refine blk_put (cs := #[.int .i64 ((rd_T74 t265 x9_1).f0), .int .i64 ((rd_T74 t265 x9_1).f1), .int .i64 ((rd_T74 t265 x9_1).f2), .bool false]) ?_ 3 _ rfl; (with_reducible repeat (first | refine blk_drewN ?_ _ | refine blk_drew ?_ | refine blk_alloc ?_ _)); refine blk_put (cs := #[.int .i64 ((rd_T74 t265 x9_1).f0), .int .i64 ((rd_T74 t265 x9_1).f1), .int .i64 0, .bool false]) ?_ 2 _ rfl; (with_reducible repeat (first | refine blk_drewN ?_ _ | refine blk_drew ?_ | refine blk_alloc ?_ _)); refine blk_put (cs := #[.int .i64 ((rd_T74 t265 x9_1).f0), .int .i64 0, .int .i64 0, .bool false]) ?_ 1 _ rfl; (with_reducible repeat (first | refine blk_drewN ?_ _ | refine blk_drew ?_ | refine blk_alloc ?_ _)); refine blk_put (cs := #[.int .i64 0, .int .i64 0, .int .i64 0, .bool false]) ?_ 0 _ rfl; (with_reducible repeat (first | refine blk_drewN ?_ _ | refine blk_drew ?_ | refine blk_alloc ?_ _)); exact BK269.out) hg (Kd.R_ne HO_3.out BK269.out (by decide))); replace HB := am (hb); have HO272 := am (ho); clear HO_3; clear ho hb hg hat))
              go_roundg k1
              case measure => have := HK1.out; omega
              case rel => exact ⟨(y270), (wrap64 (x9_1 + 1)), (by first | rfl | (simp; done) | (simp [*]; done)), H', ⟨by have := HK1.out; omega⟩, ⟨kR HO272.out⟩, ⟨kR (Kd.R_mono HO_7.out (fun _ hk => trivial))⟩, ⟨bS⟩⟩
            · rw [if_neg c8] at H
              exact absurd H (by simp)
          · rw [if_neg c7] at H
            exact absurd H (by simp)
        · rw [if_neg c6] at H
          exact absurd H (by simp)
      · rw [if_neg c5] at H
        have c5b0 : decide (x9_1 < (t265.length : Int)) = false := decide_eq_false c5
        clear c5
        obtain rfl := Option.some.inj H
        go_wp2
        go_ret
        exact ⟨_, rv, kR HO_3.out, bB⟩

/-! ### impl_in: function 99 -/
def impl_in.f (a0 : Int) (a1 : Int) (a2 : Int) : Option (Bool) := if a0 ≥ a1 then (some (decide (a0 ≤ a2))) else (some false)
set_option maxHeartbeats 8000000 in
set_option maxRecDepth 100000 in
theorem impl_in.calls (a0 : Int) (a1 : Int) (a2 : Int) (r : Bool) (w : World) (h : impl_in.f a0 a1 a2 = some r) :
    Calls Tryd.prog 99 #[.int .i64 a0, .int .i64 a1, .int .i64 a2] w fun e w' => e = .returned (.bool r) ∧ Drawn0 w w' := by
  have H : (if a0 ≥ a1 then (some (decide (a0 ≤ a2))) else (some false)) = some r := h
  clear h
  by_cases c4 : a0 ≥ a1
  · rw [if_pos c4] at H
    have c4b0 : decide (a1 ≤ a0) = true := decide_eq_true c4
    clear c4
    obtain rfl := Option.some.inj H
    go_enter Tryd.func99, Tryd.ntmps99
    go_wp2
    go_ret
    exact rdd
  · rw [if_neg c4] at H
    have c4b0 : decide (a1 ≤ a0) = false := decide_eq_false c4
    clear c4
    obtain rfl := Option.some.inj H
    go_enter Tryd.func99, Tryd.ntmps99
    go_wp2
    go_ret
    exact rdd

/-! ### impl_block: function 125 -/
def impl_block.f (a0 : Int) : Option (Int × Int) := if a0 ≥ 512 then (if a0 < 1280 then (some (Go.bits .andNot .i64 a0 255, Go.bits .and .i64 a0 255)) else (some (0, 0))) else (some (0, 0))
set_option maxHeartbeats 8000000 in
set_option maxRecDepth 100000 in
theorem impl_block.calls (a0 : Int) (r1 : Int) (r2 : Int) (w : World) (h : impl_block.f a0 = some (r1, r2)) :
    Calls Tryd.prog 125 #[.int .i64 a0] w fun e w' => e = .returned (.tuple #[.int .i64 r1, .int .i64 r2]) ∧ Drawn0 w w' := by
  have H : (if a0 ≥ 512 then (if a0 < 1280 then (some (Go.bits .andNot .i64 a0 255, Go.bits .and .i64 a0 255)) else (some (0, 0))) else (some (0, 0))) = some (r1, r2) := h
  clear h
  by_cases c2 : a0 ≥ 512
  · rw [if_pos c2] at H
    have c2b0 : decide (512 ≤ a0) = true := decide_eq_true c2
    clear c2
    by_cases c3 : a0 < 1280
    · rw [if_pos c3] at H
      have c3b0 : decide (a0 < 1280) = true := decide_eq_true c3
      clear c3
      simp only [Option.some.injEq, Prod.mk.injEq] at H
      obtain ⟨rfl, rfl⟩ := H
      go_enter Tryd.func125, Tryd.ntmps125
      go_wp2
      go_ret2
      exact rdd
    · rw [if_neg c3] at H
      have c3b0 : decide (a0 < 1280) = false := decide_eq_false c3
      clear c3
      simp only [Option.some.injEq, Prod.mk.injEq] at H
      obtain ⟨rfl, rfl⟩ := H
      go_enter Tryd.func125, Tryd.ntmps125
      go_wp2
      go_ret2
      exact rdd
  · rw [if_neg c2] at H
    have c2b0 : decide (512 ≤ a0) = false := decide_eq_false c2
    clear c2
    simp only [Option.some.injEq, Prod.mk.injEq] at H
    obtain ⟨rfl, rfl⟩ := H
    go_enter Tryd.func125, Tryd.ntmps125
    go_wp2
    go_ret2
    exact rdd

end Go.Proofs.YtmlhnpggjkoinaaDoor.PFnExactFewestWords

-- Written by a program of this session (wip/tools/myprint.py) that runs the kit's print with hooks of its own. Lean checks it.
import Derived.Test.YtmlhnpggjkoinaaDoorPFnExactFewestWordsx0
import Derived.Test.YtmlhnpggjkoinaaDoorSlimMore
import Derived.Test.YtmlhnpggjkoinaaDoorSlimStep
import Derived.Test.YtmlhnpggjkoinaaDoorPFnExactFewestWordsx2
import Derived.Test.YtmlhnpggjkoinaaDoorPFnExactFewestWordsx3
namespace Go.Proofs.YtmlhnpggjkoinaaDoor.PFnExactFewestWords
open Go.RowKit Go.Proofs.YtmlhnpggjkoinaaDoorW.PrintWords Go.Proofs.YtmlhnpggjkoinaaDoorW.PrintLast Go.Proofs.YtmlhnpggjkoinaaDoorW.PrintMore
attribute [local go_sem] max2_int min2_int max_two min_two max_three min_three max_four min_four   -- for this text's walks alone
set_option linter.unusedVariables false
set_option linter.unusedSimpArgs false

/-! ### spec_WordsFault: function 43 -/
mutual
def spec_WordsFault.l0 : Nat → List ByteArray → Int → Option (Int)
  | 0, _, _ => none
  | k + 1, x0, x3 => if x3 < (x0.length : Int) then (if 0 ≤ x3 then ((spec_l01Points.f k (rdOf ByteArray.empty x0 x3)).bind fun t170 => (if (t170.length : Int) < 1 then (spec_WordsFault.j1 k x0 x3 t170 true) else (if (t170.length : Int) > 60 then (spec_WordsFault.j1 k x0 x3 t170 true) else ((spec_l01Text.f k t170).bind fun t173 => (if t173.toList = (rdOf ByteArray.empty x0 x3).toList then (if x3 > 0 then (if 0 ≤ (wrap64 (x3 - 1)) then (if (wrap64 (x3 - 1)) < (x0.length : Int) then (spec_WordsFault.j1 k x0 x3 t170 (!(Op.bytesLess ((rdOf ByteArray.empty x0 (wrap64 (x3 - 1))).toList) ((rdOf ByteArray.empty x0 x3).toList)))) else (none)) else (none)) else (spec_WordsFault.j1 k x0 x3 t170 false)) else (spec_WordsFault.j1 k x0 x3 t170 true)))))) else (none)) else (some 0)
def spec_WordsFault.j1 : Nat → List ByteArray → Int → List Int → Bool → Option (Int)
  | 0, _, _, _, _ => none
  | k + 1, x0, x3, x4, x52 => if x52 = true then (some 1) else (spec_WordsFault.l1 k x0 x3 x4 0)
def spec_WordsFault.l1 : Nat → List ByteArray → Int → List Int → Int → Option (Int)
  | 0, _, _, _, _ => none
  | k + 1, x0, x3, x4, x5 => if x5 < (x4.length : Int) then (if 0 ≤ x5 then ((spec_l01Script.f k (rd x4 x5)).bind fun t178 => (if t178 = 8 then (spec_WordsFault.l1 k x0 x3 x4 (wrap64 (x5 + 1))) else (some 1))) else (none)) else (spec_WordsFault.l0 k x0 (wrap64 (x3 + 1)))
end
def spec_WordsFault.f (k : Nat) (l0 : List ByteArray) : Option (Int) := if (l0.length : Int) > 1000 then (some 1) else (spec_WordsFault.l0 k l0 0)
theorem spec_WordsFault.mono_l : ∀ k, (∀ y0 y1, LeO (spec_WordsFault.l0 k y0 y1) (spec_WordsFault.l0 (k + 1) y0 y1)) ∧ (∀ y0 y1 y2 y3, LeO (spec_WordsFault.j1 k y0 y1 y2 y3) (spec_WordsFault.j1 (k + 1) y0 y1 y2 y3)) ∧ (∀ y0 y1 y2 y3, LeO (spec_WordsFault.l1 k y0 y1 y2 y3) (spec_WordsFault.l1 (k + 1) y0 y1 y2 y3))
  | 0 => ⟨fun _ _ r h => by simp [spec_WordsFault.l0] at h, fun _ _ _ _ r h => by simp [spec_WordsFault.j1] at h, fun _ _ _ _ r h => by simp [spec_WordsFault.l1] at h⟩
  | k + 1 => by
    obtain ⟨ih0, ih1, ih2⟩ := spec_WordsFault.mono_l k
    refine ⟨?_, ?_, ?_⟩
    · intro y0 y1
      unfold spec_WordsFault.l0
      repeat' first
      | (with_reducible exact ih0 _ _)
      | (with_reducible exact ih1 _ _ _ _)
      | (with_reducible exact ih2 _ _ _ _)
      | (with_reducible exact spec_l01Points.mono _ _)
      | (with_reducible exact spec_l01Script.mono _ _)
      | (with_reducible exact spec_l01Text.mono _ _)
      | (with_reducible exact LeO.refl _)
      | (with_reducible exact LeO.none _)
      | (with_reducible refine LeO.ite ?_ ?_)
      | (with_reducible refine LeO.bind ?_ (fun _ => ?_))
      | exact ih0 _ _
      | exact ih1 _ _ _ _
      | exact ih2 _ _ _ _
      | exact spec_l01Points.mono _ _
      | exact spec_l01Script.mono _ _
      | exact spec_l01Text.mono _ _
      | exact LeO.none _
      | refine LeO.ite ?_ ?_
      | refine LeO.bind ?_ (fun _ => ?_)
    · intro y0 y1 y2 y3
      unfold spec_WordsFault.j1
      repeat' first
      | (with_reducible exact ih0 _ _)
      | (with_reducible exact ih1 _ _ _ _)
      | (with_reducible exact ih2 _ _ _ _)
      | (with_reducible exact spec_l01Points.mono _ _)
      | (with_reducible exact spec_l01Script.mono _ _)
      | (with_reducible exact spec_l01Text.mono _ _)
      | (with_reducible exact LeO.refl _)
      | (with_reducible exact LeO.none _)
      | (with_reducible refine LeO.ite ?_ ?_)
      | (with_reducible refine LeO.bind ?_ (fun _ => ?_))
      | exact ih0 _ _
      | exact ih1 _ _ _ _
      | exact ih2 _ _ _ _
      | exact spec_l01Points.mono _ _
      | exact spec_l01Script.mono _ _
      | exact spec_l01Text.mono _ _
      | exact LeO.none _
      | refine LeO.ite ?_ ?_
      | refine LeO.bind ?_ (fun _ => ?_)
    · intro y0 y1 y2 y3
      unfold spec_WordsFault.l1
      repeat' first
      | (with_reducible exact ih0 _ _)
      | (with_reducible exact ih1 _ _ _ _)
      | (with_reducible exact ih2 _ _ _ _)
      | (with_reducible exact spec_l01Points.mono _ _)
      | (with_reducible exact spec_l01Script.mono _ _)
      | (with_reducible exact spec_l01Text.mono _ _)
      | (with_reducible exact LeO.refl _)
      | (with_reducible exact LeO.none _)
      | (with_reducible refine LeO.ite ?_ ?_)
      | (with_reducible refine LeO.bind ?_ (fun _ => ?_))
      | exact ih0 _ _
      | exact ih1 _ _ _ _
      | exact ih2 _ _ _ _
      | exact spec_l01Points.mono _ _
      | exact spec_l01Script.mono _ _
      | exact spec_l01Text.mono _ _
      | exact LeO.none _
      | refine LeO.ite ?_ ?_
      | refine LeO.bind ?_ (fun _ => ?_)
theorem spec_WordsFault.mono : ∀ a0 k, LeO (spec_WordsFault.f k a0) (spec_WordsFault.f (k + 1) a0) := by
  intro a0 k
  obtain ⟨ih0, ih1, ih2⟩ := spec_WordsFault.mono_l k
  unfold spec_WordsFault.f
  repeat' first
      | (with_reducible exact ih0 _ _)
      | (with_reducible exact ih1 _ _ _ _)
      | (with_reducible exact ih2 _ _ _ _)
      | (with_reducible exact spec_l01Points.mono _ _)
      | (with_reducible exact spec_l01Script.mono _ _)
      | (with_reducible exact spec_l01Text.mono _ _)
      | (with_reducible exact LeO.refl _)
      | (with_reducible exact LeO.none _)
      | (with_reducible refine LeO.ite ?_ ?_)
      | (with_reducible refine LeO.bind ?_ (fun _ => ?_))
      | exact ih0 _ _
      | exact ih1 _ _ _ _
      | exact ih2 _ _ _ _
      | exact spec_l01Points.mono _ _
      | exact spec_l01Script.mono _ _
      | exact spec_l01Text.mono _ _
      | exact LeO.none _
      | refine LeO.ite ?_ ?_
      | refine LeO.bind ?_ (fun _ => ?_)
def spec_WordsFault.T7 : Bool × List (List Nat × List Nat) := (true, [([], []), ([0], [0]), ([1], [1]), ([2], [2]), ([3], [3]), ([4, 3], [3, 4]), ([5, 3], [3, 5]), ([3, 6], [3, 6]), ([7, 3], [7]), ([8], [8]), ([9, 8, 8], [8, 9]), ([8], [8]), ([8], [8]), ([11, 12, 8], [8, 11, 12]), ([13, 8], [8, 13]), ([10, 14, 8], [8, 10, 14]), ([8, 15], [8, 15]), ([16, 10], [16]), ([17], [17]), ([18, 17], [17, 18]), ([19, 17, 17], [17, 19]), ([20], [20]), ([20], [20]), ([22, 20], [20, 22]), ([21, 23, 20], [20, 21, 23]), ([24, 20], [20, 24]), ([20], [20]), ([20], [20]), ([26, 27, 20], [20, 26, 27]), ([28, 20], [20, 28]), ([25, 29, 20], [20, 25, 29]), ([20, 30, 17], [17, 20, 30]), ([17, 31], [17, 31])])
def spec_WordsFault.B7 : List Nat := [0, 1, 3, 7, 15, 31, 63, 127, 255, 511, 1023, 511, 511, 6655, 14847, 32767, 65535, 131071, 262143, 524287, 1048575, 2097151, 2097151, 6291455, 16777215, 33554431, 2097151, 2097151, 203423743, 471859199, 1073741823, 2147483647, 4294967295]
theorem spec_WordsFault.tab7 : rtab .any (opsOf Tryd.f43 7) = spec_WordsFault.T7 := by kernel_rfl
theorem spec_WordsFault.bits7 : waitsOk spec_WordsFault.T7.2 spec_WordsFault.B7 = true := by kernel_rfl
set_option maxHeartbeats 8000000 in
set_option maxRecDepth 100000 in
theorem spec_WordsFault.calls (k : Nat) (A0 : Option Addr) (c0 : Nat) (l0 : List ByteArray) (r : Int) (w : World) (hr0 : Kd.C Kd.string w A0 l0.length l0) (hc0 : l0.length ≤ c0) (h : spec_WordsFault.f k l0 = some r) :
    Calls Tryd.prog 43 #[.slice A0 l0.length c0] w fun e w' => e = .returned (.int .i64 r) ∧ Below w.heap.size w w' := by
  have HR0 := am hr0
  have HC0 := am hc0
  clear hr0 hc0
  have HB := am (Below.refl w.heap.size w)
  have H : (if (l0.length : Int) > 1000 then (some 1) else (spec_WordsFault.l0 k l0 0)) = some r := h
  clear h
  by_cases c2 : (l0.length : Int) > 1000
  · rw [if_pos c2] at H
    have c2b0 : decide (1000 < (l0.length : Int)) = true := decide_eq_true c2
    have c2b1 : decide (1000 < l0.length) = true := decide_eq_true (by omega)
    clear c2
    obtain rfl := Option.some.inj H
    go_enter Tryd.func43, Tryd.ntmps43
    go_wp2
    go_ret
    exact ⟨rv, bB⟩
  · rw [if_neg c2] at H
    have c2b0 : decide (1000 < (l0.length : Int)) = false := decide_eq_false c2
    have c2b1 : decide (1000 < l0.length) = false := decide_eq_false (by omega)
    clear c2
    have H' := am H
    clear H
    go_enter Tryd.func43, Tryd.ntmps43
    go_wp2
    go_loopg [3] k (fun kq v3 w' => ∃ (x3_1 : Int), v3 = .int .i64 x3_1 ∧ Aside0 (spec_WordsFault.l0 kq l0 x3_1 = some r) ∧ Aside0 (kq ≤ k) ∧ Aside0 (Below w.heap.size w w'))
    case atStart => exact ⟨(0), (by first | rfl | (simp; done) | (simp [*]; done)), H', ⟨Nat.le_refl _⟩, ⟨bB⟩⟩
    case round =>
      clear H'
      try clear c2
      try clear c2b0
      try clear c2b1
      try clear p2
      obtain ⟨x3_1, rfl, HA, HK1, HB⟩ := hrel
      cases gk with
      | zero => exact absurd HA.out (by simp [spec_WordsFault.l0])
      | succ k1 =>
        have H := HA.out
        clear HA
        simp only [spec_WordsFault.l0] at H
        by_cases c3 : x3_1 < (l0.length : Int)
        · rw [if_pos c3] at H
          have c3b0 : decide (x3_1 < (l0.length : Int)) = true := decide_eq_true c3
          clear c3
          by_cases c4 : 0 ≤ x3_1
          · rw [if_pos c4] at H
            have c4b0 : decide (0 ≤ x3_1) = true := decide_eq_true c4
            clear c4
            replace H := Option.bind_eq_some_iff.mp H
            obtain ⟨t170, A50, H⟩ := H
            replace H : (if (t170.length : Int) < 1 then (spec_WordsFault.j1 k1 l0 x3_1 t170 true) else (if (t170.length : Int) > 60 then (spec_WordsFault.j1 k1 l0 x3_1 t170 true) else ((spec_l01Text.f k1 t170).bind fun t173 => (if t173.toList = (rdOf ByteArray.empty l0 x3_1).toList then (if x3_1 > 0 then (if 0 ≤ (wrap64 (x3_1 - 1)) then (if (wrap64 (x3_1 - 1)) < (l0.length : Int) then (spec_WordsFault.j1 k1 l0 x3_1 t170 (!(Op.bytesLess ((rdOf ByteArray.empty l0 (wrap64 (x3_1 - 1))).toList) ((rdOf ByteArray.empty l0 x3_1).toList)))) else (none)) else (none)) else (spec_WordsFault.j1 k1 l0 x3_1 t170 false)) else (spec_WordsFault.j1 k1 l0 x3_1 t170 true))))) = some r := H
            have A5 := am A50
            clear A50
            have HC6 := am H
            clear H
            have p169 : 0 ≤ (x3_1 : Int) := od
            have q169 : x3_1 < (l0.length : Int) := od
            obtain ⟨ad169, e169, hx169_0⟩ := Kd.at_string HR0.out x3_1 p169 q169
            cases e169
            replace hx169_0 := (HB.out.cell (World.block_lt_of_cell? w _ hx169_0)).trans hx169_0
            replace p169 := eq_true p169
            replace q169 := eq_true q169
            go_upto_region 7 with (first | ((with_reducible refine gate_callee (f := 61) rfl ?_); refine gl 19 Tryd.func61 #[.string (rdOf ByteArray.empty l0 x3_1)] ?_; (with_reducible refine (spec_l01Points.calls k1 (rdOf ByteArray.empty l0 x3_1) t170 _ A5.out).mono ?_); rintro e w7 ⟨v171, rfl, ho0, hb⟩; refine ⟨_, rfl, ?_⟩; have HO172 := am (Kd.R_lower ho0 (below_size bB)); replace HB := am (below_step bB hb); (try clear hb); (try clear hb2); (try clear hk); (try clear hi); (try clear ho0)))
            (try simp only [Act.put, List.setIfInBounds_toArray, List.set_cons_zero, List.set_cons_succ])
            go_cut [52] (fun v52 wc => ∃ (kq : Nat) (x52_5 : Bool), v52 = .bool x52_5 ∧ Aside0 (spec_WordsFault.j1 kq l0 x3_1 t170 x52_5 = some r) ∧ Aside0 (kq ≤ k1) ∧ Aside0 (Kd.R (Kd.int .i64) 2 wc w.heap.size (fun _ => True) v171 t170) ∧ Aside0 (Below w.heap.size w wc))
            case first =>
              have H := HC6.out
              clear HC6
              by_cases c8 : (t170.length : Int) < 1
              · rw [if_pos c8] at H
                have c8b0 : decide ((t170.length : Int) < 1) = true := decide_eq_true c8
                have c8b1 : decide (t170.length < 1) = true := decide_eq_true (by omega)
                clear c8
                (first | rw [c8b0] | (simp only [i64_w, i32_w]; rw [c8b0]) | skip)
                have H' := am H
                clear H
                try go_wp2
                replace HO172 := am (Kd.R_drew HO172.out)
                replace HB := am (below_drew1 HB.out)
                obtain ⟨Ao10, co10, eo10⟩ := Kd.R_slice HO172.out
                (first | subst eo10 | (injection eo10 with f1_ f2_ f3_; have f4_ := f1_.symm; have f5_ := f3_.symm; clear f1_ f2_ f3_; subst f4_; subst f5_))
                refine start_ (n := 33) (S := fun w' => True) (ds := []) #[false, false, false, false, false, false, false, false, false, false, false, false, false, false, false, false, false, false, false, false, false, false, false, false, false, false, false, false, false, false, false, false, false] (by kernel_rfl) rfl rfl trivial (fun hHeld => ?_); refine with_tabW spec_WordsFault.tab7 spec_WordsFault.bits7 (fun HT_ HW_ => ?_)
                generalize w7.drew = w9 at HO172 HB hHeld ⊢
                refine pq 0 20 HT_.out ?_
                refine pq 1 21 HT_.out ?_
                refine pq 2 22 HT_.out ?_
                refine pq 3 23 HT_.out ?_
                refine pu 4 24 HT_.out ?_
                refine pu 5 25 HT_.out ?_
                refine pu 6 26 HT_.out ?_
                refine pq 7 27 HT_.out ?_
                refine pq 8 28 HT_.out ?_
                refine pu 9 29 HT_.out ?_
                refine pu 10 30 HT_.out ?_
                refine pu 11 31 HT_.out ?_
                refine pu 12 32 HT_.out ?_
                refine pu 13 33 HT_.out ?_
                refine pu 14 34 HT_.out ?_
                refine pu 15 35 HT_.out ?_
                refine pq 16 36 HT_.out ?_
                refine pq 17 37 HT_.out ?_
                refine pu 18 38 HT_.out ?_
                refine pu 19 39 HT_.out ?_
                refine pu 20 40 HT_.out ?_
                refine pu 21 41 HT_.out ?_
                refine pu 22 42 HT_.out ?_
                refine pu 23 43 HT_.out ?_
                refine pu 24 44 HT_.out ?_
                refine pu 25 45 HT_.out ?_
                refine pu 26 46 HT_.out ?_
                refine pu 27 47 HT_.out ?_
                refine pu 28 48 HT_.out ?_
                refine pu 29 49 HT_.out ?_
                refine pu 30 50 HT_.out ?_
                refine pu 31 51 HT_.out ?_
                refine pq 32 52 HT_.out ?_
                refine done_ (done_of HT_.out (by kernel_rfl)) ?_
                try go_wp2
                go_meet
                case rel => exact ⟨_, (true), (by first | rfl | (simp; done) | (simp [*]; done)), H', ⟨by have := HK1.out; first | omega | exact Nat.le_refl _⟩, ⟨kR HO172.out⟩, ⟨bB⟩⟩
              · rw [if_neg c8] at H
                have c8b0 : decide ((t170.length : Int) < 1) = false := decide_eq_false c8
                have c8b1 : decide (t170.length < 1) = false := decide_eq_false (by omega)
                clear c8
                (first | rw [c8b0] | (simp only [i64_w, i32_w]; rw [c8b0]) | skip)
                by_cases c11 : (t170.length : Int) > 60
                · rw [if_pos c11] at H
                  have c11b0 : decide (60 < (t170.length : Int)) = true := decide_eq_true c11
                  have c11b1 : decide (60 < t170.length) = true := decide_eq_true (by omega)
                  clear c11
                  have H' := am H
                  clear H
                  try go_wp2
                  replace HO172 := am (Kd.R_drew HO172.out)
                  replace HB := am (below_drew1 HB.out)
                  obtain ⟨Ao13, co13, eo13⟩ := Kd.R_slice HO172.out
                  (first | subst eo13 | (injection eo13 with f1_ f2_ f3_; have f4_ := f1_.symm; have f5_ := f3_.symm; clear f1_ f2_ f3_; subst f4_; subst f5_))
                  refine start_ (n := 33) (S := fun w' => True) (ds := []) #[false, false, false, false, false, false, false, false, false, false, false, false, false, false, false, false, false, false, false, false, false, false, false, false, false, false, false, false, false, false, false, false, false] (by kernel_rfl) rfl rfl trivial (fun hHeld => ?_); refine with_tabW spec_WordsFault.tab7 spec_WordsFault.bits7 (fun HT_ HW_ => ?_)
                  generalize w7.drew = w12 at HO172 HB hHeld ⊢
                  refine pq 0 20 HT_.out ?_
                  refine pq 1 21 HT_.out ?_
                  refine pq 2 22 HT_.out ?_
                  refine pq 3 23 HT_.out ?_
                  refine pq 4 24 HT_.out ?_
                  refine pq 5 25 HT_.out ?_
                  refine pq 6 26 HT_.out ?_
                  refine pq 7 27 HT_.out ?_
                  refine pq 8 28 HT_.out ?_
                  refine pu 9 29 HT_.out ?_
                  refine pu 10 30 HT_.out ?_
                  refine pu 11 31 HT_.out ?_
                  refine pu 12 32 HT_.out ?_
                  refine pu 13 33 HT_.out ?_
                  refine pu 14 34 HT_.out ?_
                  refine pu 15 35 HT_.out ?_
                  refine pq 16 36 HT_.out ?_
                  refine pq 17 37 HT_.out ?_
                  refine pu 18 38 HT_.out ?_
                  refine pu 19 39 HT_.out ?_
                  refine pu 20 40 HT_.out ?_
                  refine pu 21 41 HT_.out ?_
                  refine pu 22 42 HT_.out ?_
                  refine pu 23 43 HT_.out ?_
                  refine pu 24 44 HT_.out ?_
                  refine pu 25 45 HT_.out ?_
                  refine pu 26 46 HT_.out ?_
                  refine pu 27 47 HT_.out ?_
                  refine pu 28 48 HT_.out ?_
                  refine pu 29 49 HT_.out ?_
                  refine pu 30 50 HT_.out ?_
                  refine pu 31 51 HT_.out ?_
                  refine pq 32 52 HT_.out ?_
                  refine done_ (done_of HT_.out (by kernel_rfl)) ?_
                  try go_wp2
                  go_meet
                  case rel => exact ⟨_, (true), (by first | rfl | (simp; done) | (simp [*]; done)), H', ⟨by have := HK1.out; first | omega | exact Nat.le_refl _⟩, ⟨kR HO172.out⟩, ⟨bB⟩⟩
                · rw [if_neg c11] at H
                  have c11b0 : decide (60 < (t170.length : Int)) = false := decide_eq_false c11
                  have c11b1 : decide (60 < t170.length) = false := decide_eq_false (by omega)
                  clear c11
                  replace H := Option.bind_eq_some_iff.mp H
                  obtain ⟨t173, A140, H⟩ := H
                  replace H : (if t173.toList = (rdOf ByteArray.empty l0 x3_1).toList then (if x3_1 > 0 then (if 0 ≤ (wrap64 (x3_1 - 1)) then (if (wrap64 (x3_1 - 1)) < (l0.length : Int) then (spec_WordsFault.j1 k1 l0 x3_1 t170 (!(Op.bytesLess ((rdOf ByteArray.empty l0 (wrap64 (x3_1 - 1))).toList) ((rdOf ByteArray.empty l0 x3_1).toList)))) else (none)) else (none)) else (spec_WordsFault.j1 k1 l0 x3_1 t170 false)) else (spec_WordsFault.j1 k1 l0 x3_1 t170 true)) = some r := H
                  have A14 := am A140
                  clear A140
                  by_cases c15 : t173.toList = (rdOf ByteArray.empty l0 x3_1).toList
                  · rw [if_pos c15] at H
                    have c15b0 : (t173.toList == (rdOf ByteArray.empty l0 x3_1).toList) = true := beq_iff_eq.mpr c15
                    have c15b1 : (t173.toList != (rdOf ByteArray.empty l0 x3_1).toList) = false := bne_eq_false_iff_eq.mpr c15
                    clear c15
                    by_cases c16 : x3_1 > 0
                    · rw [if_pos c16] at H
                      have c16b0 : decide (0 < x3_1) = true := decide_eq_true c16
                      clear c16
                      obtain ⟨ji17, hji17⟩ : ∃ j_ : Int, (wrap64 (x3_1 - 1)) = j_ := ⟨_, rfl⟩
                      replace H : (if 0 ≤ (ji17) then (if (ji17) < (l0.length : Int) then (spec_WordsFault.j1 k1 l0 x3_1 t170 (!(Op.bytesLess ((rdOf ByteArray.empty l0 (ji17)).toList) ((rdOf ByteArray.empty l0 x3_1).toList)))) else (none)) else (none)) = some r := by first | (rw [hji17] at H; exact H) | (simp only [hji17] at H ⊢; exact H)
                      (try rw [hji17] at A14)
                      have hji17w : (IntKind.i64.wrap (x3_1 - 1)) = ji17 := (i64_w _).trans hji17
                      by_cases c18 : 0 ≤ (ji17)
                      · rw [if_pos c18] at H
                        have c18b0 : decide (0 ≤ (ji17)) = true := decide_eq_true c18
                        clear c18
                        by_cases c19 : (ji17) < (l0.length : Int)
                        · rw [if_pos c19] at H
                          have c19b0 : decide ((ji17) < (l0.length : Int)) = true := decide_eq_true c19
                          clear c19
                          have H' := am H
                          clear H
                          try go_wp2
                          replace HO172 := am (Kd.R_drew HO172.out)
                          replace HB := am (below_drew1 HB.out)
                          obtain ⟨Ao21, co21, eo21⟩ := Kd.R_slice HO172.out
                          (first | subst eo21 | (injection eo21 with f1_ f2_ f3_; have f4_ := f1_.symm; have f5_ := f3_.symm; clear f1_ f2_ f3_; subst f4_; subst f5_))
                          have p174 : 0 ≤ (x3_1 : Int) := od
                          have q174 : x3_1 < (l0.length : Int) := od
                          obtain ⟨ad174, e174, hx174_0⟩ := Kd.at_string HR0.out x3_1 p174 q174
                          have hw174_0 := hx174_0
                          obtain rfl : ad169 = ad174 := (by injection e174)
                          replace hx174_0 := (HB.out.cell (World.block_lt_of_cell? w _ hx174_0)).trans hx174_0
                          replace p174 := eq_true p174
                          replace q174 := eq_true q174
                          have p175 : 0 ≤ ((ji17) : Int) := od
                          have q175 : (ji17) < (l0.length : Int) := od
                          obtain ⟨ad175, e175, hx175_0⟩ := Kd.at_string HR0.out (ji17) p175 q175
                          have hw175_0 := hx175_0
                          obtain rfl : ad169 = ad175 := (by injection e175)
                          replace hx175_0 := (HB.out.cell (World.block_lt_of_cell? w _ hx175_0)).trans hx175_0
                          replace p175 := eq_true p175
                          replace q175 := eq_true q175
                          have p176 : 0 ≤ (x3_1 : Int) := od
                          have q176 : x3_1 < (l0.length : Int) := od
                          obtain ⟨ad176, e176, hx176_0⟩ := Kd.at_string HR0.out x3_1 p176 q176
                          have hw176_0 := hx176_0
                          obtain rfl : ad169 = ad176 := (by injection e176)
                          replace hx176_0 := (HB.out.cell (World.block_lt_of_cell? w _ hx176_0)).trans hx176_0
                          replace p176 := eq_true p176
                          replace q176 := eq_true q176
                          refine start_ (n := 33) (S := fun w' => w'.cell? (ad169.add (x3_1).toNat) = some (.string (rdOf ByteArray.empty l0 x3_1)) ∧ w'.cell? (ad169.add ((ji17)).toNat) = some (.string (rdOf ByteArray.empty l0 (ji17))) ∧ w'.cell? (ad169.add (x3_1).toNat) = some (.string (rdOf ByteArray.empty l0 x3_1))) (ds := []) #[false, false, false, false, false, false, false, false, false, false, false, false, false, false, false, false, false, false, false, false, false, false, false, false, false, false, false, false, false, false, false, false, false] (by kernel_rfl) rfl rfl ⟨((HB.out.cell (World.block_lt_of_cell? w _ hw174_0)).trans hw174_0), ((HB.out.cell (World.block_lt_of_cell? w _ hw175_0)).trans hw175_0), ((HB.out.cell (World.block_lt_of_cell? w _ hw176_0)).trans hw176_0)⟩ (fun hHeld => ?_); refine with_tabW spec_WordsFault.tab7 spec_WordsFault.bits7 (fun HT_ HW_ => ?_)
                          generalize w7.drew = w20 at HO172 HB hx174_0 hx175_0 hx176_0 hHeld ⊢
                          refine pq 0 20 HT_.out ?_
                          refine pq 1 21 HT_.out ?_
                          refine pq 2 22 HT_.out ?_
                          refine pq 3 23 HT_.out ?_
                          refine pq 4 24 HT_.out ?_
                          refine pq 5 25 HT_.out ?_
                          refine pq 6 26 HT_.out ?_
                          refine pq 7 27 HT_.out ?_
                          refine pq 8 28 HT_.out ?_
                          refine pq 9 29 HT_.out ?_
                          refine pq 11 31 HT_.out ?_
                          refine pq 12 32 HT_.out ?_
                          refine pq 13 33 HT_.out ?_
                          refine take_ (i := 14) (N := some 34) (v := ?_) (a' := ?_) #[true, true, true, true, true, true, true, true, true, true, false, true, true, true, true, false, false, false, false, false, false, false, false, false, false, false, false, false, false, false, false, false, false] rfl rfl (take_ofW HT_.out HW_.out (by kernel_rfl)) (fun _ _ _ h => h) (Or.inl ⟨by rfl, ?_⟩) hHeld ?_ ?_
                          rotate_left
                          · rintro w' ⟨s0, s1, s2⟩
                            go_simp
                            with_reducible rfl
                          rotate_left
                          · simp only [Act.put, List.setIfInBounds_toArray, List.set_cons_zero, List.set_cons_succ, i64_w, i32_w]
                            rfl
                          refine one_ (i := 10) (N := some 30) #[true, true, true, true, true, true, true, true, true, true, true, true, true, true, true, false, false, false, false, false, false, false, false, false, false, false, false, false, false, false, false, false, false] rfl rfl (one_of HT_.out (by kernel_rfl)) (by decide) (fun K hK => ?_)
                          refine goes_ Tryd.func75 (by kernel_rfl) rfl #[.slice Ao21 t170.length co21] (by rfl) rfl rfl (by (try simp only [List.map_toArray, List.map_cons, List.map_nil]); first | done | rfl | (simp only [List.length_drop, List.length_take]; rfl)) ?_
                          with_reducible refine (spec_l01Text.calls k1 _ _ t170 t173 _ ?side1 ?side2 A14.out).mono ?_
                          (case side1 => repeat (first | exact (Kd.R_reads' HO172.out).2.2 | (with_reducible refine Kd.C_alloc ?_ _) | (with_reducible refine Kd.C_drewN ?_ _) | (with_reducible refine Kd.C_drew ?_)))
                          (case side2 => exact (Kd.R_reads' HO172.out).2.1)
                          rintro e w22 ⟨rfl, hb⟩
                          refine ⟨_, rfl, ?_⟩
                          replace HO172 := am (Kd.R_below (kR HO172.out) hb)
                          replace HB := am (below_step bB hb)
                          (try clear hb)
                          (try clear hb2)
                          (try clear hk)
                          (try clear hi)
                          refine hK.out _ _ ⟨((HB.out.cell (World.block_lt_of_cell? w _ hw174_0)).trans hw174_0), ((HB.out.cell (World.block_lt_of_cell? w _ hw175_0)).trans hw175_0), ((HB.out.cell (World.block_lt_of_cell? w _ hw176_0)).trans hw176_0)⟩ (fun hHeld => ?_)
                          clear hK K
                          refine norm_ (a' := ?_) ?_ ?_
                          rotate_left
                          · show Act.put _ (some 30) _ = _
                            simp only [Act.put, List.setIfInBounds_toArray, List.set_cons_zero, List.set_cons_succ, i64_w, i32_w]
                            rfl
                          refine pq 15 35 HT_.out ?_
                          refine pq 16 36 HT_.out ?_
                          refine pq 17 37 HT_.out ?_
                          refine pq 18 38 HT_.out ?_
                          refine pq 19 39 HT_.out ?_
                          refine pq 20 40 HT_.out ?_
                          refine pq 21 41 HT_.out ?_
                          refine pq 22 42 HT_.out ?_
                          refine pq 23 43 HT_.out ?_
                          refine pq 24 44 HT_.out ?_
                          refine pq 26 46 HT_.out ?_
                          refine pq 27 47 HT_.out ?_
                          refine pq 28 48 HT_.out ?_
                          refine take_ (i := 25) (N := some 45) (v := ?_) (a' := ?_) #[true, true, true, true, true, true, true, true, true, true, true, true, true, true, true, true, true, true, true, true, true, true, true, true, true, true, true, true, true, false, false, false, false] rfl rfl (take_ofW HT_.out HW_.out (by kernel_rfl)) (fun _ _ _ h => h) (Or.inl ⟨by rfl, ?_⟩) hHeld ?_ ?_
                          rotate_left
                          · rintro w' ⟨s0, s1, s2⟩
                            go_simp
                            with_reducible rfl
                          rotate_left
                          · simp only [Act.put, List.setIfInBounds_toArray, List.set_cons_zero, List.set_cons_succ, i64_w, i32_w]
                            rfl
                          refine take_ (i := 29) (N := some 49) (v := ?_) (a' := ?_) #[true, true, true, true, true, true, true, true, true, true, true, true, true, true, true, true, true, true, true, true, true, true, true, true, true, true, true, true, true, true, false, false, false] rfl rfl (take_ofW HT_.out HW_.out (by kernel_rfl)) (fun _ _ _ h => h) (Or.inl ⟨by rfl, ?_⟩) hHeld ?_ ?_
                          rotate_left
                          · rintro w' ⟨s0, s1, s2⟩
                            go_simp
                            with_reducible rfl
                          rotate_left
                          · simp only [Act.put, List.setIfInBounds_toArray, List.set_cons_zero, List.set_cons_succ, i64_w, i32_w]
                            rfl
                          refine pq 30 50 HT_.out ?_
                          refine pq 31 51 HT_.out ?_
                          refine pq 32 52 HT_.out ?_
                          refine done_ (done_of HT_.out (by kernel_rfl)) ?_
                          try go_wp2
                          go_meet
                          case rel => exact ⟨_, (!(Op.bytesLess ((rdOf ByteArray.empty l0 (ji17)).toList) ((rdOf ByteArray.empty l0 x3_1).toList))), (by first | rfl | (simp; done) | (simp only [← hji17] <;> (first | rfl | simp)) | (simp [*]; done)), H', ⟨by have := HK1.out; first | omega | exact Nat.le_refl _⟩, ⟨kR HO172.out⟩, ⟨bB⟩⟩
                        · rw [if_neg c19] at H
                          exact absurd H (by simp)
                      · rw [if_neg c18] at H
                        exact absurd H (by simp)
                    · rw [if_neg c16] at H
                      have c16b0 : decide (0 < x3_1) = false := decide_eq_false c16
                      clear c16
                      have H' := am H
                      clear H
                      try go_wp2
                      replace HO172 := am (Kd.R_drew HO172.out)
                      replace HB := am (below_drew1 HB.out)
                      obtain ⟨Ao24, co24, eo24⟩ := Kd.R_slice HO172.out
                      (first | subst eo24 | (injection eo24 with f1_ f2_ f3_; have f4_ := f1_.symm; have f5_ := f3_.symm; clear f1_ f2_ f3_; subst f4_; subst f5_))
                      have p174 : 0 ≤ (x3_1 : Int) := od
                      have q174 : x3_1 < (l0.length : Int) := od
                      obtain ⟨ad174, e174, hx174_0⟩ := Kd.at_string HR0.out x3_1 p174 q174
                      have hw174_0 := hx174_0
                      obtain rfl : ad169 = ad174 := (by injection e174)
                      replace hx174_0 := (HB.out.cell (World.block_lt_of_cell? w _ hx174_0)).trans hx174_0
                      replace p174 := eq_true p174
                      replace q174 := eq_true q174
                      refine start_ (n := 33) (S := fun w' => w'.cell? (ad169.add (x3_1).toNat) = some (.string (rdOf ByteArray.empty l0 x3_1))) (ds := []) #[false, false, false, false, false, false, false, false, false, false, false, false, false, false, false, false, false, false, false, false, false, false, false, false, false, false, false, false, false, false, false, false, false] (by kernel_rfl) rfl rfl (((HB.out.cell (World.block_lt_of_cell? w _ hw174_0)).trans hw174_0)) (fun hHeld => ?_); refine with_tabW spec_WordsFault.tab7 spec_WordsFault.bits7 (fun HT_ HW_ => ?_)
                      generalize w7.drew = w23 at HO172 HB hx174_0 hHeld ⊢
                      refine pq 0 20 HT_.out ?_
                      refine pq 1 21 HT_.out ?_
                      refine pq 2 22 HT_.out ?_
                      refine pq 3 23 HT_.out ?_
                      refine pq 4 24 HT_.out ?_
                      refine pq 5 25 HT_.out ?_
                      refine pq 6 26 HT_.out ?_
                      refine pq 7 27 HT_.out ?_
                      refine pq 8 28 HT_.out ?_
                      refine pq 9 29 HT_.out ?_
                      refine pq 11 31 HT_.out ?_
                      refine pq 12 32 HT_.out ?_
                      refine pq 13 33 HT_.out ?_
                      refine take_ (i := 14) (N := some 34) (v := ?_) (a' := ?_) #[true, true, true, true, true, true, true, true, true, true, false, true, true, true, true, false, false, false, false, false, false, false, false, false, false, false, false, false, false, false, false, false, false] rfl rfl (take_ofW HT_.out HW_.out (by kernel_rfl)) (fun _ _ _ h => h) (Or.inl ⟨by rfl, ?_⟩) hHeld ?_ ?_
                      rotate_left
                      · intro w' s0
                        go_simp
                        with_reducible rfl
                      rotate_left
                      · simp only [Act.put, List.setIfInBounds_toArray, List.set_cons_zero, List.set_cons_succ, i64_w, i32_w]
                        rfl
                      refine one_ (i := 10) (N := some 30) #[true, true, true, true, true, true, true, true, true, true, true, true, true, true, true, false, false, false, false, false, false, false, false, false, false, false, false, false, false, false, false, false, false] rfl rfl (one_of HT_.out (by kernel_rfl)) (by decide) (fun K hK => ?_)
                      refine goes_ Tryd.func75 (by kernel_rfl) rfl #[.slice Ao24 t170.length co24] (by rfl) rfl rfl (by (try simp only [List.map_toArray, List.map_cons, List.map_nil]); first | done | rfl | (simp only [List.length_drop, List.length_take]; rfl)) ?_
                      with_reducible refine (spec_l01Text.calls k1 _ _ t170 t173 _ ?side1 ?side2 A14.out).mono ?_
                      (case side1 => repeat (first | exact (Kd.R_reads' HO172.out).2.2 | (with_reducible refine Kd.C_alloc ?_ _) | (with_reducible refine Kd.C_drewN ?_ _) | (with_reducible refine Kd.C_drew ?_)))
                      (case side2 => exact (Kd.R_reads' HO172.out).2.1)
                      rintro e w25 ⟨rfl, hb⟩
                      refine ⟨_, rfl, ?_⟩
                      replace HO172 := am (Kd.R_below (kR HO172.out) hb)
                      replace HB := am (below_step bB hb)
                      (try clear hb)
                      (try clear hb2)
                      (try clear hk)
                      (try clear hi)
                      refine hK.out _ _ (((HB.out.cell (World.block_lt_of_cell? w _ hw174_0)).trans hw174_0)) (fun hHeld => ?_)
                      clear hK K
                      refine norm_ (a' := ?_) ?_ ?_
                      rotate_left
                      · show Act.put _ (some 30) _ = _
                        simp only [Act.put, List.setIfInBounds_toArray, List.set_cons_zero, List.set_cons_succ, i64_w, i32_w]
                        rfl
                      refine pq 15 35 HT_.out ?_
                      refine pq 16 36 HT_.out ?_
                      refine pq 17 37 HT_.out ?_
                      refine pq 18 38 HT_.out ?_
                      refine pq 19 39 HT_.out ?_
                      refine pq 20 40 HT_.out ?_
                      refine pu 21 41 HT_.out ?_
                      refine pu 22 42 HT_.out ?_
                      refine pu 23 43 HT_.out ?_
                      refine pu 24 44 HT_.out ?_
                      refine pu 25 45 HT_.out ?_
                      refine pu 26 46 HT_.out ?_
                      refine pu 27 47 HT_.out ?_
                      refine pu 28 48 HT_.out ?_
                      refine pu 29 49 HT_.out ?_
                      refine pu 30 50 HT_.out ?_
                      refine pq 31 51 HT_.out ?_
                      refine pq 32 52 HT_.out ?_
                      refine done_ (done_of HT_.out (by kernel_rfl)) ?_
                      try go_wp2
                      go_meet
                      case rel => exact ⟨_, (false), (by first | rfl | (simp; done) | (simp [*]; done)), H', ⟨by have := HK1.out; first | omega | exact Nat.le_refl _⟩, ⟨kR HO172.out⟩, ⟨bB⟩⟩
                  · rw [if_neg c15] at H
                    have c15b0 : (t173.toList == (rdOf ByteArray.empty l0 x3_1).toList) = false := beq_eq_false_iff_ne.mpr c15
                    have c15b1 : (t173.toList != (rdOf ByteArray.empty l0 x3_1).toList) = true := bne_iff_ne.mpr c15
                    have H' := am H
                    clear H
                    try go_wp2
                    replace HO172 := am (Kd.R_drew HO172.out)
                    replace HB := am (below_drew1 HB.out)
                    obtain ⟨Ao27, co27, eo27⟩ := Kd.R_slice HO172.out
                    (first | subst eo27 | (injection eo27 with f1_ f2_ f3_; have f4_ := f1_.symm; have f5_ := f3_.symm; clear f1_ f2_ f3_; subst f4_; subst f5_))
                    have p174 : 0 ≤ (x3_1 : Int) := od
                    have q174 : x3_1 < (l0.length : Int) := od
                    obtain ⟨ad174, e174, hx174_0⟩ := Kd.at_string HR0.out x3_1 p174 q174
                    have hw174_0 := hx174_0
                    obtain rfl : ad169 = ad174 := (by injection e174)
                    replace hx174_0 := (HB.out.cell (World.block_lt_of_cell? w _ hx174_0)).trans hx174_0
                    replace p174 := eq_true p174
                    replace q174 := eq_true q174
                    refine start_ (n := 33) (S := fun w' => w'.cell? (ad169.add (x3_1).toNat) = some (.string (rdOf ByteArray.empty l0 x3_1))) (ds := []) #[false, false, false, false, false, false, false, false, false, false, false, false, false, false, false, false, false, false, false, false, false, false, false, false, false, false, false, false, false, false, false, false, false] (by kernel_rfl) rfl rfl (((HB.out.cell (World.block_lt_of_cell? w _ hw174_0)).trans hw174_0)) (fun hHeld => ?_); refine with_tabW spec_WordsFault.tab7 spec_WordsFault.bits7 (fun HT_ HW_ => ?_)
                    generalize w7.drew = w26 at HO172 HB hx174_0 hHeld ⊢
                    refine pq 0 20 HT_.out ?_
                    refine pq 1 21 HT_.out ?_
                    refine pq 2 22 HT_.out ?_
                    refine pq 3 23 HT_.out ?_
                    refine pq 4 24 HT_.out ?_
                    refine pq 5 25 HT_.out ?_
                    refine pq 6 26 HT_.out ?_
                    refine pq 7 27 HT_.out ?_
                    refine pq 8 28 HT_.out ?_
                    refine pq 9 29 HT_.out ?_
                    refine pq 11 31 HT_.out ?_
                    refine pq 12 32 HT_.out ?_
                    refine pq 13 33 HT_.out ?_
                    refine take_ (i := 14) (N := some 34) (v := ?_) (a' := ?_) #[true, true, true, true, true, true, true, true, true, true, false, true, true, true, true, false, false, false, false, false, false, false, false, false, false, false, false, false, false, false, false, false, false] rfl rfl (take_ofW HT_.out HW_.out (by kernel_rfl)) (fun _ _ _ h => h) (Or.inl ⟨by rfl, ?_⟩) hHeld ?_ ?_
                    rotate_left
                    · intro w' s0
                      go_simp
                      with_reducible rfl
                    rotate_left
                    · simp only [Act.put, List.setIfInBounds_toArray, List.set_cons_zero, List.set_cons_succ, i64_w, i32_w]
                      rfl
                    refine one_ (i := 10) (N := some 30) #[true, true, true, true, true, true, true, true, true, true, true, true, true, true, true, false, false, false, false, false, false, false, false, false, false, false, false, false, false, false, false, false, false] rfl rfl (one_of HT_.out (by kernel_rfl)) (by decide) (fun K hK => ?_)
                    refine goes_ Tryd.func75 (by kernel_rfl) rfl #[.slice Ao27 t170.length co27] (by rfl) rfl rfl (by (try simp only [List.map_toArray, List.map_cons, List.map_nil]); first | done | rfl | (simp only [List.length_drop, List.length_take]; rfl)) ?_
                    with_reducible refine (spec_l01Text.calls k1 _ _ t170 t173 _ ?side1 ?side2 A14.out).mono ?_
                    (case side1 => repeat (first | exact (Kd.R_reads' HO172.out).2.2 | (with_reducible refine Kd.C_alloc ?_ _) | (with_reducible refine Kd.C_drewN ?_ _) | (with_reducible refine Kd.C_drew ?_)))
                    (case side2 => exact (Kd.R_reads' HO172.out).2.1)
                    rintro e w28 ⟨rfl, hb⟩
                    refine ⟨_, rfl, ?_⟩
                    replace HO172 := am (Kd.R_below (kR HO172.out) hb)
                    replace HB := am (below_step bB hb)
                    (try clear hb)
                    (try clear hb2)
                    (try clear hk)
                    (try clear hi)
                    refine hK.out _ _ (((HB.out.cell (World.block_lt_of_cell? w _ hw174_0)).trans hw174_0)) (fun hHeld => ?_)
                    clear hK K
                    refine norm_ (a' := ?_) ?_ ?_
                    rotate_left
                    · show Act.put _ (some 30) _ = _
                      simp only [Act.put, List.setIfInBounds_toArray, List.set_cons_zero, List.set_cons_succ, i64_w, i32_w]
                      rfl
                    refine pq 15 35 HT_.out ?_
                    refine pq 16 36 HT_.out ?_
                    refine pq 17 37 HT_.out ?_
                    refine pu 18 38 HT_.out ?_
                    refine pu 19 39 HT_.out ?_
                    refine pu 20 40 HT_.out ?_
                    refine pu 21 41 HT_.out ?_
                    refine pu 22 42 HT_.out ?_
                    refine pu 23 43 HT_.out ?_
                    refine pu 24 44 HT_.out ?_
                    refine pu 25 45 HT_.out ?_
                    refine pu 26 46 HT_.out ?_
                    refine pu 27 47 HT_.out ?_
                    refine pu 28 48 HT_.out ?_
                    refine pu 29 49 HT_.out ?_
                    refine pu 30 50 HT_.out ?_
                    refine pu 31 51 HT_.out ?_
                    refine pq 32 52 HT_.out ?_
                    refine done_ (done_of HT_.out (by kernel_rfl)) ?_
                    try go_wp2
                    go_meet
                    case rel => exact ⟨_, (true), (by first | rfl | (simp; done) | (simp [*]; done)), H', ⟨by have := HK1.out; first | omega | exact Nat.le_refl _⟩, ⟨kR HO172.out⟩, ⟨bB⟩⟩
            case rest =>
              clear HC6
              try clear c1
              try clear p1
              try clear q1
              try clear hx1
              try clear p2
              try clear c7
              try clear c15
              try clear c15b0
              try clear c15b1
              try clear c16
              try clear c16b0
              try clear p17
              try clear q17
              try clear hx17
              try clear c18
              try clear c19
              try clear hx174_0
              try clear p174
              try clear q174
              obtain ⟨kq, x52_5, rfl, HA, HJ5, HO_4, HB⟩ := hcut
              cases kq with
              | zero => exact absurd HA.out (by simp [spec_WordsFault.j1])
              | succ kj5 =>
                have H := HA.out
                clear HA
                simp only [spec_WordsFault.j1] at H
                by_cases c29 : x52_5 = true
                · subst c29
                  have H1 : (some 1) = some r := by rw [if_pos rfl] at H; exact H
                  clear H
                  have H := H1
                  clear H1
                  obtain rfl := Option.some.inj H
                  go_wp2
                  go_ret
                  exact ⟨rv, bB⟩
                · replace c29 := Bool.eq_false_iff.mpr c29
                  subst c29
                  have H1 : (spec_WordsFault.l1 kj5 l0 x3_1 t170 0) = some r := by rw [if_neg (show ¬ (false = true) by decide)] at H; exact H
                  clear H
                  have H := H1
                  clear H1
                  have H' := am H
                  clear H
                  go_wp2
                  go_loopg [5] kj5 (fun kq v5 w' => ∃ (x5_3 : Int), v5 = .int .i64 x5_3 ∧ Aside0 (spec_WordsFault.l1 kq l0 x3_1 t170 x5_3 = some r) ∧ Aside0 (kq ≤ kj5) ∧ Aside0 (Kd.R (Kd.int .i64) 2 w' w.heap.size (fun _ => True) v171 t170) ∧ Aside0 (Below w.heap.size w w'))
                  case atStart => exact ⟨(0), (by first | rfl | (simp; done) | (simp [*]; done)), H', ⟨Nat.le_refl _⟩, ⟨kR HO_4.out⟩, ⟨bB⟩⟩
                  case round =>
                    clear H'
                    try clear c1
                    try clear p1
                    try clear q1
                    try clear hx1
                    try clear c2
                    try clear p2
                    try clear c7
                    try clear c15
                    try clear c15b0
                    try clear c15b1
                    try clear c16
                    try clear c16b0
                    try clear p17
                    try clear q17
                    try clear hx17
                    try clear c18
                    try clear c19
                    try clear c29
                    try clear hx174_0
                    try clear p1
                    try clear p17
                    try clear p174
                    try clear p2
                    try clear q1
                    try clear q17
                    try clear q174
                    obtain ⟨x5_3, rfl, HA, HK3, HO_4, HB⟩ := hrel
                    cases gk with
                    | zero => exact absurd HA.out (by simp [spec_WordsFault.l1])
                    | succ k3 =>
                      have H := HA.out
                      clear HA
                      simp only [spec_WordsFault.l1] at H
                      by_cases c30 : x5_3 < (t170.length : Int)
                      · rw [if_pos c30] at H
                        have c30b0 : decide (x5_3 < (t170.length : Int)) = true := decide_eq_true c30
                        clear c30
                        by_cases c31 : 0 ≤ x5_3
                        · rw [if_pos c31] at H
                          have c31b0 : decide (0 ≤ x5_3) = true := decide_eq_true c31
                          clear c31
                          replace H := Option.bind_eq_some_iff.mp H
                          obtain ⟨t178, A320, H⟩ := H
                          replace H : (if t178 = 8 then (spec_WordsFault.l1 k3 l0 x3_1 t170 (wrap64 (x5_3 + 1))) else (some 1)) = some r := H
                          have A32 := am A320
                          clear A320
                          by_cases c33 : t178 = 8
                          · rw [if_pos c33] at H
                            have c33b0 : (t178 == 8) = true := beq_iff_eq.mpr c33
                            have c33b1 : (t178 != 8) = false := bne_eq_false_iff_eq.mpr c33
                            clear c33
                            have H' := am H
                            clear H
                            obtain ⟨Ao34, co34, eo34⟩ := Kd.R_slice HO_4.out
                            subst eo34
                            have p177 : 0 ≤ (x5_3 : Int) := od
                            have q177 : x5_3 < (t170.length : Int) := od
                            obtain ⟨ad177, e177, hx177_0⟩ := Kd.at_int (Kd.R_reads' HO_4.out).2.2 x5_3 p177 q177
                            cases e177
                            replace p177 := eq_true p177
                            replace q177 := eq_true q177
                            go_wp2_with (first | ((with_reducible refine gate_callee (f := 63) rfl ?_); refine gl 63 Tryd.func63 #[.int .i64 (rd t170 x5_3)] ?_; (with_reducible refine (spec_l01Script.calls k3 (rd t170 x5_3) t178 _ A32.out).mono ?_); rintro e w35 ⟨rfl, hb⟩; refine ⟨_, rfl, ?_⟩; replace HO_4 := am (Kd.R_below (kR HO_4.out) hb); replace HB := am (below_step bB hb); (try clear hb); (try clear hb2); (try clear hk); (try clear hi)))
                            go_roundg k3
                            case measure => have := HK1.out; have := HJ5.out; have := HK3.out; omega
                            case rel => exact ⟨(wrap64 (x5_3 + 1)), (by first | rfl | (simp; done) | (simp [*]; done)), H', ⟨by have := HK1.out; have := HJ5.out; have := HK3.out; omega⟩, ⟨kR HO_4.out⟩, ⟨bB⟩⟩
                          · rw [if_neg c33] at H
                            have c33b0 : (t178 == 8) = false := beq_eq_false_iff_ne.mpr c33
                            have c33b1 : (t178 != 8) = true := bne_iff_ne.mpr c33
                            obtain rfl := Option.some.inj H
                            obtain ⟨Ao36, co36, eo36⟩ := Kd.R_slice HO_4.out
                            subst eo36
                            have p177 : 0 ≤ (x5_3 : Int) := od
                            have q177 : x5_3 < (t170.length : Int) := od
                            obtain ⟨ad177, e177, hx177_0⟩ := Kd.at_int (Kd.R_reads' HO_4.out).2.2 x5_3 p177 q177
                            cases e177
                            replace p177 := eq_true p177
                            replace q177 := eq_true q177
                            go_wp2_with (first | ((with_reducible refine gate_callee (f := 63) rfl ?_); refine gl 63 Tryd.func63 #[.int .i64 (rd t170 x5_3)] ?_; (with_reducible refine (spec_l01Script.calls k3 (rd t170 x5_3) t178 _ A32.out).mono ?_); rintro e w37 ⟨rfl, hb⟩; refine ⟨_, rfl, ?_⟩; replace HO_4 := am (Kd.R_below (kR HO_4.out) hb); replace HB := am (below_step bB hb); (try clear hb); (try clear hb2); (try clear hk); (try clear hi)))
                            go_ret
                            exact ⟨rv, bB⟩
                        · rw [if_neg c31] at H
                          exact absurd H (by simp)
                      · rw [if_neg c30] at H
                        have c30b0 : decide (x5_3 < (t170.length : Int)) = false := decide_eq_false c30
                        clear c30
                        have H' := am H
                        clear H
                        obtain ⟨Ao38, co38, eo38⟩ := Kd.R_slice HO_4.out
                        subst eo38
                        go_wp2
                        go_roundg k3
                        case measure => have := HK1.out; have := HJ5.out; have := HK3.out; omega
                        case rel => exact ⟨(wrap64 (x3_1 + 1)), (by first | rfl | (simp; done) | (simp [*]; done)), H', ⟨by have := HK1.out; have := HJ5.out; have := HK3.out; omega⟩, ⟨bB⟩⟩
          · rw [if_neg c4] at H
            exact absurd H (by simp)
        · rw [if_neg c3] at H
          have c3b0 : decide (x3_1 < (l0.length : Int)) = false := decide_eq_false c3
          clear c3
          obtain rfl := Option.some.inj H
          go_wp2
          go_ret
          exact ⟨rv, bB⟩

end Go.Proofs.YtmlhnpggjkoinaaDoor.PFnExactFewestWords

-- Written by a program of this session (wip/tools/myprint.py) that runs the kit's print with hooks of its own. Lean checks it.
import Derived.Test.YtmlhnpggjkoinaaDoorPFnExactWordsx0
import Derived.Test.YtmlhnpggjkoinaaDoorSlimStep
import Derived.Test.YtmlhnpggjkoinaaDoorSlimMore
import Derived.Test.YtmlhnpggjkoinaaDoorPFnExactWordsx3
import Derived.Test.YtmlhnpggjkoinaaDoorPFnExactWordsx7
import Derived.Test.YtmlhnpggjkoinaaDoorPFnExactWordsx8
import Derived.Test.YtmlhnpggjkoinaaDoorPFnExactWordsx10
namespace Go.Proofs.YtmlhnpggjkoinaaDoor.PFnExactWords
open Go.RowKit Go.Proofs.YtmlhnpggjkoinaaDoorW.PrintWords Go.Proofs.YtmlhnpggjkoinaaDoorW.PrintLast Go.Proofs.YtmlhnpggjkoinaaDoorW.PrintMore
attribute [local go_sem] max2_int min2_int max_two min_two max_three min_three max_four min_four   -- for this text's walks alone
set_option linter.unusedVariables false
set_option linter.unusedSimpArgs false

/-! ### spec_l07Words: function 54 -/
mutual
def spec_l07Words.l0 : Nat → ByteArray → List (S54) → List Int → List Int → List Bool → Int → List Int → List Int → Option (List Int)
 | 0, _, _, _, _, _, _, _, _ => none
 | k + 1, x0, x1, x6, x7, x8, x9, x246000, x246001 => if x9 < (x246000.length : Int) then (if x9 > 0 then (if 0 ≤ x9 then (if 0 ≤ (wrap64 (x9 - 1)) then (if (wrap64 (x9 - 1)) < (x246000.length : Int) then ((spec_l07Belongs.f k (rd x246000 x9) (rd x246000 (wrap64 (x9 - 1)))).bind fun t257 => (if t257 = true then (spec_l07Words.l0 k x0 x1 x6 x7 x8 (wrap64 (x9 + 1)) x246000 x246001) else (if x6.length < 17592186044416 then ((some (x6 ++ [rd x246000 x9] : List Int)).bind fun y259 => (if x9 < (x246001.length : Int) then (if x7.length < 17592186044416 then ((some (x7 ++ [rd x246001 x9] : List Int)).bind fun y263 => (if x9 = 0 then (if x8.length < 140737488355328 then (spec_l07Words.l0 k x0 x1 y259 y263 (x8 ++ [true]) (wrap64 (x9 + 1)) x246000 x246001) else (none)) else ((spec_l07Char.f k x246000 x9).bind fun t269 => (if x8.length < 140737488355328 then (spec_l07Words.l0 k x0 x1 y259 y263 (x8 ++ [t269]) (wrap64 (x9 + 1)) x246000 x246001) else (none))))) else (none)) else (none))) else (none)))) else (none)) else (none)) else (none)) else (if 0 ≤ x9 then (if x6.length < 17592186044416 then ((some (x6 ++ [rd x246000 x9] : List Int)).bind fun y274 => (if x9 < (x246001.length : Int) then (if x7.length < 17592186044416 then ((some (x7 ++ [rd x246001 x9] : List Int)).bind fun y278 => (if x9 = 0 then (if x8.length < 140737488355328 then (spec_l07Words.l0 k x0 x1 y274 y278 (x8 ++ [true]) (wrap64 (x9 + 1)) x246000 x246001) else (none)) else ((spec_l07Char.f k x246000 x9).bind fun t284 => (if x8.length < 140737488355328 then (spec_l07Words.l0 k x0 x1 y274 y278 (x8 ++ [t284]) (wrap64 (x9 + 1)) x246000 x246001) else (none))))) else (none)) else (none))) else (none)) else (none))) else (spec_l07Words.l1 k x0 x1 x6 x7 x8 (([] : List Int)) 0)
def spec_l07Words.l1 : Nat → ByteArray → List (S54) → List Int → List Int → List Bool → List Int → Int → Option (List Int)
 | 0, _, _, _, _, _, _, _ => none
 | k + 1, x0, x1, x6, x7, x8, x10, x11 => if x11 < (x6.length : Int) then (if x11 = 0 then (if 0 ≤ x11 then (if x11 < (x7.length : Int) then (if x10.length < 17592186044416 then (spec_l07Words.l1 k x0 x1 x6 x7 x8 (x10 ++ [rd x7 x11]) (wrap64 (x11 + 1))) else (none)) else (none)) else (none)) else (if 0 ≤ x11 then (if x11 < (x8.length : Int) then ((spec_l07WordCut.f k x6 x11 (rdOf false x8 x11) x1).bind fun t296 => (if t296 = true then (if x11 < (x7.length : Int) then (if x10.length < 17592186044416 then (spec_l07Words.l1 k x0 x1 x6 x7 x8 (x10 ++ [rd x7 x11]) (wrap64 (x11 + 1))) else (none)) else (none)) else (spec_l07Words.l1 k x0 x1 x6 x7 x8 x10 (wrap64 (x11 + 1))))) else (none)) else (none))) else (if (x0.size : Int) > 0 then (if x10.length < 17592186044416 then (some (x10 ++ [(x0.size : Int)])) else (none)) else (some x10))
end
def spec_l07Words.f (k : Nat) (a0 : ByteArray) (l1 : List (S54)) : Option (List Int) := (spec_l07RowOf.f k a0).bind fun bt239 => (spec_l07Words.l0 k a0 l1 (([] : List Int)) (([] : List Int)) (([] : List Bool)) 0 bt239.1 bt239.2)
def spec_l07Words.T8 : Bool × List (List Nat × List Nat) := (true, [([], []), ([0], [0]), ([1], [1]), ([2], [2]), ([3, 2], [2, 3]), ([2], [2]), ([4, 5, 2], [2, 4, 5]), ([6, 2], [2, 6]), ([2], [2]), ([8, 2], [2, 8]), ([2], [2]), ([10, 2], [2, 10]), ([9, 11, 2], [2, 9, 11]), ([12, 2], [2, 12]), ([7, 13, 2, 2], [2, 7, 13]), ([2, 14], [2, 14])])
def spec_l07Words.B8 : List Nat := [0, 1, 3, 7, 15, 7, 63, 127, 7, 263, 7, 1031, 3847, 7943, 16383, 32767]
theorem spec_l07Words.tab8 : rtab .any (opsOf Tryd.f54 8) = spec_l07Words.T8 := by kernel_rfl
theorem spec_l07Words.bits8 : waitsOk spec_l07Words.T8.2 spec_l07Words.B8 = true := by kernel_rfl
set_option maxHeartbeats 8000000 in
set_option maxRecDepth 100000 in
theorem spec_l07Words.calls (k : Nat) (a0 : ByteArray) (A1 : Option Addr) (c1 : Nat) (l1 : List (S54)) (r : List Int) (w : World) (hr1 : Kd.C k54 w A1 l1.length l1) (hc1 : l1.length ≤ c1) (h : spec_l07Words.f k a0 l1 = some r) :
  Calls Tryd.prog 54 #[.string a0, .slice A1 l1.length c1] w fun e w' => ∃ v0_ : Value, e = .returned (v0_) ∧ Kd.R (Kd.int .i64) 2 w' w.heap.size (fun _ => True) v0_ r ∧ Below w.heap.size w w' := by
 have hu76 := Tryd.underlying76
 have HR1 := am hr1
 have HC1 := am hc1
 clear hr1 hc1
 have HB := am (Below.refl w.heap.size w)
 have H : ((spec_l07RowOf.f k a0).bind fun bt239 => (spec_l07Words.l0 k a0 l1 (([] : List Int)) (([] : List Int)) (([] : List Bool)) 0 bt239.1 bt239.2)) = some r := h
 clear h
 replace H := Option.bind_eq_some_iff.mp H
 obtain ⟨⟨t239, t242⟩, A30, H⟩ := H
 replace H : (spec_l07Words.l0 k a0 l1 (([] : List Int)) (([] : List Int)) (([] : List Bool)) 0 t239 t242) = some r := H
 have A3 := am A30
 clear A30
 obtain ⟨y246, hy246⟩ : ∃ y_ : List Int, y_ = (([] : List Int)) := ⟨_, rfl⟩
 replace H : (spec_l07Words.l0 k a0 l1 y246 (([] : List Int)) (([] : List Bool)) 0 t239 t242) = some r := rY hy246
 have Ny246 := am hy246
 clear hy246
 obtain ⟨y249, hy249⟩ : ∃ y_ : List Int, y_ = (([] : List Int)) := ⟨_, rfl⟩
 replace H : (spec_l07Words.l0 k a0 l1 y246 y249 (([] : List Bool)) 0 t239 t242) = some r := rY hy249
 have Ny249 := am hy249
 clear hy249
 obtain ⟨y252, hy252⟩ : ∃ y_ : List Bool, y_ = (([] : List Bool)) := ⟨_, rfl⟩
 replace H : (spec_l07Words.l0 k a0 l1 y246 y249 y252 0 t239 t242) = some r := rY hy252
 have Ny252 := am hy252
 clear hy252
 have H' := am H
 clear H
 go_enter Tryd.func54, Tryd.ntmps54
 go_wp2_with (first | ((with_reducible refine gate_callee (f := 79) rfl ?_); refine gl 13 Tryd.func79 #[.string a0] ?_; (with_reducible refine (spec_l07RowOf.calls k a0 t239 t242 _ A3.out).mono ?_); rintro e w4 ⟨v240, v243, rfl, ho0, ho1, hb⟩; refine ⟨_, rfl, ?_⟩; have HO241 := am (Kd.R_lower ho0 (below_size bB)); have HO244 := am (Kd.R_lower ho1 (below_size bB)); replace HB := am (below_step bB hb); (try clear hb); (try clear ho0); (try clear ho1)) | ((with_reducible refine gate_dst (N := 5) rfl ?_); refine bx 5 #[.slice none 0 0, .slice none 0 0] 76 ?_; intro gb245 hg w5 hbox hb; replace HO241 := am (Kd.R_below (kR HO241.out) hb); replace HO244 := am (Kd.R_below (kR HO244.out) hb); have BK245 := am (hbox); have GW245 := am ((by rw [hg]; exact (below_size bB) : w.heap.size ≤ gb245)); have GE245 := am ((by rw [hg]; exact (below_size bB) : w.heap.size ≤ gb245)); replace HB := am (below_step bB hb); clear hb hbox hg; obtain ⟨Ao6, co6, eo6⟩ := Kd.R_slice HO241.out; subst eo6; have hcz7_0 := bc BK245.out 0 (.slice none 0 0); have hcz7_1 := bc BK245.out 1 (.slice none 0 0); have hfz7_0 := blk_frozen BK245.out 0; have hfz7_1 := blk_frozen BK245.out 1; obtain ⟨Ao8, co8, eo8⟩ := Kd.R_slice HO244.out; subst eo8) | ((with_reducible refine gate_dst (N := 14) rfl ?_); refine Kd.R_lit (Kd.int .i64) _ 2 ?hg (N := 14) ?hd (xs := ([] : List Int)) (inner := []) (ok := fun _ => True) (okp := fun _ => True) ?hr ?hp (fun _ hk => hk) trivial (Below.refl _ _) (Nat.le_refl _) (by simp) ?_; (case hd => rfl); (case hg => rfl); (case hr => first | (go_simp; done) | (go_simp; rfl)); (case hp => exact (Reps.none _ _)); intro v247 w9 ho10 hb hg_ hnew_; clear hg_ hnew_; (first | rw [← Ny246.out] at ho10 | (simp only [Int.reduceToNat] at ho10; rw [← Ny246.out] at ho10)); have HO248 := am (Kd.R_lower (Kd.R_new' (Kd.R_new' ho10 (Kd.R_lt (kR ((Kd.R_mono (Kd.R_far (p := ⟨gb245, 1, none⟩) (Kd.R_far (p := ⟨gb245, 0, none⟩) (Kd.R_types HO241.out BK245.out (by decide)) (fun _ hk => hk.2) (.slice Ao6 t239.length co6)) (fun _ hk => hk.2) (.slice Ao8 t242.length co8)) (fun _ h_ => h_.1)))))) (Kd.R_lt (kR ((Kd.R_mono (Kd.R_far (p := ⟨gb245, 1, none⟩) (Kd.R_far (p := ⟨gb245, 0, none⟩) (Kd.R_types HO244.out BK245.out (by decide)) (fun _ hk => hk.2) (.slice Ao6 t239.length co6)) (fun _ hk => hk.2) (.slice Ao8 t242.length co8)) (fun _ h_ => h_.1)))))) (below_size bS)); replace HO241 := am (Kd.R_elder' (kR ((Kd.R_mono (Kd.R_far (p := ⟨gb245, 1, none⟩) (Kd.R_far (p := ⟨gb245, 0, none⟩) (Kd.R_types HO241.out BK245.out (by decide)) (fun _ hk => hk.2) (.slice Ao6 t239.length co6)) (fun _ hk => hk.2) (.slice Ao8 t242.length co8)) (fun _ h_ => h_.1)))) (Kd.R_base ho10) hb); replace HO244 := am (Kd.R_elder' (kR ((Kd.R_mono (Kd.R_far (p := ⟨gb245, 1, none⟩) (Kd.R_far (p := ⟨gb245, 0, none⟩) (Kd.R_types HO244.out BK245.out (by decide)) (fun _ hk => hk.2) (.slice Ao6 t239.length co6)) (fun _ hk => hk.2) (.slice Ao8 t242.length co8)) (fun _ h_ => h_.1)))) (Kd.R_base ho10) hb); replace BK245 := am (blk_below (g := gb245) (o := .cells #[.slice Ao6 t239.length co6, .slice Ao8 t242.length co8] 76 (0, 0)) (by (with_reducible repeat (first | refine blk_drewN ?_ _ | refine blk_drew ?_ | refine blk_alloc ?_ _)); refine blk_put (cs := #[.slice Ao6 t239.length co6, .slice none 0 0]) ?_ 1 _ rfl; (with_reducible repeat (first | refine blk_drewN ?_ _ | refine blk_drew ?_ | refine blk_alloc ?_ _)); refine blk_put (cs := #[.slice none 0 0, .slice none 0 0]) ?_ 0 _ rfl; (with_reducible repeat (first | refine blk_drewN ?_ _ | refine blk_drew ?_ | refine blk_alloc ?_ _)); exact BK245.out) hb); replace HB := am (below_step bS hb); clear hb ho10) | ((with_reducible refine gate_dst (N := 15) rfl ?_); refine Kd.R_lit (Kd.int .i64) _ 2 ?hg (N := 15) ?hd (xs := ([] : List Int)) (inner := []) (ok := fun _ => True) (okp := fun _ => True) ?hr ?hp (fun _ hk => hk) trivial (Below.refl _ _) (Nat.le_refl _) (by simp) ?_; (case hd => rfl); (case hg => rfl); (case hr => first | (go_simp; done) | (go_simp; rfl)); (case hp => exact (Reps.none _ _)); intro v250 w11 ho12 hb hg_ hnew_; clear hg_ hnew_; (first | rw [← Ny249.out] at ho12 | (simp only [Int.reduceToNat] at ho12; rw [← Ny249.out] at ho12)); have HO251 := am (Kd.R_lower (Kd.R_new' (Kd.R_new' (Kd.R_new' ho12 (Kd.R_lt (kR HO241.out))) (Kd.R_lt (kR HO244.out))) (Kd.R_lt (kR HO248.out))) (below_size bS)); replace HO241 := am (Kd.R_elder' (kR HO241.out) (Kd.R_base ho12) hb); replace HO244 := am (Kd.R_elder' (kR HO244.out) (Kd.R_base ho12) hb); replace HO248 := am (Kd.R_elder' (kR HO248.out) (Kd.R_base ho12) hb); replace BK245 := am (blk_below (g := gb245) (o := .cells #[.slice Ao6 t239.length co6, .slice Ao8 t242.length co8] 76 (0, 0)) (bk BK245.out) hb); replace HB := am (below_step bS hb); clear hb ho12) | ((with_reducible refine gate_dst (N := 16) rfl ?_); refine Kd.R_lit Kd.bool _ 4 ?hg (N := 16) ?hd (xs := ([] : List Bool)) (inner := []) (ok := fun _ => True) (okp := fun _ => True) ?hr ?hp (fun _ hk => hk) trivial (Below.refl _ _) (Nat.le_refl _) (by simp) ?_; (case hd => rfl); (case hg => rfl); (case hr => first | (go_simp; done) | (go_simp; rfl)); (case hp => exact (Reps.none _ _)); intro v253 w13 ho14 hb hg_ hnew_; clear hg_ hnew_; (first | rw [← Ny252.out] at ho14 | (simp only [Int.reduceToNat] at ho14; rw [← Ny252.out] at ho14)); replace HO241 := am (Kd.R_below (kR HO241.out) hb); replace HO244 := am (Kd.R_below (kR HO244.out) hb); replace HO248 := am (Kd.R_below (kR HO248.out) hb); replace HO251 := am (Kd.R_below (kR HO251.out) hb); have HO254 := am (Kd.R_lower ho14 (below_size bS)); replace BK245 := am (blk_below (g := gb245) (o := .cells #[.slice Ao6 t239.length co6, .slice Ao8 t242.length co8] 76 (0, 0)) (bk BK245.out) hb); replace HB := am (below_step bS hb); clear hb ho14))
 go_loopg [6, 7, 8, 9] k (fun kq v6 v7 v8 v9 w' => ∃ (x6_1 : List Int) (x7_1 : List Int) (x8_1 : List Bool) (x9_1 : Int), v9 = .int .i64 x9_1 ∧ Aside0 (spec_l07Words.l0 kq a0 l1 x6_1 x7_1 x8_1 x9_1 t239 t242 = some r) ∧ Aside0 (kq ≤ k) ∧ Aside0 (Kd.R (Kd.int .i64) 2 w' w.heap.size (fun k_ => some k_ ≠ (v7 : Value).ownBlock ∧ some k_ ≠ ((.slice Ao6 t239.length co6) : Value).ownBlock ∧ some k_ ≠ ((.slice Ao8 t242.length co8) : Value).ownBlock) v6 x6_1) ∧ Aside0 (Kd.R (Kd.int .i64) 2 w' w.heap.size (fun k_ => some k_ ≠ (v6 : Value).ownBlock ∧ some k_ ≠ ((.slice Ao6 t239.length co6) : Value).ownBlock ∧ some k_ ≠ ((.slice Ao8 t242.length co8) : Value).ownBlock) v7 x7_1) ∧ Aside0 (Kd.R Kd.bool 4 w' w.heap.size (fun _ => True) v8 x8_1) ∧ Aside0 (Kd.R (Kd.int .i64) 2 w' w.heap.size (fun k_ => some k_ ≠ (v6 : Value).ownBlock ∧ some k_ ≠ (v7 : Value).ownBlock ∧ some k_ ≠ ((.slice Ao8 t242.length co8) : Value).ownBlock) (.slice Ao6 t239.length co6) t239) ∧ Aside0 (Kd.R (Kd.int .i64) 2 w' w.heap.size (fun k_ => some k_ ≠ (v6 : Value).ownBlock ∧ some k_ ≠ (v7 : Value).ownBlock ∧ some k_ ≠ ((.slice Ao6 t239.length co6) : Value).ownBlock) (.slice Ao8 t242.length co8) t242) ∧ Aside0 (w'.heap[gb245]? = some (.cells #[(.slice Ao6 t239.length co6), (.slice Ao8 t242.length co8)] 76 (0, 0))) ∧ Aside0 (Below w.heap.size w w'))
 case atStart => exact ⟨(y246), (y249), (y252), (0), sr, H', ⟨Nat.le_refl _⟩, ⟨kR (Kd.R_mono HO248.out (fun _ hk => ⟨hk.2, ⟨hk.1.1.2, hk.1.2⟩⟩))⟩, ⟨kR (Kd.R_mono HO251.out (fun _ hk => ⟨hk.2, ⟨hk.1.1.2, hk.1.2⟩⟩))⟩, ⟨kR HO254.out⟩, ⟨kR (Kd.R_mono HO241.out (fun _ hk => ⟨hk.1.2, ⟨hk.2, hk.1.1⟩⟩))⟩, ⟨kR (Kd.R_mono HO244.out (fun _ hk => ⟨hk.1.2, ⟨hk.2, hk.1.1⟩⟩))⟩, ⟨bk BK245.out⟩, ⟨bS⟩⟩
 case round =>
  clear H'
  try clear c1
  try clear hcz7_0
  try clear hcz7_1
  try clear hfz7_0
  try clear hfz7_1
  obtain ⟨x6_1, x7_1, x8_1, x9_1, rfl, HA, HK1, HO_6, HO_7, HO_8, HO_246000, HO_246001, BK245, HB⟩ := hrel
  cases gk with
  | zero => exact absurd HA.out (by simp [spec_l07Words.l0])
  | succ k1 =>
   have H := HA.out
   clear HA
   simp only [spec_l07Words.l0] at H
   by_cases c15 : x9_1 < (t239.length : Int)
   rotate_left
   ·rw [if_neg c15] at H
    have c15b0 := decide_eq_false c15
    clear c15
    obtain ⟨y288, hy288⟩ : ∃ y_ : List Int, y_ = (([] : List Int)) := ⟨_, rfl⟩
    replace H : (spec_l07Words.l1 k1 a0 l1 x6_1 x7_1 x8_1 y288 0) = some r := rY hy288
    have Ny288 := am hy288
    clear hy288
    have H' := am H
    clear H
    have hcz75_0 := bc BK245.out 0 (.slice Ao6 t239.length co6)
    have hcz75_1 := bc BK245.out 1 (.slice Ao8 t242.length co8)
    have hfz75_0 := blk_frozen BK245.out 0
    have hfz75_1 := blk_frozen BK245.out 1
    go_wp2_with (first | ((with_reducible refine gate_dst (N := 67) rfl ?_); refine Kd.R_lit (Kd.int .i64) _ 2 ?hg (N := 67) ?hd (xs := ([] : List Int)) (inner := []) (ok := fun _ => True) (okp := fun _ => True) ?hr ?hp (fun _ hk => hk) trivial (Below.refl _ _) (Nat.le_refl _) (by simp) ?_; (case hd => rfl); (case hg => rfl); (case hr => first | (go_simp; done) | (go_simp; rfl)); (case hp => exact (Reps.none _ _)); intro v289 w76 ho77 hb hg_ hnew_; clear hg_ hnew_; (first | rw [← Ny288.out] at ho77 | (simp only [Int.reduceToNat] at ho77; rw [← Ny288.out] at ho77)); replace HO_8 := am (Kd.R_below (kR HO_8.out) hb); have HO290 := am (Kd.R_lower (Kd.R_new' (Kd.R_new' (Kd.R_new' (Kd.R_new' ho77 (Kd.R_lt (kR HO_6.out))) (Kd.R_lt (kR HO_7.out))) (Kd.R_lt (kR HO_246000.out))) (Kd.R_lt (kR HO_246001.out))) (below_size bS)); replace HO_6 := am (Kd.R_elder' (kR HO_6.out) (Kd.R_base ho77) hb); replace HO_7 := am (Kd.R_elder' (kR HO_7.out) (Kd.R_base ho77) hb); replace HO_246000 := am (Kd.R_elder' (kR HO_246000.out) (Kd.R_base ho77) hb); replace HO_246001 := am (Kd.R_elder' (kR HO_246001.out) (Kd.R_base ho77) hb); replace BK245 := am (blk_below (g := gb245) (o := .cells #[.slice Ao6 t239.length co6, .slice Ao8 t242.length co8] 76 (0, 0)) (bk BK245.out) hb); replace HB := am (below_step bS hb); clear hb ho77))
    go_loopg [10, 11] k1 (fun kq v10 v11 w' => ∃ (x10_2 : List Int) (x11_2 : Int), v11 = .int .i64 x11_2 ∧ Aside0 (spec_l07Words.l1 kq a0 l1 x6_1 x7_1 x8_1 x10_2 x11_2 = some r) ∧ Aside0 (kq ≤ k1) ∧ Aside0 (Kd.R (Kd.int .i64) 2 w' w.heap.size (fun k_ => some k_ ≠ (u7 : Value).ownBlock ∧ some k_ ≠ (v10 : Value).ownBlock ∧ some k_ ≠ ((.slice Ao6 t239.length co6) : Value).ownBlock ∧ some k_ ≠ ((.slice Ao8 t242.length co8) : Value).ownBlock) u6 x6_1) ∧ Aside0 (Kd.R (Kd.int .i64) 2 w' w.heap.size (fun k_ => some k_ ≠ (u6 : Value).ownBlock ∧ some k_ ≠ (v10 : Value).ownBlock ∧ some k_ ≠ ((.slice Ao6 t239.length co6) : Value).ownBlock ∧ some k_ ≠ ((.slice Ao8 t242.length co8) : Value).ownBlock) u7 x7_1) ∧ Aside0 (Kd.R Kd.bool 4 w' w.heap.size (fun _ => True) u8 x8_1) ∧ Aside0 (Kd.R (Kd.int .i64) 2 w' w.heap.size (fun k_ => some k_ ≠ (u6 : Value).ownBlock ∧ some k_ ≠ (u7 : Value).ownBlock ∧ some k_ ≠ ((.slice Ao6 t239.length co6) : Value).ownBlock ∧ some k_ ≠ ((.slice Ao8 t242.length co8) : Value).ownBlock) v10 x10_2) ∧ Aside0 (Kd.R (Kd.int .i64) 2 w' w.heap.size (fun k_ => some k_ ≠ (u6 : Value).ownBlock ∧ some k_ ≠ (u7 : Value).ownBlock ∧ some k_ ≠ (v10 : Value).ownBlock ∧ some k_ ≠ ((.slice Ao8 t242.length co8) : Value).ownBlock) (.slice Ao6 t239.length co6) t239) ∧ Aside0 (Kd.R (Kd.int .i64) 2 w' w.heap.size (fun k_ => some k_ ≠ (u6 : Value).ownBlock ∧ some k_ ≠ (u7 : Value).ownBlock ∧ some k_ ≠ (v10 : Value).ownBlock ∧ some k_ ≠ ((.slice Ao6 t239.length co6) : Value).ownBlock) (.slice Ao8 t242.length co8) t242) ∧ Aside0 (w'.heap[gb245]? = some (.cells #[(.slice Ao6 t239.length co6), (.slice Ao8 t242.length co8)] 76 (0, 0))) ∧ Aside0 (Below w.heap.size w w'))
    case atStart => exact ⟨(y288), (0), sr, H', ⟨Nat.le_refl _⟩, ⟨kR (Kd.R_mono HO_6.out (fun _ hk => ⟨hk.1.1, ⟨hk.2, ⟨hk.1.2.1, hk.1.2.2⟩⟩⟩))⟩, ⟨kR (Kd.R_mono HO_7.out (fun _ hk => ⟨hk.1.1, ⟨hk.2, ⟨hk.1.2.1, hk.1.2.2⟩⟩⟩))⟩, ⟨kR HO_8.out⟩, ⟨kR (Kd.R_mono HO290.out (fun _ hk => ⟨hk.1.1.1.2, ⟨hk.1.1.2, ⟨hk.1.2, hk.2⟩⟩⟩))⟩, ⟨kR (Kd.R_mono HO_246000.out (fun _ hk => ⟨hk.1.1, ⟨hk.1.2.1, ⟨hk.2, hk.1.2.2⟩⟩⟩))⟩, ⟨kR (Kd.R_mono HO_246001.out (fun _ hk => ⟨hk.1.1, ⟨hk.1.2.1, ⟨hk.2, hk.1.2.2⟩⟩⟩))⟩, ⟨bk BK245.out⟩, ⟨bS⟩⟩
    case round =>
     clear H'
     try clear c15b0
     try clear hcz75_0
     try clear hcz75_1
     try clear hfz75_0
     try clear hfz75_1
     obtain ⟨x10_2, x11_2, rfl, HA, HK2, HO_6, HO_7, HO_8, HO_10, HO_246000, HO_246001, BK245, HB⟩ := hrel
     cases gk with
     | zero => exact absurd HA.out (by simp [spec_l07Words.l1])
     | succ k2 =>
      have H := HA.out
      clear HA
      simp only [spec_l07Words.l1] at H
      by_cases c78 : x11_2 < (x6_1.length : Int)
      rotate_left
      ·rw [if_neg c78] at H
       have c78b0 := decide_eq_false c78
       clear c78
       by_cases c100 : (a0.size : Int) > 0
       rotate_left
       ·rw [if_neg c100] at H
        have c100b0 : decide (0 < (a0.size : Int)) = false := decide_eq_false c100
        have c100b1 : decide (0 < a0.size) = false := decide_eq_false (by omega)
        clear c100
        obtain rfl := Option.some.inj H
        obtain ⟨Ao104, co104, eo104⟩ := Kd.R_slice HO_6.out
        subst eo104
        go_wp2
        go_ret
        exact ⟨_, rv, by (with_reducible repeat (first | apply Kd.R_alloc | apply Kd.R_drewN | apply Kd.R_drew)); exact Kd.R_mono HO_10.out (fun _ hk => trivial), bS⟩
       rw [if_pos c100] at H
       have c100b0 : decide (0 < (a0.size : Int)) = true := decide_eq_true c100
       have c100b1 : decide (0 < a0.size) = true := decide_eq_true (by omega)
       clear c100
       replace H := iteN H
       obtain ⟨c101, H⟩ := H
       have LMc101 := am c101
       clear c101
       obtain ⟨y301, hy301⟩ : ∃ y_ : List Int, y_ = (x10_2 ++ [(a0.size : Int)]) := ⟨_, rfl⟩
       replace H : (some y301) = some r := rY hy301
       have Ny301 := am hy301
       clear hy301
       obtain rfl := Option.some.inj H
       obtain ⟨Ao102, co102, eo102⟩ := Kd.R_slice HO_6.out
       subst eo102
       go_wp2_with (first | ((with_reducible refine gate_builtin (b := .append) (xs := #[.tmp 96, .tmp 99]) rfl ?_); at_builtin; refine Kd.R_append (Kd.int .i64) (w0 := w) w.heap.size rfl (.tmp 96) (.tmp 99) 22 2 (.int .i64 0) 8 rfl Tryd.underlying22 info2 rfl (by decide) (by omega) u10 x10_2 (a0.size : Int) [.int .i64 (a0.size : Int)] (fun k_ => some k_ ≠ (.slice Ao102 x6_1.length co102 : Value).ownBlock ∧ some k_ ≠ (u7 : Value).ownBlock ∧ some k_ ≠ (.slice Ao6 t239.length co6 : Value).ownBlock ∧ some k_ ≠ (.slice Ao8 t242.length co8 : Value).ownBlock) (fun _ => False) rfl rfl ?aP (fun _ hk => hk.elim) ?aF ?aO ?aB ?aS ?aL ?_; (case aP => exact rfl); (case aB => exact bS); (case aF => exact (fun k_ hk => ⟨Kd.fresh' (Kd.R_lt (kR HO_6.out)) k_ hk, Kd.fresh' (Kd.R_lt (kR HO_7.out)) k_ hk, Kd.fresh' (Kd.R_lt (kR HO_246000.out)) k_ hk, Kd.fresh' (Kd.R_lt (kR HO_246001.out)) k_ hk⟩)); (case aO => exact (kR HO_10.out)); (case aS => exact (below_size bS)); (case aL => have := LMc101.out; omega); intro v302 w103 ho hb hg hat; rw [← Ny301.out] at ho; replace HO_6 := am (Kd.R_after (ok := (fun k_ => some k_ ≠ (u7 : Value).ownBlock ∧ some k_ ≠ (.slice Ao6 t239.length co6 : Value).ownBlock ∧ some k_ ≠ (.slice Ao8 t242.length co8 : Value).ownBlock)) (kR (Kd.R_mono HO_6.out (fun _ hk => ⟨⟨hk.1, ⟨hk.2.2.1, hk.2.2.2⟩⟩, hk.2.1⟩))) hg hat); replace HO_7 := am (Kd.R_after (ok := (fun k_ => some k_ ≠ (.slice Ao102 x6_1.length co102 : Value).ownBlock ∧ some k_ ≠ (.slice Ao6 t239.length co6 : Value).ownBlock ∧ some k_ ≠ (.slice Ao8 t242.length co8 : Value).ownBlock)) (kR (Kd.R_mono HO_7.out (fun _ hk => ⟨⟨hk.1, ⟨hk.2.2.1, hk.2.2.2⟩⟩, hk.2.1⟩))) hg hat); replace HO_8 := am (Kd.R_over' (kR HO_8.out) (Kd.R_typed (kR HO_10.out)) (by decide) hg); replace HO_246000 := am (Kd.R_after (ok := (fun k_ => some k_ ≠ (.slice Ao102 x6_1.length co102 : Value).ownBlock ∧ some k_ ≠ (u7 : Value).ownBlock ∧ some k_ ≠ (.slice Ao8 t242.length co8 : Value).ownBlock)) (kR (Kd.R_mono HO_246000.out (fun _ hk => ⟨⟨hk.1, ⟨hk.2.1, hk.2.2.2⟩⟩, hk.2.2.1⟩))) hg hat); replace HO_246001 := am (Kd.R_after (ok := (fun k_ => some k_ ≠ (.slice Ao102 x6_1.length co102 : Value).ownBlock ∧ some k_ ≠ (u7 : Value).ownBlock ∧ some k_ ≠ (.slice Ao6 t239.length co6 : Value).ownBlock)) (kR (Kd.R_mono HO_246001.out (fun _ hk => ⟨⟨hk.1, ⟨hk.2.1, hk.2.2.2⟩⟩, hk.2.2.1⟩))) hg hat); replace BK245 := am (blk_grown (g := gb245) (o := .cells #[.slice Ao6 t239.length co6, .slice Ao8 t242.length co8] 76 (0, 0)) (bk BK245.out) hg (Kd.R_ne HO_10.out BK245.out (by decide))); replace HB := am (hb); have HO303 := am (ho); clear HO_10; clear ho hb hg hat))
       go_ret
       exact ⟨_, rv, by (with_reducible repeat (first | apply Kd.R_alloc | apply Kd.R_drewN | apply Kd.R_drew)); exact Kd.R_mono HO303.out (fun _ hk => trivial), bS⟩
      rw [if_pos c78] at H
      have c78b0 := decide_eq_true c78
      clear c78
      by_cases c79 : x11_2 = 0
      ·rw [if_pos c79] at H
       have c79b0 : (x11_2 == 0) = true := beq_iff_eq.mpr c79
       have c79b1 : (x11_2 != 0) = false := bne_eq_false_iff_eq.mpr c79
       clear c79
       replace H := iteN H
       obtain ⟨c80, H⟩ := H
       have c80b0 := decide_eq_true c80
       clear c80
       replace H := iteN H
       obtain ⟨c81, H⟩ := H
       have c81b0 := decide_eq_true c81
       clear c81
       replace H := iteN H
       obtain ⟨c82, H⟩ := H
       have LMc82 := am c82
       clear c82
       obtain ⟨y292, hy292⟩ : ∃ y_ : List Int, y_ = (x10_2 ++ [rd x7_1 x11_2]) := ⟨_, rfl⟩
       replace H : (spec_l07Words.l1 k2 a0 l1 x6_1 x7_1 x8_1 y292 (wrap64 (x11_2 + 1))) = some r := rY hy292
       have Ny292 := am hy292
       clear hy292
       have H' := am H
       clear H
       obtain ⟨Ao83, co83, eo83⟩ := Kd.R_slice HO_6.out
       subst eo83
       obtain ⟨Ao84, co84, eo84⟩ := Kd.R_slice HO_7.out
       subst eo84
       have p291 : 0 ≤ (x11_2 : Int) := od
       have q291 : x11_2 < (x7_1.length : Int) := od
       obtain ⟨ad291, e291, hx291_0⟩ := Kd.at_int (Kd.R_reads' HO_7.out).2.2 x11_2 p291 q291
       cases e291
       replace p291 := eq_true p291; replace q291 := eq_true q291
       go_wp2_with (first | ((with_reducible refine gate_builtin (b := .append) (xs := #[.tmp 86, .tmp 91]) rfl ?_); at_builtin; refine Kd.R_append (Kd.int .i64) (w0 := w) w.heap.size rfl (.tmp 86) (.tmp 91) 22 2 (.int .i64 0) 8 rfl Tryd.underlying22 info2 rfl (by decide) (by omega) u10 x10_2 (rd x7_1 x11_2) [.int .i64 (rd x7_1 x11_2)] (fun k_ => some k_ ≠ (.slice Ao83 x6_1.length co83 : Value).ownBlock ∧ some k_ ≠ (.slice (some ad291) x7_1.length co84 : Value).ownBlock ∧ some k_ ≠ (.slice Ao6 t239.length co6 : Value).ownBlock ∧ some k_ ≠ (.slice Ao8 t242.length co8 : Value).ownBlock) (fun _ => False) rfl rfl ?aP (fun _ hk => hk.elim) ?aF ?aO ?aB ?aS ?aL ?_; (case aP => exact rfl); (case aB => exact bS); (case aF => exact (fun k_ hk => ⟨Kd.fresh' (Kd.R_lt (kR HO_6.out)) k_ hk, Kd.fresh' (Kd.R_lt (kR HO_7.out)) k_ hk, Kd.fresh' (Kd.R_lt (kR HO_246000.out)) k_ hk, Kd.fresh' (Kd.R_lt (kR HO_246001.out)) k_ hk⟩)); (case aO => exact (kR HO_10.out)); (case aS => exact (below_size bS)); (case aL => have := LMc82.out; omega); intro v293 w85 ho hb hg hat; rw [← Ny292.out] at ho; replace HO_6 := am (Kd.R_after (ok := (fun k_ => some k_ ≠ (.slice (some ad291) x7_1.length co84 : Value).ownBlock ∧ some k_ ≠ (.slice Ao6 t239.length co6 : Value).ownBlock ∧ some k_ ≠ (.slice Ao8 t242.length co8 : Value).ownBlock)) (kR (Kd.R_mono HO_6.out (fun _ hk => ⟨⟨hk.1, ⟨hk.2.2.1, hk.2.2.2⟩⟩, hk.2.1⟩))) hg hat); replace HO_7 := am (Kd.R_after (ok := (fun k_ => some k_ ≠ (.slice Ao83 x6_1.length co83 : Value).ownBlock ∧ some k_ ≠ (.slice Ao6 t239.length co6 : Value).ownBlock ∧ some k_ ≠ (.slice Ao8 t242.length co8 : Value).ownBlock)) (kR (Kd.R_mono HO_7.out (fun _ hk => ⟨⟨hk.1, ⟨hk.2.2.1, hk.2.2.2⟩⟩, hk.2.1⟩))) hg hat); replace HO_8 := am (Kd.R_over' (kR HO_8.out) (Kd.R_typed (kR HO_10.out)) (by decide) hg); replace HO_246000 := am (Kd.R_after (ok := (fun k_ => some k_ ≠ (.slice Ao83 x6_1.length co83 : Value).ownBlock ∧ some k_ ≠ (.slice (some ad291) x7_1.length co84 : Value).ownBlock ∧ some k_ ≠ (.slice Ao8 t242.length co8 : Value).ownBlock)) (kR (Kd.R_mono HO_246000.out (fun _ hk => ⟨⟨hk.1, ⟨hk.2.1, hk.2.2.2⟩⟩, hk.2.2.1⟩))) hg hat); replace HO_246001 := am (Kd.R_after (ok := (fun k_ => some k_ ≠ (.slice Ao83 x6_1.length co83 : Value).ownBlock ∧ some k_ ≠ (.slice (some ad291) x7_1.length co84 : Value).ownBlock ∧ some k_ ≠ (.slice Ao6 t239.length co6 : Value).ownBlock)) (kR (Kd.R_mono HO_246001.out (fun _ hk => ⟨⟨hk.1, ⟨hk.2.1, hk.2.2.2⟩⟩, hk.2.2.1⟩))) hg hat); replace BK245 := am (blk_grown (g := gb245) (o := .cells #[.slice Ao6 t239.length co6, .slice Ao8 t242.length co8] 76 (0, 0)) (bk BK245.out) hg (Kd.R_ne HO_10.out BK245.out (by decide))); replace HB := am (hb); have HO294 := am (ho); clear HO_10; clear ho hb hg hat))
       go_roundg k2
       case measure => have := HK1.out; have := HK2.out; omega
       case rel => exact ⟨(y292), (wrap64 (x11_2 + 1)), sr, H', ⟨kl⟩, ⟨kR (Kd.R_mono HO_6.out (fun _ hk => ⟨hk.1.1, ⟨hk.2, ⟨hk.1.2.1, hk.1.2.2⟩⟩⟩))⟩, ⟨kR (Kd.R_mono HO_7.out (fun _ hk => ⟨hk.1.1, ⟨hk.2, ⟨hk.1.2.1, hk.1.2.2⟩⟩⟩))⟩, ⟨kR HO_8.out⟩, ⟨kR HO294.out⟩, ⟨kR (Kd.R_mono HO_246000.out (fun _ hk => ⟨hk.1.1, ⟨hk.1.2.1, ⟨hk.2, hk.1.2.2⟩⟩⟩))⟩, ⟨kR (Kd.R_mono HO_246001.out (fun _ hk => ⟨hk.1.1, ⟨hk.1.2.1, ⟨hk.2, hk.1.2.2⟩⟩⟩))⟩, ⟨bk BK245.out⟩, ⟨bS⟩⟩
      rw [if_neg c79] at H
      have c79b0 : (x11_2 == 0) = false := beq_eq_false_iff_ne.mpr c79
      have c79b1 : (x11_2 != 0) = true := bne_iff_ne.mpr c79
      replace H := iteN H
      obtain ⟨c86, H⟩ := H
      have c86b0 := decide_eq_true c86
      clear c86
      replace H := iteN H
      obtain ⟨c87, H⟩ := H
      have c87b0 := decide_eq_true c87
      clear c87
      obtain ⟨t296, A88, H⟩ := bb H
      by_cases c89 : t296 = true
      rotate_left
      ·replace c89 := Bool.eq_false_iff.mpr c89
       subst c89
       replace H := iF H
       have H' := am H
       clear H
       obtain ⟨Ao97, co97, eo97⟩ := Kd.R_slice HO_6.out
       subst eo97
       obtain ⟨Ao98, co98, eo98⟩ := Kd.R_slice HO_8.out
       subst eo98
       have p295 : 0 ≤ (x11_2 : Int) := od
       have q295 : x11_2 < (x8_1.length : Int) := od
       obtain ⟨ad295, e295, hx295_0⟩ := Kd.at_bool (Kd.R_reads' HO_8.out).2.2 x11_2 p295 q295
       cases e295
       replace p295 := eq_true p295; replace q295 := eq_true q295
       go_wp2_with (first | (go_at_call 83; (with_reducible refine (spec_l07WordCut.calls k2 _ _ x6_1 x11_2 (rdOf false x8_1 x11_2) _ _ l1 false _ ?side1 ?side2 ?side3 ?side4 A88.out).mono ?_); (case side1 => repeat (first | exact (Kd.R_reads' HO_6.out).2.2 | (with_reducible refine Kd.C_alloc ?_ _) | (with_reducible refine Kd.C_drewN ?_ _) | (with_reducible refine Kd.C_drew ?_))); (case side2 => exact (Kd.R_reads' HO_6.out).2.1); (case side3 => exact cC (Kd.C_below HR1.out HB.out)); (case side4 => exact HC1.out); rintro e w99 ⟨rfl, hb⟩; replace HO_6 := am (Kd.R_below (kR HO_6.out) hb); replace HO_7 := am (Kd.R_below (kR HO_7.out) hb); replace HO_8 := am (Kd.R_below (kR HO_8.out) hb); replace HO_10 := am (Kd.R_below (kR HO_10.out) hb); replace HO_246000 := am (Kd.R_below (kR HO_246000.out) hb); replace HO_246001 := am (Kd.R_below (kR HO_246001.out) hb); replace BK245 := am (blk_below (g := gb245) (o := .cells #[.slice Ao6 t239.length co6, .slice Ao8 t242.length co8] 76 (0, 0)) (bk BK245.out) hb); replace HB := am (below_step bS hb); (try clear hb)))
       go_roundg k2
       case measure => have := HK1.out; have := HK2.out; omega
       case rel => exact ⟨(x10_2), (wrap64 (x11_2 + 1)), sr, H', ⟨kl⟩, ⟨kR HO_6.out⟩, ⟨kR HO_7.out⟩, ⟨kR HO_8.out⟩, ⟨kR HO_10.out⟩, ⟨kR HO_246000.out⟩, ⟨kR HO_246001.out⟩, ⟨bk BK245.out⟩, ⟨bS⟩⟩
      subst c89
      replace H := iT H
      replace H := iteN H
      obtain ⟨c90, H⟩ := H
      have c90b0 := decide_eq_true c90
      clear c90
      replace H := iteN H
      obtain ⟨c91, H⟩ := H
      have LMc91 := am c91
      clear c91
      obtain ⟨y298, hy298⟩ : ∃ y_ : List Int, y_ = (x10_2 ++ [rd x7_1 x11_2]) := ⟨_, rfl⟩
      replace H : (spec_l07Words.l1 k2 a0 l1 x6_1 x7_1 x8_1 y298 (wrap64 (x11_2 + 1))) = some r := rY hy298
      have Ny298 := am hy298
      clear hy298
      have H' := am H
      clear H
      obtain ⟨Ao92, co92, eo92⟩ := Kd.R_slice HO_6.out
      subst eo92
      obtain ⟨Ao93, co93, eo93⟩ := Kd.R_slice HO_8.out
      subst eo93
      have p295 : 0 ≤ (x11_2 : Int) := od
      have q295 : x11_2 < (x8_1.length : Int) := od
      obtain ⟨ad295, e295, hx295_0⟩ := Kd.at_bool (Kd.R_reads' HO_8.out).2.2 x11_2 p295 q295
      cases e295
      replace p295 := eq_true p295; replace q295 := eq_true q295
      go_wp2_with (first | (go_at_call 83; (with_reducible refine (spec_l07WordCut.calls k2 _ _ x6_1 x11_2 (rdOf false x8_1 x11_2) _ _ l1 true _ ?side1 ?side2 ?side3 ?side4 A88.out).mono ?_); (case side1 => repeat (first | exact (Kd.R_reads' HO_6.out).2.2 | (with_reducible refine Kd.C_alloc ?_ _) | (with_reducible refine Kd.C_drewN ?_ _) | (with_reducible refine Kd.C_drew ?_))); (case side2 => exact (Kd.R_reads' HO_6.out).2.1); (case side3 => exact cC (Kd.C_below HR1.out HB.out)); (case side4 => exact HC1.out); rintro e w94 ⟨rfl, hb⟩; replace HO_6 := am (Kd.R_below (kR HO_6.out) hb); replace HO_7 := am (Kd.R_below (kR HO_7.out) hb); replace HO_8 := am (Kd.R_below (kR HO_8.out) hb); replace HO_10 := am (Kd.R_below (kR HO_10.out) hb); replace HO_246000 := am (Kd.R_below (kR HO_246000.out) hb); replace HO_246001 := am (Kd.R_below (kR HO_246001.out) hb); replace BK245 := am (blk_below (g := gb245) (o := .cells #[.slice Ao6 t239.length co6, .slice Ao8 t242.length co8] 76 (0, 0)) (bk BK245.out) hb); replace HB := am (below_step bS hb); (try clear hb); obtain ⟨Ao95, co95, eo95⟩ := Kd.R_slice HO_7.out; subst eo95; have p297 : 0 ≤ (x11_2 : Int) := od; have q297 : x11_2 < (x7_1.length : Int) := od; obtain ⟨ad297, e297, hx297_0⟩ := Kd.at_int (Kd.R_reads' HO_7.out).2.2 x11_2 p297 q297; cases e297; replace p297 := eq_true p297; replace q297 := eq_true q297) | ((with_reducible refine gate_builtin (b := .append) (xs := #[.tmp 86, .tmp 91]) rfl ?_); at_builtin; refine Kd.R_append (Kd.int .i64) (w0 := w) w.heap.size rfl (.tmp 86) (.tmp 91) 22 2 (.int .i64 0) 8 rfl Tryd.underlying22 info2 rfl (by decide) (by omega) u10 x10_2 (rd x7_1 x11_2) [.int .i64 (rd x7_1 x11_2)] (fun k_ => some k_ ≠ (.slice Ao92 x6_1.length co92 : Value).ownBlock ∧ some k_ ≠ (.slice (some ad297) x7_1.length co95 : Value).ownBlock ∧ some k_ ≠ (.slice Ao6 t239.length co6 : Value).ownBlock ∧ some k_ ≠ (.slice Ao8 t242.length co8 : Value).ownBlock) (fun _ => False) rfl rfl ?aP (fun _ hk => hk.elim) ?aF ?aO ?aB ?aS ?aL ?_; (case aP => exact rfl); (case aB => exact bS); (case aF => exact (fun k_ hk => ⟨Kd.fresh' (Kd.R_lt (kR HO_6.out)) k_ hk, Kd.fresh' (Kd.R_lt (kR HO_7.out)) k_ hk, Kd.fresh' (Kd.R_lt (kR HO_246000.out)) k_ hk, Kd.fresh' (Kd.R_lt (kR HO_246001.out)) k_ hk⟩)); (case aO => exact (kR HO_10.out)); (case aS => exact (below_size bS)); (case aL => have := LMc91.out; omega); intro v299 w96 ho hb hg hat; rw [← Ny298.out] at ho; replace HO_6 := am (Kd.R_after (ok := (fun k_ => some k_ ≠ (.slice (some ad297) x7_1.length co95 : Value).ownBlock ∧ some k_ ≠ (.slice Ao6 t239.length co6 : Value).ownBlock ∧ some k_ ≠ (.slice Ao8 t242.length co8 : Value).ownBlock)) (kR (Kd.R_mono HO_6.out (fun _ hk => ⟨⟨hk.1, ⟨hk.2.2.1, hk.2.2.2⟩⟩, hk.2.1⟩))) hg hat); replace HO_7 := am (Kd.R_after (ok := (fun k_ => some k_ ≠ (.slice Ao92 x6_1.length co92 : Value).ownBlock ∧ some k_ ≠ (.slice Ao6 t239.length co6 : Value).ownBlock ∧ some k_ ≠ (.slice Ao8 t242.length co8 : Value).ownBlock)) (kR (Kd.R_mono HO_7.out (fun _ hk => ⟨⟨hk.1, ⟨hk.2.2.1, hk.2.2.2⟩⟩, hk.2.1⟩))) hg hat); replace HO_8 := am (Kd.R_over' (kR HO_8.out) (Kd.R_typed (kR HO_10.out)) (by decide) hg); replace HO_246000 := am (Kd.R_after (ok := (fun k_ => some k_ ≠ (.slice Ao92 x6_1.length co92 : Value).ownBlock ∧ some k_ ≠ (.slice (some ad297) x7_1.length co95 : Value).ownBlock ∧ some k_ ≠ (.slice Ao8 t242.length co8 : Value).ownBlock)) (kR (Kd.R_mono HO_246000.out (fun _ hk => ⟨⟨hk.1, ⟨hk.2.1, hk.2.2.2⟩⟩, hk.2.2.1⟩))) hg hat); replace HO_246001 := am (Kd.R_after (ok := (fun k_ => some k_ ≠ (.slice Ao92 x6_1.length co92 : Value).ownBlock ∧ some k_ ≠ (.slice (some ad297) x7_1.length co95 : Value).ownBlock ∧ some k_ ≠ (.slice Ao6 t239.length co6 : Value).ownBlock)) (kR (Kd.R_mono HO_246001.out (fun _ hk => ⟨⟨hk.1, ⟨hk.2.1, hk.2.2.2⟩⟩, hk.2.2.1⟩))) hg hat); replace BK245 := am (blk_grown (g := gb245) (o := .cells #[.slice Ao6 t239.length co6, .slice Ao8 t242.length co8] 76 (0, 0)) (bk BK245.out) hg (Kd.R_ne HO_10.out BK245.out (by decide))); replace HB := am (hb); have HO300 := am (ho); clear HO_10; clear ho hb hg hat))
      go_roundg k2
      case measure => have := HK1.out; have := HK2.out; omega
      case rel => exact ⟨(y298), (wrap64 (x11_2 + 1)), sr, H', ⟨kl⟩, ⟨kR (Kd.R_mono HO_6.out (fun _ hk => ⟨hk.1.1, ⟨hk.2, ⟨hk.1.2.1, hk.1.2.2⟩⟩⟩))⟩, ⟨kR (Kd.R_mono HO_7.out (fun _ hk => ⟨hk.1.1, ⟨hk.2, ⟨hk.1.2.1, hk.1.2.2⟩⟩⟩))⟩, ⟨kR HO_8.out⟩, ⟨kR HO300.out⟩, ⟨kR (Kd.R_mono HO_246000.out (fun _ hk => ⟨hk.1.1, ⟨hk.1.2.1, ⟨hk.2, hk.1.2.2⟩⟩⟩))⟩, ⟨kR (Kd.R_mono HO_246001.out (fun _ hk => ⟨hk.1.1, ⟨hk.1.2.1, ⟨hk.2, hk.1.2.2⟩⟩⟩))⟩, ⟨bk BK245.out⟩, ⟨bS⟩⟩
   rw [if_pos c15] at H
   have c15b0 := decide_eq_true c15
   clear c15
   by_cases c16 : x9_1 > 0
   rotate_left
   ·rw [if_neg c16] at H
    have c16b0 : decide (0 < x9_1) = false := decide_eq_false c16
    clear c16
    replace H := iteN H
    obtain ⟨c51, H⟩ := H
    have c51b0 := decide_eq_true c51
    clear c51
    replace H := iteN H
    obtain ⟨c52, H⟩ := H
    have LMc52 := am c52
    clear c52
    obtain ⟨y274, hy274⟩ : ∃ y_ : List Int, y_ = (x6_1 ++ [rd t239 x9_1]) := ⟨_, rfl⟩
    replace H : (if x9_1 < (t242.length : Int) then (if x7_1.length < 17592186044416 then ((some (x7_1 ++ [rd t242 x9_1] : List Int)).bind fun y278 => (if x9_1 = 0 then (if x8_1.length < 140737488355328 then (spec_l07Words.l0 k1 a0 l1 y274 y278 (x8_1 ++ [true]) (wrap64 (x9_1 + 1)) t239 t242) else (none)) else ((spec_l07Char.f k1 t239 x9_1).bind fun t284 => (if x8_1.length < 140737488355328 then (spec_l07Words.l0 k1 a0 l1 y274 y278 (x8_1 ++ [t284]) (wrap64 (x9_1 + 1)) t239 t242) else (none))))) else (none)) else (none)) = some r := rY hy274
    have Ny274 := am hy274
    clear hy274
    replace H := iteN H
    obtain ⟨c53, H⟩ := H
    have c53b0 := decide_eq_true c53
    clear c53
    replace H := iteN H
    obtain ⟨c54, H⟩ := H
    have LMc54 := am c54
    clear c54
    obtain ⟨y278, hy278⟩ : ∃ y_ : List Int, y_ = (x7_1 ++ [rd t242 x9_1]) := ⟨_, rfl⟩
    replace H : (if x9_1 = 0 then (if x8_1.length < 140737488355328 then (spec_l07Words.l0 k1 a0 l1 y274 y278 (x8_1 ++ [true]) (wrap64 (x9_1 + 1)) t239 t242) else (none)) else ((spec_l07Char.f k1 t239 x9_1).bind fun t284 => (if x8_1.length < 140737488355328 then (spec_l07Words.l0 k1 a0 l1 y274 y278 (x8_1 ++ [t284]) (wrap64 (x9_1 + 1)) t239 t242) else (none)))) = some r := rY hy278
    have Ny278 := am hy278
    clear hy278
    by_cases c55 : x9_1 = 0
    ·rw [if_pos c55] at H
     have c55b0 : (x9_1 == 0) = true := beq_iff_eq.mpr c55
     have c55b1 : (x9_1 != 0) = false := bne_eq_false_iff_eq.mpr c55
     clear c55
     replace H := iteN H
     obtain ⟨c56, H⟩ := H
     have LMc56 := am c56
     clear c56
     obtain ⟨y281, hy281⟩ : ∃ y_ : List Bool, y_ = (x8_1 ++ [true]) := ⟨_, rfl⟩
     replace H : (spec_l07Words.l0 k1 a0 l1 y274 y278 y281 (wrap64 (x9_1 + 1)) t239 t242) = some r := rY hy281
     have Ny281 := am hy281
     clear hy281
     have H' := am H
     clear H
     have hcz57_0 := bc BK245.out 0 (.slice Ao6 t239.length co6)
     have hcz57_1 := bc BK245.out 1 (.slice Ao8 t242.length co8)
     have hfz57_0 := blk_frozen BK245.out 0
     have hfz57_1 := blk_frozen BK245.out 1
     try go_wp2
     replace HO_6 := am (Kd.R_drew HO_6.out)
     replace HO_7 := am (Kd.R_drew HO_7.out)
     replace HO_8 := am (Kd.R_drew HO_8.out)
     replace HO_246000 := am (Kd.R_drew HO_246000.out)
     replace HO_246001 := am (Kd.R_drew HO_246001.out)
     replace BK245 := am (blk_drew BK245.out)
     replace HB := am (below_drew1 HB.out)
     refine start_ (n := 16) (S := fun w' => True) (ds := []) #[false, false, false, false, false, false, false, false, false, false, false, false, false, false, false, false] (by kernel_rfl) rfl rfl trivial (fun hHeld => ?_); refine with_tabW spec_l07Words.tab8 spec_l07Words.bits8 (fun HT_ HW_ => ?_)
     generalize wr.drew = w58 at HO_6 HO_7 HO_8 HO_246000 HO_246001 BK245 HB hHeld ⊢
     refine pq 0 24 HT_.out ?_
     refine pq 1 25 HT_.out ?_
     refine pq 2 26 HT_.out ?_
     refine pu 3 27 HT_.out ?_
     refine pu 4 28 HT_.out ?_
     refine pu 5 29 HT_.out ?_
     refine pu 6 30 HT_.out ?_
     refine pu 7 31 HT_.out ?_
     refine pu 8 32 HT_.out ?_
     refine pu 9 33 HT_.out ?_
     refine pu 10 34 HT_.out ?_
     refine pu 11 35 HT_.out ?_
     refine pu 12 36 HT_.out ?_
     refine pu 13 37 HT_.out ?_
     refine pu 14 38 HT_.out ?_
     refine pq 15 39 HT_.out ?_
     refine done_ (done_of HT_.out (by kernel_rfl)) ?_
     have hcz59_0 := bc BK245.out 0 (.slice Ao6 t239.length co6)
     have hcz59_1 := bc BK245.out 1 (.slice Ao8 t242.length co8)
     have hfz59_0 := blk_frozen BK245.out 0
     have hfz59_1 := blk_frozen BK245.out 1
     have p273 : 0 ≤ (x9_1 : Int) := od
     have q273 : x9_1 < (t239.length : Int) := od
     obtain ⟨ad273, e273, hx273_0⟩ := Kd.at_int (Kd.R_reads' HO_246000.out).2.2 x9_1 p273 q273
     cases e273
     replace p273 := eq_true p273; replace q273 := eq_true q273
     try go_wp2_with (first | ((with_reducible refine gate_builtin (b := .append) (xs := #[.tmp 40, .tmp 46]) rfl ?_); at_builtin; refine Kd.R_append (Kd.int .i64) (w0 := w) w.heap.size rfl (.tmp 40) (.tmp 46) 22 2 (.int .i64 0) 8 rfl Tryd.underlying22 info2 rfl (by decide) (by omega) u6 x6_1 (rd t239 x9_1) [.int .i64 (rd t239 x9_1)] (fun k_ => some k_ ≠ (u7 : Value).ownBlock ∧ some k_ ≠ (.slice (some ad273) t239.length co6 : Value).ownBlock ∧ some k_ ≠ (.slice Ao8 t242.length co8 : Value).ownBlock) (fun _ => False) rfl rfl ?aP (fun _ hk => hk.elim) ?aF ?aO ?aB ?aS ?aL ?_; (case aP => exact rfl); (case aB => exact bS); (case aF => exact (fun k_ hk => ⟨Kd.fresh' (Kd.R_lt (kR HO_7.out)) k_ hk, Kd.fresh' (Kd.R_lt (kR HO_246000.out)) k_ hk, Kd.fresh' (Kd.R_lt (kR HO_246001.out)) k_ hk⟩)); (case aO => exact (kR HO_6.out)); (case aS => exact (below_size bS)); (case aL => have := LMc52.out; omega); intro v275 w60 ho hb hg hat; rw [← Ny274.out] at ho; replace HO_7 := am (Kd.R_after (ok := (fun k_ => some k_ ≠ (.slice (some ad273) t239.length co6 : Value).ownBlock ∧ some k_ ≠ (.slice Ao8 t242.length co8 : Value).ownBlock)) (kR (Kd.R_mono HO_7.out (fun _ hk => ⟨⟨hk.2.1, hk.2.2⟩, hk.1⟩))) hg hat); replace HO_8 := am (Kd.R_over' (kR HO_8.out) (Kd.R_typed (kR HO_6.out)) (by decide) hg); replace HO_246000 := am (Kd.R_after (ok := (fun k_ => some k_ ≠ (u7 : Value).ownBlock ∧ some k_ ≠ (.slice Ao8 t242.length co8 : Value).ownBlock)) (kR (Kd.R_mono HO_246000.out (fun _ hk => ⟨⟨hk.2.1, hk.2.2⟩, hk.1⟩))) hg hat); replace HO_246001 := am (Kd.R_after (ok := (fun k_ => some k_ ≠ (u7 : Value).ownBlock ∧ some k_ ≠ (.slice (some ad273) t239.length co6 : Value).ownBlock)) (kR (Kd.R_mono HO_246001.out (fun _ hk => ⟨⟨hk.2.1, hk.2.2⟩, hk.1⟩))) hg hat); replace BK245 := am (blk_grown (g := gb245) (o := .cells #[.slice (some ad273) t239.length co6, .slice Ao8 t242.length co8] 76 (0, 0)) (bk BK245.out) hg (Kd.R_ne HO_6.out BK245.out (by decide))); replace HB := am (hb); have HO276 := am (ho); clear HO_6; clear ho hb hg hat; have hcz61_0 := bc BK245.out 0 (.slice (some ad273) t239.length co6); have hcz61_1 := bc BK245.out 1 (.slice Ao8 t242.length co8); have hfz61_0 := blk_frozen BK245.out 0; have hfz61_1 := blk_frozen BK245.out 1; have p277 : 0 ≤ (x9_1 : Int) := od; have q277 : x9_1 < (t242.length : Int) := od; obtain ⟨ad277, e277, hx277_0⟩ := Kd.at_int (Kd.R_reads' HO_246001.out).2.2 x9_1 p277 q277; cases e277; replace p277 := eq_true p277; replace q277 := eq_true q277) | ((with_reducible refine gate_builtin (b := .append) (xs := #[.tmp 48, .tmp 54]) rfl ?_); at_builtin; refine Kd.R_append (Kd.int .i64) (w0 := w) w.heap.size rfl (.tmp 48) (.tmp 54) 22 2 (.int .i64 0) 8 rfl Tryd.underlying22 info2 rfl (by decide) (by omega) u7 x7_1 (rd t242 x9_1) [.int .i64 (rd t242 x9_1)] (fun k_ => some k_ ≠ (.slice (some ad273) t239.length co6 : Value).ownBlock ∧ some k_ ≠ (.slice (some ad277) t242.length co8 : Value).ownBlock ∧ some k_ ≠ (v275 : Value).ownBlock) (fun _ => False) rfl rfl ?aP (fun _ hk => hk.elim) ?aF ?aO ?aB ?aS ?aL ?_; (case aP => exact rfl); (case aB => exact bS); (case aF => exact (fun k_ hk => ⟨Kd.fresh' (Kd.R_lt (kR HO_246000.out)) k_ hk, Kd.fresh' (Kd.R_lt (kR HO_246001.out)) k_ hk, Kd.fresh' (Kd.R_lt (kR HO276.out)) k_ hk⟩)); (case aO => exact (kR (Kd.R_mono HO_7.out (fun _ hk => ⟨hk.1.1, ⟨hk.1.2, hk.2⟩⟩)))); (case aS => exact (below_size bS)); (case aL => have := LMc54.out; omega); intro v279 w62 ho hb hg hat; rw [← Ny278.out] at ho; replace HO_8 := am (Kd.R_over' (kR HO_8.out) (Kd.R_typed (kR HO_7.out)) (by decide) hg); replace HO_246000 := am (Kd.R_after (ok := (fun k_ => some k_ ≠ (.slice (some ad277) t242.length co8 : Value).ownBlock ∧ some k_ ≠ (v275 : Value).ownBlock)) (kR (Kd.R_mono HO_246000.out (fun _ hk => ⟨⟨hk.1.2, hk.2⟩, hk.1.1⟩))) hg hat); replace HO_246001 := am (Kd.R_after (ok := (fun k_ => some k_ ≠ (.slice (some ad273) t239.length co6 : Value).ownBlock ∧ some k_ ≠ (v275 : Value).ownBlock)) (kR (Kd.R_mono HO_246001.out (fun _ hk => ⟨⟨hk.1.2, hk.2⟩, hk.1.1⟩))) hg hat); replace BK245 := am (blk_grown (g := gb245) (o := .cells #[.slice (some ad273) t239.length co6, .slice (some ad277) t242.length co8] 76 (0, 0)) (bk BK245.out) hg (Kd.R_ne HO_7.out BK245.out (by decide))); replace HO276 := am (Kd.R_after (ok := (fun k_ => some k_ ≠ (.slice (some ad273) t239.length co6 : Value).ownBlock ∧ some k_ ≠ (.slice (some ad277) t242.length co8 : Value).ownBlock)) (kR (Kd.R_mono HO276.out (fun _ hk => ⟨⟨hk.2.1, hk.2.2⟩, hk.1⟩))) hg hat); replace HB := am (hb); have HO280 := am (ho); clear HO_7; clear ho hb hg hat) | ((with_reducible refine gate_builtin (b := .append) (xs := #[.tmp 56, .tmp 65]) rfl ?_); at_builtin; refine Kd.R_append Kd.bool (w0 := w) w.heap.size rfl (.tmp 56) (.tmp 65) 60 4 (.bool false) 1 rfl Tryd.underlying60 info4 rfl (by decide) (by omega) u8 x8_1 true [.bool true] (fun _ => True) (fun _ => False) rfl rfl ?aP (fun _ hk => hk.elim) ?aF ?aO ?aB ?aS ?aL ?_; (case aP => exact rfl); (case aB => exact bS); (case aF => exact (fun _ _ => trivial)); (case aO => exact (kR HO_8.out)); (case aS => exact (below_size bS)); (case aL => have := LMc56.out; omega); intro v282 w63 ho hb hg hat; rw [← Ny281.out] at ho; replace HO_246000 := am (Kd.R_over' (kR HO_246000.out) (Kd.R_typed (kR HO_8.out)) (by decide) hg); replace HO_246001 := am (Kd.R_over' (kR HO_246001.out) (Kd.R_typed (kR HO_8.out)) (by decide) hg); replace BK245 := am (blk_grown (g := gb245) (o := .cells #[.slice (some ad273) t239.length co6, .slice (some ad277) t242.length co8] 76 (0, 0)) (bk BK245.out) hg (Kd.R_ne HO_8.out BK245.out (by decide))); replace HO276 := am (Kd.R_over' (kR HO276.out) (Kd.R_typed (kR HO_8.out)) (by decide) hg); replace HO280 := am (Kd.R_over' (kR HO280.out) (Kd.R_typed (kR HO_8.out)) (by decide) hg); replace HB := am (hb); have HO283 := am (ho); clear HO_8; clear ho hb hg hat))
     go_roundg k1
     case measure => have := HK1.out; omega
     case rel => exact ⟨(y274), (y278), (y281), (wrap64 (x9_1 + 1)), sr, H', ⟨kl⟩, ⟨kR (Kd.R_mono HO276.out (fun _ hk => ⟨hk.2, ⟨hk.1.1, hk.1.2⟩⟩))⟩, ⟨kR (Kd.R_mono HO280.out (fun _ hk => ⟨hk.2.2, ⟨hk.1, hk.2.1⟩⟩))⟩, ⟨kR HO283.out⟩, ⟨kR (Kd.R_mono HO_246000.out (fun _ hk => ⟨hk.1.2, ⟨hk.2, hk.1.1⟩⟩))⟩, ⟨kR (Kd.R_mono HO_246001.out (fun _ hk => ⟨hk.1.2, ⟨hk.2, hk.1.1⟩⟩))⟩, ⟨bk BK245.out⟩, ⟨bS⟩⟩
    rw [if_neg c55] at H
    have c55b0 : (x9_1 == 0) = false := beq_eq_false_iff_ne.mpr c55
    have c55b1 : (x9_1 != 0) = true := bne_iff_ne.mpr c55
    obtain ⟨t284, A64, H⟩ := bb H
    replace H := iteN H
    obtain ⟨c65, H⟩ := H
    have LMc65 := am c65
    clear c65
    obtain ⟨y285, hy285⟩ : ∃ y_ : List Bool, y_ = (x8_1 ++ [t284]) := ⟨_, rfl⟩
    replace H : (spec_l07Words.l0 k1 a0 l1 y274 y278 y285 (wrap64 (x9_1 + 1)) t239 t242) = some r := rY hy285
    have Ny285 := am hy285
    clear hy285
    have H' := am H
    clear H
    have hcz66_0 := bc BK245.out 0 (.slice Ao6 t239.length co6)
    have hcz66_1 := bc BK245.out 1 (.slice Ao8 t242.length co8)
    have hfz66_0 := blk_frozen BK245.out 0
    have hfz66_1 := blk_frozen BK245.out 1
    try go_wp2
    replace HO_6 := am (Kd.R_drew HO_6.out)
    replace HO_7 := am (Kd.R_drew HO_7.out)
    replace HO_8 := am (Kd.R_drew HO_8.out)
    replace HO_246000 := am (Kd.R_drew HO_246000.out)
    replace HO_246001 := am (Kd.R_drew HO_246001.out)
    replace BK245 := am (blk_drew BK245.out)
    replace HB := am (below_drew1 HB.out)
    refine start_ (n := 16) (S := fun w' => True) (ds := []) #[false, false, false, false, false, false, false, false, false, false, false, false, false, false, false, false] (by kernel_rfl) rfl rfl trivial (fun hHeld => ?_); refine with_tabW spec_l07Words.tab8 spec_l07Words.bits8 (fun HT_ HW_ => ?_)
    generalize wr.drew = w67 at HO_6 HO_7 HO_8 HO_246000 HO_246001 BK245 HB hHeld ⊢
    refine pq 0 24 HT_.out ?_
    refine pq 1 25 HT_.out ?_
    refine pq 2 26 HT_.out ?_
    refine pu 3 27 HT_.out ?_
    refine pu 4 28 HT_.out ?_
    refine pu 5 29 HT_.out ?_
    refine pu 6 30 HT_.out ?_
    refine pu 7 31 HT_.out ?_
    refine pu 8 32 HT_.out ?_
    refine pu 9 33 HT_.out ?_
    refine pu 10 34 HT_.out ?_
    refine pu 11 35 HT_.out ?_
    refine pu 12 36 HT_.out ?_
    refine pu 13 37 HT_.out ?_
    refine pu 14 38 HT_.out ?_
    refine pq 15 39 HT_.out ?_
    refine done_ (done_of HT_.out (by kernel_rfl)) ?_
    have hcz68_0 := bc BK245.out 0 (.slice Ao6 t239.length co6)
    have hcz68_1 := bc BK245.out 1 (.slice Ao8 t242.length co8)
    have hfz68_0 := blk_frozen BK245.out 0
    have hfz68_1 := blk_frozen BK245.out 1
    have p273 : 0 ≤ (x9_1 : Int) := od
    have q273 : x9_1 < (t239.length : Int) := od
    obtain ⟨ad273, e273, hx273_0⟩ := Kd.at_int (Kd.R_reads' HO_246000.out).2.2 x9_1 p273 q273
    cases e273
    replace p273 := eq_true p273; replace q273 := eq_true q273
    try go_wp2_with (first | ((with_reducible refine gate_builtin (b := .append) (xs := #[.tmp 40, .tmp 46]) rfl ?_); at_builtin; refine Kd.R_append (Kd.int .i64) (w0 := w) w.heap.size rfl (.tmp 40) (.tmp 46) 22 2 (.int .i64 0) 8 rfl Tryd.underlying22 info2 rfl (by decide) (by omega) u6 x6_1 (rd t239 x9_1) [.int .i64 (rd t239 x9_1)] (fun k_ => some k_ ≠ (u7 : Value).ownBlock ∧ some k_ ≠ (.slice (some ad273) t239.length co6 : Value).ownBlock ∧ some k_ ≠ (.slice Ao8 t242.length co8 : Value).ownBlock) (fun _ => False) rfl rfl ?aP (fun _ hk => hk.elim) ?aF ?aO ?aB ?aS ?aL ?_; (case aP => exact rfl); (case aB => exact bS); (case aF => exact (fun k_ hk => ⟨Kd.fresh' (Kd.R_lt (kR HO_7.out)) k_ hk, Kd.fresh' (Kd.R_lt (kR HO_246000.out)) k_ hk, Kd.fresh' (Kd.R_lt (kR HO_246001.out)) k_ hk⟩)); (case aO => exact (kR HO_6.out)); (case aS => exact (below_size bS)); (case aL => have := LMc52.out; omega); intro v275 w69 ho hb hg hat; rw [← Ny274.out] at ho; replace HO_7 := am (Kd.R_after (ok := (fun k_ => some k_ ≠ (.slice (some ad273) t239.length co6 : Value).ownBlock ∧ some k_ ≠ (.slice Ao8 t242.length co8 : Value).ownBlock)) (kR (Kd.R_mono HO_7.out (fun _ hk => ⟨⟨hk.2.1, hk.2.2⟩, hk.1⟩))) hg hat); replace HO_8 := am (Kd.R_over' (kR HO_8.out) (Kd.R_typed (kR HO_6.out)) (by decide) hg); replace HO_246000 := am (Kd.R_after (ok := (fun k_ => some k_ ≠ (u7 : Value).ownBlock ∧ some k_ ≠ (.slice Ao8 t242.length co8 : Value).ownBlock)) (kR (Kd.R_mono HO_246000.out (fun _ hk => ⟨⟨hk.2.1, hk.2.2⟩, hk.1⟩))) hg hat); replace HO_246001 := am (Kd.R_after (ok := (fun k_ => some k_ ≠ (u7 : Value).ownBlock ∧ some k_ ≠ (.slice (some ad273) t239.length co6 : Value).ownBlock)) (kR (Kd.R_mono HO_246001.out (fun _ hk => ⟨⟨hk.2.1, hk.2.2⟩, hk.1⟩))) hg hat); replace BK245 := am (blk_grown (g := gb245) (o := .cells #[.slice (some ad273) t239.length co6, .slice Ao8 t242.length co8] 76 (0, 0)) (bk BK245.out) hg (Kd.R_ne HO_6.out BK245.out (by decide))); replace HB := am (hb); have HO276 := am (ho); clear HO_6; clear ho hb hg hat; have hcz70_0 := bc BK245.out 0 (.slice (some ad273) t239.length co6); have hcz70_1 := bc BK245.out 1 (.slice Ao8 t242.length co8); have hfz70_0 := blk_frozen BK245.out 0; have hfz70_1 := blk_frozen BK245.out 1; have p277 : 0 ≤ (x9_1 : Int) := od; have q277 : x9_1 < (t242.length : Int) := od; obtain ⟨ad277, e277, hx277_0⟩ := Kd.at_int (Kd.R_reads' HO_246001.out).2.2 x9_1 p277 q277; cases e277; replace p277 := eq_true p277; replace q277 := eq_true q277) | ((with_reducible refine gate_builtin (b := .append) (xs := #[.tmp 48, .tmp 54]) rfl ?_); at_builtin; refine Kd.R_append (Kd.int .i64) (w0 := w) w.heap.size rfl (.tmp 48) (.tmp 54) 22 2 (.int .i64 0) 8 rfl Tryd.underlying22 info2 rfl (by decide) (by omega) u7 x7_1 (rd t242 x9_1) [.int .i64 (rd t242 x9_1)] (fun k_ => some k_ ≠ (.slice (some ad273) t239.length co6 : Value).ownBlock ∧ some k_ ≠ (.slice (some ad277) t242.length co8 : Value).ownBlock ∧ some k_ ≠ (v275 : Value).ownBlock) (fun _ => False) rfl rfl ?aP (fun _ hk => hk.elim) ?aF ?aO ?aB ?aS ?aL ?_; (case aP => exact rfl); (case aB => exact bS); (case aF => exact (fun k_ hk => ⟨Kd.fresh' (Kd.R_lt (kR HO_246000.out)) k_ hk, Kd.fresh' (Kd.R_lt (kR HO_246001.out)) k_ hk, Kd.fresh' (Kd.R_lt (kR HO276.out)) k_ hk⟩)); (case aO => exact (kR (Kd.R_mono HO_7.out (fun _ hk => ⟨hk.1.1, ⟨hk.1.2, hk.2⟩⟩)))); (case aS => exact (below_size bS)); (case aL => have := LMc54.out; omega); intro v279 w71 ho hb hg hat; rw [← Ny278.out] at ho; replace HO_8 := am (Kd.R_over' (kR HO_8.out) (Kd.R_typed (kR HO_7.out)) (by decide) hg); replace HO_246000 := am (Kd.R_after (ok := (fun k_ => some k_ ≠ (.slice (some ad277) t242.length co8 : Value).ownBlock ∧ some k_ ≠ (v275 : Value).ownBlock)) (kR (Kd.R_mono HO_246000.out (fun _ hk => ⟨⟨hk.1.2, hk.2⟩, hk.1.1⟩))) hg hat); replace HO_246001 := am (Kd.R_after (ok := (fun k_ => some k_ ≠ (.slice (some ad273) t239.length co6 : Value).ownBlock ∧ some k_ ≠ (v275 : Value).ownBlock)) (kR (Kd.R_mono HO_246001.out (fun _ hk => ⟨⟨hk.1.2, hk.2⟩, hk.1.1⟩))) hg hat); replace BK245 := am (blk_grown (g := gb245) (o := .cells #[.slice (some ad273) t239.length co6, .slice (some ad277) t242.length co8] 76 (0, 0)) (bk BK245.out) hg (Kd.R_ne HO_7.out BK245.out (by decide))); replace HO276 := am (Kd.R_after (ok := (fun k_ => some k_ ≠ (.slice (some ad273) t239.length co6 : Value).ownBlock ∧ some k_ ≠ (.slice (some ad277) t242.length co8 : Value).ownBlock)) (kR (Kd.R_mono HO276.out (fun _ hk => ⟨⟨hk.2.1, hk.2.2⟩, hk.1⟩))) hg hat); replace HB := am (hb); have HO280 := am (ho); clear HO_7; clear ho hb hg hat; have hcz72_0 := bc BK245.out 0 (.slice (some ad273) t239.length co6); have hcz72_1 := bc BK245.out 1 (.slice (some ad277) t242.length co8); have hfz72_0 := blk_frozen BK245.out 0; have hfz72_1 := blk_frozen BK245.out 1) | (go_at_call 80; (with_reducible refine (spec_l07Char.calls k1 _ _ t239 x9_1 t284 _ ?side1 ?side2 A64.out).mono ?_); (case side1 => repeat (first | exact (Kd.R_reads' HO_246000.out).2.2 | (with_reducible refine Kd.C_alloc ?_ _) | (with_reducible refine Kd.C_drewN ?_ _) | (with_reducible refine Kd.C_drew ?_))); (case side2 => exact (Kd.R_reads' HO_246000.out).2.1); rintro e w73 ⟨rfl, hb⟩; replace HO_8 := am (Kd.R_below (kR HO_8.out) hb); replace HO_246000 := am (Kd.R_below (kR HO_246000.out) hb); replace HO_246001 := am (Kd.R_below (kR HO_246001.out) hb); replace HO276 := am (Kd.R_below (kR HO276.out) hb); replace HO280 := am (Kd.R_below (kR HO280.out) hb); replace BK245 := am (blk_below (g := gb245) (o := .cells #[.slice (some ad273) t239.length co6, .slice (some ad277) t242.length co8] 76 (0, 0)) (bk BK245.out) hb); replace HB := am (below_step bS hb); (try clear hb)) | ((with_reducible refine gate_builtin (b := .append) (xs := #[.tmp 56, .tmp 65]) rfl ?_); at_builtin; refine Kd.R_append Kd.bool (w0 := w) w.heap.size rfl (.tmp 56) (.tmp 65) 60 4 (.bool false) 1 rfl Tryd.underlying60 info4 rfl (by decide) (by omega) u8 x8_1 t284 [.bool t284] (fun _ => True) (fun _ => False) rfl rfl ?aP (fun _ hk => hk.elim) ?aF ?aO ?aB ?aS ?aL ?_; (case aP => exact rfl); (case aB => exact bS); (case aF => exact (fun _ _ => trivial)); (case aO => exact (kR HO_8.out)); (case aS => exact (below_size bS)); (case aL => have := LMc65.out; omega); intro v286 w74 ho hb hg hat; rw [← Ny285.out] at ho; replace HO_246000 := am (Kd.R_over' (kR HO_246000.out) (Kd.R_typed (kR HO_8.out)) (by decide) hg); replace HO_246001 := am (Kd.R_over' (kR HO_246001.out) (Kd.R_typed (kR HO_8.out)) (by decide) hg); replace BK245 := am (blk_grown (g := gb245) (o := .cells #[.slice (some ad273) t239.length co6, .slice (some ad277) t242.length co8] 76 (0, 0)) (bk BK245.out) hg (Kd.R_ne HO_8.out BK245.out (by decide))); replace HO276 := am (Kd.R_over' (kR HO276.out) (Kd.R_typed (kR HO_8.out)) (by decide) hg); replace HO280 := am (Kd.R_over' (kR HO280.out) (Kd.R_typed (kR HO_8.out)) (by decide) hg); replace HB := am (hb); have HO287 := am (ho); clear HO_8; clear ho hb hg hat))
    go_roundg k1
    case measure => have := HK1.out; omega
    case rel => exact ⟨(y274), (y278), (y285), (wrap64 (x9_1 + 1)), sr, H', ⟨kl⟩, ⟨kR (Kd.R_mono HO276.out (fun _ hk => ⟨hk.2, ⟨hk.1.1, hk.1.2⟩⟩))⟩, ⟨kR (Kd.R_mono HO280.out (fun _ hk => ⟨hk.2.2, ⟨hk.1, hk.2.1⟩⟩))⟩, ⟨kR HO287.out⟩, ⟨kR (Kd.R_mono HO_246000.out (fun _ hk => ⟨hk.1.2, ⟨hk.2, hk.1.1⟩⟩))⟩, ⟨kR (Kd.R_mono HO_246001.out (fun _ hk => ⟨hk.1.2, ⟨hk.2, hk.1.1⟩⟩))⟩, ⟨bk BK245.out⟩, ⟨bS⟩⟩
   rw [if_pos c16] at H
   have c16b0 : decide (0 < x9_1) = true := decide_eq_true c16
   clear c16
   replace H := iteN H
   obtain ⟨c17, H⟩ := H
   have c17b0 := decide_eq_true c17
   clear c17
   obtain ⟨ji18, hji18⟩ : ∃ j_ : Int, (wrap64 (x9_1 - 1)) = j_ := ⟨_, rfl⟩
   replace H : (if 0 ≤ (ji18) then (if (ji18) < (t239.length : Int) then ((spec_l07Belongs.f k1 (rd t239 x9_1) (rd t239 (ji18))).bind fun t257 => (if t257 = true then (spec_l07Words.l0 k1 a0 l1 x6_1 x7_1 x8_1 (wrap64 (x9_1 + 1)) t239 t242) else (if x6_1.length < 17592186044416 then ((some (x6_1 ++ [rd t239 x9_1] : List Int)).bind fun y259 => (if x9_1 < (t242.length : Int) then (if x7_1.length < 17592186044416 then ((some (x7_1 ++ [rd t242 x9_1] : List Int)).bind fun y263 => (if x9_1 = 0 then (if x8_1.length < 140737488355328 then (spec_l07Words.l0 k1 a0 l1 y259 y263 (x8_1 ++ [true]) (wrap64 (x9_1 + 1)) t239 t242) else (none)) else ((spec_l07Char.f k1 t239 x9_1).bind fun t269 => (if x8_1.length < 140737488355328 then (spec_l07Words.l0 k1 a0 l1 y259 y263 (x8_1 ++ [t269]) (wrap64 (x9_1 + 1)) t239 t242) else (none))))) else (none)) else (none))) else (none)))) else (none)) else (none)) = some r := by first | (rw [hji18] at H; exact H) | (simp only [hji18] at H ⊢; exact H)
   have hji18w : (IntKind.i64.wrap (x9_1 - 1)) = ji18 := (i64_w _).trans hji18
   replace H := iteN H
   obtain ⟨c19, H⟩ := H
   have c19b0 := decide_eq_true c19
   clear c19
   replace H := iteN H
   obtain ⟨c20, H⟩ := H
   have c20b0 := decide_eq_true c20
   clear c20
   obtain ⟨t257, A21, H⟩ := bb H
   by_cases c22 : t257 = true
   ·subst c22
    replace H := iT H
    have H' := am H
    clear H
    have hcz23_0 := bc BK245.out 0 (.slice Ao6 t239.length co6)
    have hcz23_1 := bc BK245.out 1 (.slice Ao8 t242.length co8)
    have hfz23_0 := blk_frozen BK245.out 0
    have hfz23_1 := blk_frozen BK245.out 1
    try go_wp2
    replace HO_6 := am (Kd.R_drew HO_6.out)
    replace HO_7 := am (Kd.R_drew HO_7.out)
    replace HO_8 := am (Kd.R_drew HO_8.out)
    replace HO_246000 := am (Kd.R_drew HO_246000.out)
    replace HO_246001 := am (Kd.R_drew HO_246001.out)
    replace BK245 := am (blk_drew BK245.out)
    replace HB := am (below_drew1 HB.out)
    have p255 : 0 ≤ (x9_1 : Int) := od
    have q255 : x9_1 < (t239.length : Int) := od
    obtain ⟨ad255, e255, hx255_0⟩ := Kd.at_int (Kd.R_reads' HO_246000.out).2.2 x9_1 p255 q255
    cases e255
    replace p255 := eq_true p255; replace q255 := eq_true q255
    have p256 : 0 ≤ ((ji18) : Int) := od
    have q256 : (ji18) < (t239.length : Int) := od
    obtain ⟨ad256, e256, hx256_0⟩ := Kd.at_int (Kd.R_reads' HO_246000.out).2.2 (ji18) p256 q256
    obtain rfl : ad255 = ad256 := (by injection e256)
    replace p256 := eq_true p256; replace q256 := eq_true q256
    refine start_ (n := 16) (S := fun w' => w'.cell? ⟨gb245, 0, none⟩ = some (.slice (some ad255) t239.length co6) ∧ w'.cell? ⟨gb245, 1, none⟩ = some (.slice Ao8 t242.length co8) ∧ w'.cell? (ad255.add (x9_1).toNat) = some (.int .i64 (rd t239 x9_1)) ∧ w'.cell? (ad255.add ((ji18)).toNat) = some (.int .i64 (rd t239 (ji18)))) (ds := []) #[false, false, false, false, false, false, false, false, false, false, false, false, false, false, false, false] (by kernel_rfl) rfl rfl ⟨(blk_cell BK245.out 0).trans rfl, (blk_cell BK245.out 1).trans rfl, hx255_0, hx256_0⟩ (fun hHeld => ?_); refine with_tabW spec_l07Words.tab8 spec_l07Words.bits8 (fun HT_ HW_ => ?_)
    generalize wr.drew = w24 at HO_6 HO_7 HO_8 HO_246000 HO_246001 BK245 HB hx255_0 hx256_0 hHeld ⊢
    refine pq 0 24 HT_.out ?_
    refine pq 1 25 HT_.out ?_
    refine pq 2 26 HT_.out ?_
    refine pq 3 27 HT_.out ?_
    refine pq 5 29 HT_.out ?_
    refine pq 8 32 HT_.out ?_
    refine pq 10 34 HT_.out ?_
    refine pq 11 35 HT_.out ?_
    refine take_ (i := 4) (N := some 28) (v := ?_) (a' := ?_) #[true, true, true, true, true, true, false, false, true, false, true, true, false, false, false, false] rfl rfl (take_ofW HT_.out HW_.out (by kernel_rfl)) (fun _ _ _ h => h) (Or.inl ⟨by rfl, ?_⟩) hHeld ?_ ?_
    rotate_left
    ·rintro w' ⟨s0, s1, s2, s3⟩
     go_simp
     with_reducible rfl
    rotate_left
    ·simp only [Act.put, List.setIfInBounds_toArray, List.set_cons_zero, List.set_cons_succ, i64_w, i32_w]
     rfl
    refine pq 6 30 HT_.out ?_
    refine take_ (i := 7) (N := some 31) (v := ?_) (a' := ?_) #[true, true, true, true, true, true, true, true, true, false, true, true, false, false, false, false] rfl rfl (take_ofW HT_.out HW_.out (by kernel_rfl)) (fun _ _ _ h => h) (Or.inl ⟨by rfl, ?_⟩) hHeld ?_ ?_
    rotate_left
    ·rintro w' ⟨s0, s1, s2, s3⟩
     go_simp
     with_reducible rfl
    rotate_left
    ·simp only [Act.put, List.setIfInBounds_toArray, List.set_cons_zero, List.set_cons_succ, i64_w, i32_w]
     rfl
    refine take_ (i := 9) (N := some 33) (v := ?_) (a' := ?_) #[true, true, true, true, true, true, true, true, true, true, true, true, false, false, false, false] rfl rfl (take_ofW HT_.out HW_.out (by kernel_rfl)) (fun _ _ _ h => h) (Or.inl ⟨by rfl, ?_⟩) hHeld ?_ ?_
    rotate_left
    ·rintro w' ⟨s0, s1, s2, s3⟩
     go_simp
     with_reducible rfl
    rotate_left
    ·simp only [Act.put, List.setIfInBounds_toArray, List.set_cons_zero, List.set_cons_succ, i64_w, i32_w]
     rfl
    refine pq 12 36 HT_.out ?_
    refine take_ (i := 13) (N := some 37) (v := ?_) (a' := ?_) #[true, true, true, true, true, true, true, true, true, true, true, true, true, true, false, false] rfl rfl (take_ofW HT_.out HW_.out (by kernel_rfl)) (fun _ _ _ h => h) (Or.inl ⟨by rfl, ?_⟩) hHeld ?_ ?_
    rotate_left
    ·rintro w' ⟨s0, s1, s2, s3⟩
     go_simp
     with_reducible rfl
    rotate_left
    ·simp only [Act.put, List.setIfInBounds_toArray, List.set_cons_zero, List.set_cons_succ, i64_w, i32_w]
     rfl
    refine one_ (i := 14) (N := some 38) #[true, true, true, true, true, true, true, true, true, true, true, true, true, true, true, false] rfl rfl (one_of HT_.out (by kernel_rfl)) (by decide) (fun K hK => ?_)
    refine goes_ Tryd.func82 (by kernel_rfl) rfl #[.int .i64 (rd t239 x9_1), .int .i64 (rd t239 (ji18))] (by rfl) rfl rfl (by (try simp only [List.map_toArray, List.map_cons, List.map_nil]); first | done | (simp only [hji18]; rfl) | rfl | (simp only [List.length_drop, List.length_take]; rfl)) ?_
    with_reducible refine (spec_l07Belongs.calls k1 (rd t239 x9_1) (rd t239 (ji18)) true _ A21.out).mono ?_
    rintro e w25 ⟨rfl, hb⟩
    have HS2_ := (hb.cell (World.block_lt_of_cell? _ _ (hHeld.2.2.1))).trans (hHeld.2.2.1)
    have HS3_ := (hb.cell (World.block_lt_of_cell? _ _ (hHeld.2.2.2))).trans (hHeld.2.2.2)
    refine ⟨_, rfl, ?_⟩
    replace HO_6 := am (Kd.R_below (kR HO_6.out) hb)
    replace HO_7 := am (Kd.R_below (kR HO_7.out) hb)
    replace HO_8 := am (Kd.R_below (kR HO_8.out) hb)
    replace HO_246000 := am (Kd.R_below (kR HO_246000.out) hb)
    replace HO_246001 := am (Kd.R_below (kR HO_246001.out) hb)
    replace BK245 := am (blk_below (g := gb245) (o := .cells #[.slice (some ad255) t239.length co6, .slice Ao8 t242.length co8] 76 (0, 0)) (bk BK245.out) hb)
    replace HB := am (below_step bS hb)
    (try clear hb)
    (try clear hb2)
    (try clear hk)
    (try clear hi)
    refine hK.out _ _ ⟨(blk_cell BK245.out 0).trans rfl, (blk_cell BK245.out 1).trans rfl, HS2_, HS3_⟩ (fun hHeld => ?_)
    clear hK K
    refine norm_ (a' := ?_) ?_ ?_
    rotate_left
    ·show Act.put _ (some 38) _ = _
     simp only [Act.put, List.setIfInBounds_toArray, List.set_cons_zero, List.set_cons_succ, i64_w, i32_w]
     rfl
    refine pq 15 39 HT_.out ?_
    refine done_ (done_of HT_.out (by kernel_rfl)) ?_
    try go_wp2
    go_roundg k1
    case measure => have := HK1.out; omega
    case rel => exact ⟨(x6_1), (x7_1), (x8_1), (wrap64 (x9_1 + 1)), sr, H', ⟨kl⟩, ⟨kR HO_6.out⟩, ⟨kR HO_7.out⟩, ⟨kR HO_8.out⟩, ⟨kR HO_246000.out⟩, ⟨kR HO_246001.out⟩, ⟨bk BK245.out⟩, ⟨bS⟩⟩
   replace c22 := Bool.eq_false_iff.mpr c22
   subst c22
   replace H := iF H
   replace H := iteN H
   obtain ⟨c26, H⟩ := H
   have LMc26 := am c26
   clear c26
   obtain ⟨y259, hy259⟩ : ∃ y_ : List Int, y_ = (x6_1 ++ [rd t239 x9_1]) := ⟨_, rfl⟩
   replace H : (if x9_1 < (t242.length : Int) then (if x7_1.length < 17592186044416 then ((some (x7_1 ++ [rd t242 x9_1] : List Int)).bind fun y263 => (if x9_1 = 0 then (if x8_1.length < 140737488355328 then (spec_l07Words.l0 k1 a0 l1 y259 y263 (x8_1 ++ [true]) (wrap64 (x9_1 + 1)) t239 t242) else (none)) else ((spec_l07Char.f k1 t239 x9_1).bind fun t269 => (if x8_1.length < 140737488355328 then (spec_l07Words.l0 k1 a0 l1 y259 y263 (x8_1 ++ [t269]) (wrap64 (x9_1 + 1)) t239 t242) else (none))))) else (none)) else (none)) = some r := rY hy259
   have Ny259 := am hy259
   clear hy259
   replace H := iteN H
   obtain ⟨c27, H⟩ := H
   have c27b0 := decide_eq_true c27
   clear c27
   replace H := iteN H
   obtain ⟨c28, H⟩ := H
   have LMc28 := am c28
   clear c28
   obtain ⟨y263, hy263⟩ : ∃ y_ : List Int, y_ = (x7_1 ++ [rd t242 x9_1]) := ⟨_, rfl⟩
   replace H : (if x9_1 = 0 then (if x8_1.length < 140737488355328 then (spec_l07Words.l0 k1 a0 l1 y259 y263 (x8_1 ++ [true]) (wrap64 (x9_1 + 1)) t239 t242) else (none)) else ((spec_l07Char.f k1 t239 x9_1).bind fun t269 => (if x8_1.length < 140737488355328 then (spec_l07Words.l0 k1 a0 l1 y259 y263 (x8_1 ++ [t269]) (wrap64 (x9_1 + 1)) t239 t242) else (none)))) = some r := rY hy263
   have Ny263 := am hy263
   clear hy263
   by_cases c29 : x9_1 = 0
   ·rw [if_pos c29] at H
    have c29b0 : (x9_1 == 0) = true := beq_iff_eq.mpr c29
    have c29b1 : (x9_1 != 0) = false := bne_eq_false_iff_eq.mpr c29
    clear c29
    replace H := iteN H
    obtain ⟨c30, H⟩ := H
    have LMc30 := am c30
    clear c30
    obtain ⟨y266, hy266⟩ : ∃ y_ : List Bool, y_ = (x8_1 ++ [true]) := ⟨_, rfl⟩
    replace H : (spec_l07Words.l0 k1 a0 l1 y259 y263 y266 (wrap64 (x9_1 + 1)) t239 t242) = some r := rY hy266
    have Ny266 := am hy266
    clear hy266
    have H' := am H
    clear H
    have hcz31_0 := bc BK245.out 0 (.slice Ao6 t239.length co6)
    have hcz31_1 := bc BK245.out 1 (.slice Ao8 t242.length co8)
    have hfz31_0 := blk_frozen BK245.out 0
    have hfz31_1 := blk_frozen BK245.out 1
    try go_wp2
    replace HO_6 := am (Kd.R_drew HO_6.out)
    replace HO_7 := am (Kd.R_drew HO_7.out)
    replace HO_8 := am (Kd.R_drew HO_8.out)
    replace HO_246000 := am (Kd.R_drew HO_246000.out)
    replace HO_246001 := am (Kd.R_drew HO_246001.out)
    replace BK245 := am (blk_drew BK245.out)
    replace HB := am (below_drew1 HB.out)
    have p255 : 0 ≤ (x9_1 : Int) := od
    have q255 : x9_1 < (t239.length : Int) := od
    obtain ⟨ad255, e255, hx255_0⟩ := Kd.at_int (Kd.R_reads' HO_246000.out).2.2 x9_1 p255 q255
    cases e255
    replace p255 := eq_true p255; replace q255 := eq_true q255
    have p256 : 0 ≤ ((ji18) : Int) := od
    have q256 : (ji18) < (t239.length : Int) := od
    obtain ⟨ad256, e256, hx256_0⟩ := Kd.at_int (Kd.R_reads' HO_246000.out).2.2 (ji18) p256 q256
    obtain rfl : ad255 = ad256 := (by injection e256)
    replace p256 := eq_true p256; replace q256 := eq_true q256
    refine start_ (n := 16) (S := fun w' => w'.cell? ⟨gb245, 0, none⟩ = some (.slice (some ad255) t239.length co6) ∧ w'.cell? ⟨gb245, 1, none⟩ = some (.slice Ao8 t242.length co8) ∧ w'.cell? (ad255.add (x9_1).toNat) = some (.int .i64 (rd t239 x9_1)) ∧ w'.cell? (ad255.add ((ji18)).toNat) = some (.int .i64 (rd t239 (ji18)))) (ds := []) #[false, false, false, false, false, false, false, false, false, false, false, false, false, false, false, false] (by kernel_rfl) rfl rfl ⟨(blk_cell BK245.out 0).trans rfl, (blk_cell BK245.out 1).trans rfl, hx255_0, hx256_0⟩ (fun hHeld => ?_); refine with_tabW spec_l07Words.tab8 spec_l07Words.bits8 (fun HT_ HW_ => ?_)
    generalize wr.drew = w32 at HO_6 HO_7 HO_8 HO_246000 HO_246001 BK245 HB hx255_0 hx256_0 hHeld ⊢
    refine pq 0 24 HT_.out ?_
    refine pq 1 25 HT_.out ?_
    refine pq 2 26 HT_.out ?_
    refine pq 3 27 HT_.out ?_
    refine pq 5 29 HT_.out ?_
    refine pq 8 32 HT_.out ?_
    refine pq 10 34 HT_.out ?_
    refine pq 11 35 HT_.out ?_
    refine take_ (i := 4) (N := some 28) (v := ?_) (a' := ?_) #[true, true, true, true, true, true, false, false, true, false, true, true, false, false, false, false] rfl rfl (take_ofW HT_.out HW_.out (by kernel_rfl)) (fun _ _ _ h => h) (Or.inl ⟨by rfl, ?_⟩) hHeld ?_ ?_
    rotate_left
    ·rintro w' ⟨s0, s1, s2, s3⟩
     go_simp
     with_reducible rfl
    rotate_left
    ·simp only [Act.put, List.setIfInBounds_toArray, List.set_cons_zero, List.set_cons_succ, i64_w, i32_w]
     rfl
    refine pq 6 30 HT_.out ?_
    refine take_ (i := 7) (N := some 31) (v := ?_) (a' := ?_) #[true, true, true, true, true, true, true, true, true, false, true, true, false, false, false, false] rfl rfl (take_ofW HT_.out HW_.out (by kernel_rfl)) (fun _ _ _ h => h) (Or.inl ⟨by rfl, ?_⟩) hHeld ?_ ?_
    rotate_left
    ·rintro w' ⟨s0, s1, s2, s3⟩
     go_simp
     with_reducible rfl
    rotate_left
    ·simp only [Act.put, List.setIfInBounds_toArray, List.set_cons_zero, List.set_cons_succ, i64_w, i32_w]
     rfl
    refine take_ (i := 9) (N := some 33) (v := ?_) (a' := ?_) #[true, true, true, true, true, true, true, true, true, true, true, true, false, false, false, false] rfl rfl (take_ofW HT_.out HW_.out (by kernel_rfl)) (fun _ _ _ h => h) (Or.inl ⟨by rfl, ?_⟩) hHeld ?_ ?_
    rotate_left
    ·rintro w' ⟨s0, s1, s2, s3⟩
     go_simp
     with_reducible rfl
    rotate_left
    ·simp only [Act.put, List.setIfInBounds_toArray, List.set_cons_zero, List.set_cons_succ, i64_w, i32_w]
     rfl
    refine pq 12 36 HT_.out ?_
    refine take_ (i := 13) (N := some 37) (v := ?_) (a' := ?_) #[true, true, true, true, true, true, true, true, true, true, true, true, true, true, false, false] rfl rfl (take_ofW HT_.out HW_.out (by kernel_rfl)) (fun _ _ _ h => h) (Or.inl ⟨by rfl, ?_⟩) hHeld ?_ ?_
    rotate_left
    ·rintro w' ⟨s0, s1, s2, s3⟩
     go_simp
     with_reducible rfl
    rotate_left
    ·simp only [Act.put, List.setIfInBounds_toArray, List.set_cons_zero, List.set_cons_succ, i64_w, i32_w]
     rfl
    refine one_ (i := 14) (N := some 38) #[true, true, true, true, true, true, true, true, true, true, true, true, true, true, true, false] rfl rfl (one_of HT_.out (by kernel_rfl)) (by decide) (fun K hK => ?_)
    refine goes_ Tryd.func82 (by kernel_rfl) rfl #[.int .i64 (rd t239 x9_1), .int .i64 (rd t239 (ji18))] (by rfl) rfl rfl (by (try simp only [List.map_toArray, List.map_cons, List.map_nil]); first | done | (simp only [hji18]; rfl) | rfl | (simp only [List.length_drop, List.length_take]; rfl)) ?_
    with_reducible refine (spec_l07Belongs.calls k1 (rd t239 x9_1) (rd t239 (ji18)) false _ A21.out).mono ?_
    rintro e w33 ⟨rfl, hb⟩
    have HS2_ := (hb.cell (World.block_lt_of_cell? _ _ (hHeld.2.2.1))).trans (hHeld.2.2.1)
    have HS3_ := (hb.cell (World.block_lt_of_cell? _ _ (hHeld.2.2.2))).trans (hHeld.2.2.2)
    refine ⟨_, rfl, ?_⟩
    replace HO_6 := am (Kd.R_below (kR HO_6.out) hb)
    replace HO_7 := am (Kd.R_below (kR HO_7.out) hb)
    replace HO_8 := am (Kd.R_below (kR HO_8.out) hb)
    replace HO_246000 := am (Kd.R_below (kR HO_246000.out) hb)
    replace HO_246001 := am (Kd.R_below (kR HO_246001.out) hb)
    replace BK245 := am (blk_below (g := gb245) (o := .cells #[.slice (some ad255) t239.length co6, .slice Ao8 t242.length co8] 76 (0, 0)) (bk BK245.out) hb)
    replace HB := am (below_step bS hb)
    (try clear hb)
    (try clear hb2)
    (try clear hk)
    (try clear hi)
    refine hK.out _ _ ⟨(blk_cell BK245.out 0).trans rfl, (blk_cell BK245.out 1).trans rfl, HS2_, HS3_⟩ (fun hHeld => ?_)
    clear hK K
    refine norm_ (a' := ?_) ?_ ?_
    rotate_left
    ·show Act.put _ (some 38) _ = _
     simp only [Act.put, List.setIfInBounds_toArray, List.set_cons_zero, List.set_cons_succ, i64_w, i32_w]
     rfl
    refine pq 15 39 HT_.out ?_
    refine done_ (done_of HT_.out (by kernel_rfl)) ?_
    have hcz34_0 := bc BK245.out 0 (.slice (some ad255) t239.length co6)
    have hcz34_1 := bc BK245.out 1 (.slice Ao8 t242.length co8)
    have hfz34_0 := blk_frozen BK245.out 0
    have hfz34_1 := blk_frozen BK245.out 1
    have p258 : 0 ≤ (x9_1 : Int) := od
    have q258 : x9_1 < (t239.length : Int) := od
    obtain ⟨ad258, e258, hx258_0⟩ := Kd.at_int (Kd.R_reads' HO_246000.out).2.2 x9_1 p258 q258
    obtain rfl : ad255 = ad258 := (by injection e258)
    replace p258 := eq_true p258; replace q258 := eq_true q258
    try go_wp2_with (first | ((with_reducible refine gate_builtin (b := .append) (xs := #[.tmp 40, .tmp 46]) rfl ?_); at_builtin; refine Kd.R_append (Kd.int .i64) (w0 := w) w.heap.size rfl (.tmp 40) (.tmp 46) 22 2 (.int .i64 0) 8 rfl Tryd.underlying22 info2 rfl (by decide) (by omega) u6 x6_1 (rd t239 x9_1) [.int .i64 (rd t239 x9_1)] (fun k_ => some k_ ≠ (u7 : Value).ownBlock ∧ some k_ ≠ (.slice (some ad255) t239.length co6 : Value).ownBlock ∧ some k_ ≠ (.slice Ao8 t242.length co8 : Value).ownBlock) (fun _ => False) rfl rfl ?aP (fun _ hk => hk.elim) ?aF ?aO ?aB ?aS ?aL ?_; (case aP => exact rfl); (case aB => exact bS); (case aF => exact (fun k_ hk => ⟨Kd.fresh' (Kd.R_lt (kR HO_7.out)) k_ hk, Kd.fresh' (Kd.R_lt (kR HO_246000.out)) k_ hk, Kd.fresh' (Kd.R_lt (kR HO_246001.out)) k_ hk⟩)); (case aO => exact (kR HO_6.out)); (case aS => exact (below_size bS)); (case aL => have := LMc26.out; omega); intro v260 w35 ho hb hg hat; rw [← Ny259.out] at ho; replace HO_7 := am (Kd.R_after (ok := (fun k_ => some k_ ≠ (.slice (some ad255) t239.length co6 : Value).ownBlock ∧ some k_ ≠ (.slice Ao8 t242.length co8 : Value).ownBlock)) (kR (Kd.R_mono HO_7.out (fun _ hk => ⟨⟨hk.2.1, hk.2.2⟩, hk.1⟩))) hg hat); replace HO_8 := am (Kd.R_over' (kR HO_8.out) (Kd.R_typed (kR HO_6.out)) (by decide) hg); replace HO_246000 := am (Kd.R_after (ok := (fun k_ => some k_ ≠ (u7 : Value).ownBlock ∧ some k_ ≠ (.slice Ao8 t242.length co8 : Value).ownBlock)) (kR (Kd.R_mono HO_246000.out (fun _ hk => ⟨⟨hk.2.1, hk.2.2⟩, hk.1⟩))) hg hat); replace HO_246001 := am (Kd.R_after (ok := (fun k_ => some k_ ≠ (u7 : Value).ownBlock ∧ some k_ ≠ (.slice (some ad255) t239.length co6 : Value).ownBlock)) (kR (Kd.R_mono HO_246001.out (fun _ hk => ⟨⟨hk.2.1, hk.2.2⟩, hk.1⟩))) hg hat); replace BK245 := am (blk_grown (g := gb245) (o := .cells #[.slice (some ad255) t239.length co6, .slice Ao8 t242.length co8] 76 (0, 0)) (bk BK245.out) hg (Kd.R_ne HO_6.out BK245.out (by decide))); replace HB := am (hb); have HO261 := am (ho); clear HO_6; clear ho hb hg hat; have hcz36_0 := bc BK245.out 0 (.slice (some ad255) t239.length co6); have hcz36_1 := bc BK245.out 1 (.slice Ao8 t242.length co8); have hfz36_0 := blk_frozen BK245.out 0; have hfz36_1 := blk_frozen BK245.out 1; have p262 : 0 ≤ (x9_1 : Int) := od; have q262 : x9_1 < (t242.length : Int) := od; obtain ⟨ad262, e262, hx262_0⟩ := Kd.at_int (Kd.R_reads' HO_246001.out).2.2 x9_1 p262 q262; cases e262; replace p262 := eq_true p262; replace q262 := eq_true q262) | ((with_reducible refine gate_builtin (b := .append) (xs := #[.tmp 48, .tmp 54]) rfl ?_); at_builtin; refine Kd.R_append (Kd.int .i64) (w0 := w) w.heap.size rfl (.tmp 48) (.tmp 54) 22 2 (.int .i64 0) 8 rfl Tryd.underlying22 info2 rfl (by decide) (by omega) u7 x7_1 (rd t242 x9_1) [.int .i64 (rd t242 x9_1)] (fun k_ => some k_ ≠ (.slice (some ad255) t239.length co6 : Value).ownBlock ∧ some k_ ≠ (.slice (some ad262) t242.length co8 : Value).ownBlock ∧ some k_ ≠ (v260 : Value).ownBlock) (fun _ => False) rfl rfl ?aP (fun _ hk => hk.elim) ?aF ?aO ?aB ?aS ?aL ?_; (case aP => exact rfl); (case aB => exact bS); (case aF => exact (fun k_ hk => ⟨Kd.fresh' (Kd.R_lt (kR HO_246000.out)) k_ hk, Kd.fresh' (Kd.R_lt (kR HO_246001.out)) k_ hk, Kd.fresh' (Kd.R_lt (kR HO261.out)) k_ hk⟩)); (case aO => exact (kR (Kd.R_mono HO_7.out (fun _ hk => ⟨hk.1.1, ⟨hk.1.2, hk.2⟩⟩)))); (case aS => exact (below_size bS)); (case aL => have := LMc28.out; omega); intro v264 w37 ho hb hg hat; rw [← Ny263.out] at ho; replace HO_8 := am (Kd.R_over' (kR HO_8.out) (Kd.R_typed (kR HO_7.out)) (by decide) hg); replace HO_246000 := am (Kd.R_after (ok := (fun k_ => some k_ ≠ (.slice (some ad262) t242.length co8 : Value).ownBlock ∧ some k_ ≠ (v260 : Value).ownBlock)) (kR (Kd.R_mono HO_246000.out (fun _ hk => ⟨⟨hk.1.2, hk.2⟩, hk.1.1⟩))) hg hat); replace HO_246001 := am (Kd.R_after (ok := (fun k_ => some k_ ≠ (.slice (some ad255) t239.length co6 : Value).ownBlock ∧ some k_ ≠ (v260 : Value).ownBlock)) (kR (Kd.R_mono HO_246001.out (fun _ hk => ⟨⟨hk.1.2, hk.2⟩, hk.1.1⟩))) hg hat); replace BK245 := am (blk_grown (g := gb245) (o := .cells #[.slice (some ad255) t239.length co6, .slice (some ad262) t242.length co8] 76 (0, 0)) (bk BK245.out) hg (Kd.R_ne HO_7.out BK245.out (by decide))); replace HO261 := am (Kd.R_after (ok := (fun k_ => some k_ ≠ (.slice (some ad255) t239.length co6 : Value).ownBlock ∧ some k_ ≠ (.slice (some ad262) t242.length co8 : Value).ownBlock)) (kR (Kd.R_mono HO261.out (fun _ hk => ⟨⟨hk.2.1, hk.2.2⟩, hk.1⟩))) hg hat); replace HB := am (hb); have HO265 := am (ho); clear HO_7; clear ho hb hg hat) | ((with_reducible refine gate_builtin (b := .append) (xs := #[.tmp 56, .tmp 65]) rfl ?_); at_builtin; refine Kd.R_append Kd.bool (w0 := w) w.heap.size rfl (.tmp 56) (.tmp 65) 60 4 (.bool false) 1 rfl Tryd.underlying60 info4 rfl (by decide) (by omega) u8 x8_1 true [.bool true] (fun _ => True) (fun _ => False) rfl rfl ?aP (fun _ hk => hk.elim) ?aF ?aO ?aB ?aS ?aL ?_; (case aP => exact rfl); (case aB => exact bS); (case aF => exact (fun _ _ => trivial)); (case aO => exact (kR HO_8.out)); (case aS => exact (below_size bS)); (case aL => have := LMc30.out; omega); intro v267 w38 ho hb hg hat; rw [← Ny266.out] at ho; replace HO_246000 := am (Kd.R_over' (kR HO_246000.out) (Kd.R_typed (kR HO_8.out)) (by decide) hg); replace HO_246001 := am (Kd.R_over' (kR HO_246001.out) (Kd.R_typed (kR HO_8.out)) (by decide) hg); replace BK245 := am (blk_grown (g := gb245) (o := .cells #[.slice (some ad255) t239.length co6, .slice (some ad262) t242.length co8] 76 (0, 0)) (bk BK245.out) hg (Kd.R_ne HO_8.out BK245.out (by decide))); replace HO261 := am (Kd.R_over' (kR HO261.out) (Kd.R_typed (kR HO_8.out)) (by decide) hg); replace HO265 := am (Kd.R_over' (kR HO265.out) (Kd.R_typed (kR HO_8.out)) (by decide) hg); replace HB := am (hb); have HO268 := am (ho); clear HO_8; clear ho hb hg hat))
    go_roundg k1
    case measure => have := HK1.out; omega
    case rel => exact ⟨(y259), (y263), (y266), (wrap64 (x9_1 + 1)), sr, H', ⟨kl⟩, ⟨kR (Kd.R_mono HO261.out (fun _ hk => ⟨hk.2, ⟨hk.1.1, hk.1.2⟩⟩))⟩, ⟨kR (Kd.R_mono HO265.out (fun _ hk => ⟨hk.2.2, ⟨hk.1, hk.2.1⟩⟩))⟩, ⟨kR HO268.out⟩, ⟨kR (Kd.R_mono HO_246000.out (fun _ hk => ⟨hk.1.2, ⟨hk.2, hk.1.1⟩⟩))⟩, ⟨kR (Kd.R_mono HO_246001.out (fun _ hk => ⟨hk.1.2, ⟨hk.2, hk.1.1⟩⟩))⟩, ⟨bk BK245.out⟩, ⟨bS⟩⟩
   rw [if_neg c29] at H
   have c29b0 : (x9_1 == 0) = false := beq_eq_false_iff_ne.mpr c29
   have c29b1 : (x9_1 != 0) = true := bne_iff_ne.mpr c29
   obtain ⟨t269, A39, H⟩ := bb H
   replace H := iteN H
   obtain ⟨c40, H⟩ := H
   have LMc40 := am c40
   clear c40
   obtain ⟨y270, hy270⟩ : ∃ y_ : List Bool, y_ = (x8_1 ++ [t269]) := ⟨_, rfl⟩
   replace H : (spec_l07Words.l0 k1 a0 l1 y259 y263 y270 (wrap64 (x9_1 + 1)) t239 t242) = some r := rY hy270
   have Ny270 := am hy270
   clear hy270
   have H' := am H
   clear H
   have hcz41_0 := bc BK245.out 0 (.slice Ao6 t239.length co6)
   have hcz41_1 := bc BK245.out 1 (.slice Ao8 t242.length co8)
   have hfz41_0 := blk_frozen BK245.out 0
   have hfz41_1 := blk_frozen BK245.out 1
   try go_wp2
   replace HO_6 := am (Kd.R_drew HO_6.out)
   replace HO_7 := am (Kd.R_drew HO_7.out)
   replace HO_8 := am (Kd.R_drew HO_8.out)
   replace HO_246000 := am (Kd.R_drew HO_246000.out)
   replace HO_246001 := am (Kd.R_drew HO_246001.out)
   replace BK245 := am (blk_drew BK245.out)
   replace HB := am (below_drew1 HB.out)
   have p255 : 0 ≤ (x9_1 : Int) := od
   have q255 : x9_1 < (t239.length : Int) := od
   obtain ⟨ad255, e255, hx255_0⟩ := Kd.at_int (Kd.R_reads' HO_246000.out).2.2 x9_1 p255 q255
   cases e255
   replace p255 := eq_true p255; replace q255 := eq_true q255
   have p256 : 0 ≤ ((ji18) : Int) := od
   have q256 : (ji18) < (t239.length : Int) := od
   obtain ⟨ad256, e256, hx256_0⟩ := Kd.at_int (Kd.R_reads' HO_246000.out).2.2 (ji18) p256 q256
   obtain rfl : ad255 = ad256 := (by injection e256)
   replace p256 := eq_true p256; replace q256 := eq_true q256
   refine start_ (n := 16) (S := fun w' => w'.cell? ⟨gb245, 0, none⟩ = some (.slice (some ad255) t239.length co6) ∧ w'.cell? ⟨gb245, 1, none⟩ = some (.slice Ao8 t242.length co8) ∧ w'.cell? (ad255.add (x9_1).toNat) = some (.int .i64 (rd t239 x9_1)) ∧ w'.cell? (ad255.add ((ji18)).toNat) = some (.int .i64 (rd t239 (ji18)))) (ds := []) #[false, false, false, false, false, false, false, false, false, false, false, false, false, false, false, false] (by kernel_rfl) rfl rfl ⟨(blk_cell BK245.out 0).trans rfl, (blk_cell BK245.out 1).trans rfl, hx255_0, hx256_0⟩ (fun hHeld => ?_); refine with_tabW spec_l07Words.tab8 spec_l07Words.bits8 (fun HT_ HW_ => ?_)
   generalize wr.drew = w42 at HO_6 HO_7 HO_8 HO_246000 HO_246001 BK245 HB hx255_0 hx256_0 hHeld ⊢
   refine pq 0 24 HT_.out ?_
   refine pq 1 25 HT_.out ?_
   refine pq 2 26 HT_.out ?_
   refine pq 3 27 HT_.out ?_
   refine pq 5 29 HT_.out ?_
   refine pq 8 32 HT_.out ?_
   refine pq 10 34 HT_.out ?_
   refine pq 11 35 HT_.out ?_
   refine take_ (i := 4) (N := some 28) (v := ?_) (a' := ?_) #[true, true, true, true, true, true, false, false, true, false, true, true, false, false, false, false] rfl rfl (take_ofW HT_.out HW_.out (by kernel_rfl)) (fun _ _ _ h => h) (Or.inl ⟨by rfl, ?_⟩) hHeld ?_ ?_
   rotate_left
   ·rintro w' ⟨s0, s1, s2, s3⟩
    go_simp
    with_reducible rfl
   rotate_left
   ·simp only [Act.put, List.setIfInBounds_toArray, List.set_cons_zero, List.set_cons_succ, i64_w, i32_w]
    rfl
   refine pq 6 30 HT_.out ?_
   refine take_ (i := 7) (N := some 31) (v := ?_) (a' := ?_) #[true, true, true, true, true, true, true, true, true, false, true, true, false, false, false, false] rfl rfl (take_ofW HT_.out HW_.out (by kernel_rfl)) (fun _ _ _ h => h) (Or.inl ⟨by rfl, ?_⟩) hHeld ?_ ?_
   rotate_left
   ·rintro w' ⟨s0, s1, s2, s3⟩
    go_simp
    with_reducible rfl
   rotate_left
   ·simp only [Act.put, List.setIfInBounds_toArray, List.set_cons_zero, List.set_cons_succ, i64_w, i32_w]
    rfl
   refine take_ (i := 9) (N := some 33) (v := ?_) (a' := ?_) #[true, true, true, true, true, true, true, true, true, true, true, true, false, false, false, false] rfl rfl (take_ofW HT_.out HW_.out (by kernel_rfl)) (fun _ _ _ h => h) (Or.inl ⟨by rfl, ?_⟩) hHeld ?_ ?_
   rotate_left
   ·rintro w' ⟨s0, s1, s2, s3⟩
    go_simp
    with_reducible rfl
   rotate_left
   ·simp only [Act.put, List.setIfInBounds_toArray, List.set_cons_zero, List.set_cons_succ, i64_w, i32_w]
    rfl
   refine pq 12 36 HT_.out ?_
   refine take_ (i := 13) (N := some 37) (v := ?_) (a' := ?_) #[true, true, true, true, true, true, true, true, true, true, true, true, true, true, false, false] rfl rfl (take_ofW HT_.out HW_.out (by kernel_rfl)) (fun _ _ _ h => h) (Or.inl ⟨by rfl, ?_⟩) hHeld ?_ ?_
   rotate_left
   ·rintro w' ⟨s0, s1, s2, s3⟩
    go_simp
    with_reducible rfl
   rotate_left
   ·simp only [Act.put, List.setIfInBounds_toArray, List.set_cons_zero, List.set_cons_succ, i64_w, i32_w]
    rfl
   refine one_ (i := 14) (N := some 38) #[true, true, true, true, true, true, true, true, true, true, true, true, true, true, true, false] rfl rfl (one_of HT_.out (by kernel_rfl)) (by decide) (fun K hK => ?_)
   refine goes_ Tryd.func82 (by kernel_rfl) rfl #[.int .i64 (rd t239 x9_1), .int .i64 (rd t239 (ji18))] (by rfl) rfl rfl (by (try simp only [List.map_toArray, List.map_cons, List.map_nil]); first | done | (simp only [hji18]; rfl) | rfl | (simp only [List.length_drop, List.length_take]; rfl)) ?_
   with_reducible refine (spec_l07Belongs.calls k1 (rd t239 x9_1) (rd t239 (ji18)) false _ A21.out).mono ?_
   rintro e w43 ⟨rfl, hb⟩
   have HS2_ := (hb.cell (World.block_lt_of_cell? _ _ (hHeld.2.2.1))).trans (hHeld.2.2.1)
   have HS3_ := (hb.cell (World.block_lt_of_cell? _ _ (hHeld.2.2.2))).trans (hHeld.2.2.2)
   refine ⟨_, rfl, ?_⟩
   replace HO_6 := am (Kd.R_below (kR HO_6.out) hb)
   replace HO_7 := am (Kd.R_below (kR HO_7.out) hb)
   replace HO_8 := am (Kd.R_below (kR HO_8.out) hb)
   replace HO_246000 := am (Kd.R_below (kR HO_246000.out) hb)
   replace HO_246001 := am (Kd.R_below (kR HO_246001.out) hb)
   replace BK245 := am (blk_below (g := gb245) (o := .cells #[.slice (some ad255) t239.length co6, .slice Ao8 t242.length co8] 76 (0, 0)) (bk BK245.out) hb)
   replace HB := am (below_step bS hb)
   (try clear hb)
   (try clear hb2)
   (try clear hk)
   (try clear hi)
   refine hK.out _ _ ⟨(blk_cell BK245.out 0).trans rfl, (blk_cell BK245.out 1).trans rfl, HS2_, HS3_⟩ (fun hHeld => ?_)
   clear hK K
   refine norm_ (a' := ?_) ?_ ?_
   rotate_left
   ·show Act.put _ (some 38) _ = _
    simp only [Act.put, List.setIfInBounds_toArray, List.set_cons_zero, List.set_cons_succ, i64_w, i32_w]
    rfl
   refine pq 15 39 HT_.out ?_
   refine done_ (done_of HT_.out (by kernel_rfl)) ?_
   have hcz44_0 := bc BK245.out 0 (.slice (some ad255) t239.length co6)
   have hcz44_1 := bc BK245.out 1 (.slice Ao8 t242.length co8)
   have hfz44_0 := blk_frozen BK245.out 0
   have hfz44_1 := blk_frozen BK245.out 1
   have p258 : 0 ≤ (x9_1 : Int) := od
   have q258 : x9_1 < (t239.length : Int) := od
   obtain ⟨ad258, e258, hx258_0⟩ := Kd.at_int (Kd.R_reads' HO_246000.out).2.2 x9_1 p258 q258
   obtain rfl : ad255 = ad258 := (by injection e258)
   replace p258 := eq_true p258; replace q258 := eq_true q258
   try go_wp2_with (first | ((with_reducible refine gate_builtin (b := .append) (xs := #[.tmp 40, .tmp 46]) rfl ?_); at_builtin; refine Kd.R_append (Kd.int .i64) (w0 := w) w.heap.size rfl (.tmp 40) (.tmp 46) 22 2 (.int .i64 0) 8 rfl Tryd.underlying22 info2 rfl (by decide) (by omega) u6 x6_1 (rd t239 x9_1) [.int .i64 (rd t239 x9_1)] (fun k_ => some k_ ≠ (u7 : Value).ownBlock ∧ some k_ ≠ (.slice (some ad255) t239.length co6 : Value).ownBlock ∧ some k_ ≠ (.slice Ao8 t242.length co8 : Value).ownBlock) (fun _ => False) rfl rfl ?aP (fun _ hk => hk.elim) ?aF ?aO ?aB ?aS ?aL ?_; (case aP => exact rfl); (case aB => exact bS); (case aF => exact (fun k_ hk => ⟨Kd.fresh' (Kd.R_lt (kR HO_7.out)) k_ hk, Kd.fresh' (Kd.R_lt (kR HO_246000.out)) k_ hk, Kd.fresh' (Kd.R_lt (kR HO_246001.out)) k_ hk⟩)); (case aO => exact (kR HO_6.out)); (case aS => exact (below_size bS)); (case aL => have := LMc26.out; omega); intro v260 w45 ho hb hg hat; rw [← Ny259.out] at ho; replace HO_7 := am (Kd.R_after (ok := (fun k_ => some k_ ≠ (.slice (some ad255) t239.length co6 : Value).ownBlock ∧ some k_ ≠ (.slice Ao8 t242.length co8 : Value).ownBlock)) (kR (Kd.R_mono HO_7.out (fun _ hk => ⟨⟨hk.2.1, hk.2.2⟩, hk.1⟩))) hg hat); replace HO_8 := am (Kd.R_over' (kR HO_8.out) (Kd.R_typed (kR HO_6.out)) (by decide) hg); replace HO_246000 := am (Kd.R_after (ok := (fun k_ => some k_ ≠ (u7 : Value).ownBlock ∧ some k_ ≠ (.slice Ao8 t242.length co8 : Value).ownBlock)) (kR (Kd.R_mono HO_246000.out (fun _ hk => ⟨⟨hk.2.1, hk.2.2⟩, hk.1⟩))) hg hat); replace HO_246001 := am (Kd.R_after (ok := (fun k_ => some k_ ≠ (u7 : Value).ownBlock ∧ some k_ ≠ (.slice (some ad255) t239.length co6 : Value).ownBlock)) (kR (Kd.R_mono HO_246001.out (fun _ hk => ⟨⟨hk.2.1, hk.2.2⟩, hk.1⟩))) hg hat); replace BK245 := am (blk_grown (g := gb245) (o := .cells #[.slice (some ad255) t239.length co6, .slice Ao8 t242.length co8] 76 (0, 0)) (bk BK245.out) hg (Kd.R_ne HO_6.out BK245.out (by decide))); replace HB := am (hb); have HO261 := am (ho); clear HO_6; clear ho hb hg hat; have hcz46_0 := bc BK245.out 0 (.slice (some ad255) t239.length co6); have hcz46_1 := bc BK245.out 1 (.slice Ao8 t242.length co8); have hfz46_0 := blk_frozen BK245.out 0; have hfz46_1 := blk_frozen BK245.out 1; have p262 : 0 ≤ (x9_1 : Int) := od; have q262 : x9_1 < (t242.length : Int) := od; obtain ⟨ad262, e262, hx262_0⟩ := Kd.at_int (Kd.R_reads' HO_246001.out).2.2 x9_1 p262 q262; cases e262; replace p262 := eq_true p262; replace q262 := eq_true q262) | ((with_reducible refine gate_builtin (b := .append) (xs := #[.tmp 48, .tmp 54]) rfl ?_); at_builtin; refine Kd.R_append (Kd.int .i64) (w0 := w) w.heap.size rfl (.tmp 48) (.tmp 54) 22 2 (.int .i64 0) 8 rfl Tryd.underlying22 info2 rfl (by decide) (by omega) u7 x7_1 (rd t242 x9_1) [.int .i64 (rd t242 x9_1)] (fun k_ => some k_ ≠ (.slice (some ad255) t239.length co6 : Value).ownBlock ∧ some k_ ≠ (.slice (some ad262) t242.length co8 : Value).ownBlock ∧ some k_ ≠ (v260 : Value).ownBlock) (fun _ => False) rfl rfl ?aP (fun _ hk => hk.elim) ?aF ?aO ?aB ?aS ?aL ?_; (case aP => exact rfl); (case aB => exact bS); (case aF => exact (fun k_ hk => ⟨Kd.fresh' (Kd.R_lt (kR HO_246000.out)) k_ hk, Kd.fresh' (Kd.R_lt (kR HO_246001.out)) k_ hk, Kd.fresh' (Kd.R_lt (kR HO261.out)) k_ hk⟩)); (case aO => exact (kR (Kd.R_mono HO_7.out (fun _ hk => ⟨hk.1.1, ⟨hk.1.2, hk.2⟩⟩)))); (case aS => exact (below_size bS)); (case aL => have := LMc28.out; omega); intro v264 w47 ho hb hg hat; rw [← Ny263.out] at ho; replace HO_8 := am (Kd.R_over' (kR HO_8.out) (Kd.R_typed (kR HO_7.out)) (by decide) hg); replace HO_246000 := am (Kd.R_after (ok := (fun k_ => some k_ ≠ (.slice (some ad262) t242.length co8 : Value).ownBlock ∧ some k_ ≠ (v260 : Value).ownBlock)) (kR (Kd.R_mono HO_246000.out (fun _ hk => ⟨⟨hk.1.2, hk.2⟩, hk.1.1⟩))) hg hat); replace HO_246001 := am (Kd.R_after (ok := (fun k_ => some k_ ≠ (.slice (some ad255) t239.length co6 : Value).ownBlock ∧ some k_ ≠ (v260 : Value).ownBlock)) (kR (Kd.R_mono HO_246001.out (fun _ hk => ⟨⟨hk.1.2, hk.2⟩, hk.1.1⟩))) hg hat); replace BK245 := am (blk_grown (g := gb245) (o := .cells #[.slice (some ad255) t239.length co6, .slice (some ad262) t242.length co8] 76 (0, 0)) (bk BK245.out) hg (Kd.R_ne HO_7.out BK245.out (by decide))); replace HO261 := am (Kd.R_after (ok := (fun k_ => some k_ ≠ (.slice (some ad255) t239.length co6 : Value).ownBlock ∧ some k_ ≠ (.slice (some ad262) t242.length co8 : Value).ownBlock)) (kR (Kd.R_mono HO261.out (fun _ hk => ⟨⟨hk.2.1, hk.2.2⟩, hk.1⟩))) hg hat); replace HB := am (hb); have HO265 := am (ho); clear HO_7; clear ho hb hg hat; have hcz48_0 := bc BK245.out 0 (.slice (some ad255) t239.length co6); have hcz48_1 := bc BK245.out 1 (.slice (some ad262) t242.length co8); have hfz48_0 := blk_frozen BK245.out 0; have hfz48_1 := blk_frozen BK245.out 1) | (go_at_call 80; (with_reducible refine (spec_l07Char.calls k1 _ _ t239 x9_1 t269 _ ?side1 ?side2 A39.out).mono ?_); (case side1 => repeat (first | exact (Kd.R_reads' HO_246000.out).2.2 | (with_reducible refine Kd.C_alloc ?_ _) | (with_reducible refine Kd.C_drewN ?_ _) | (with_reducible refine Kd.C_drew ?_))); (case side2 => exact (Kd.R_reads' HO_246000.out).2.1); rintro e w49 ⟨rfl, hb⟩; replace HO_8 := am (Kd.R_below (kR HO_8.out) hb); replace HO_246000 := am (Kd.R_below (kR HO_246000.out) hb); replace HO_246001 := am (Kd.R_below (kR HO_246001.out) hb); replace HO261 := am (Kd.R_below (kR HO261.out) hb); replace HO265 := am (Kd.R_below (kR HO265.out) hb); replace BK245 := am (blk_below (g := gb245) (o := .cells #[.slice (some ad255) t239.length co6, .slice (some ad262) t242.length co8] 76 (0, 0)) (bk BK245.out) hb); replace HB := am (below_step bS hb); (try clear hb)) | ((with_reducible refine gate_builtin (b := .append) (xs := #[.tmp 56, .tmp 65]) rfl ?_); at_builtin; refine Kd.R_append Kd.bool (w0 := w) w.heap.size rfl (.tmp 56) (.tmp 65) 60 4 (.bool false) 1 rfl Tryd.underlying60 info4 rfl (by decide) (by omega) u8 x8_1 t269 [.bool t269] (fun _ => True) (fun _ => False) rfl rfl ?aP (fun _ hk => hk.elim) ?aF ?aO ?aB ?aS ?aL ?_; (case aP => exact rfl); (case aB => exact bS); (case aF => exact (fun _ _ => trivial)); (case aO => exact (kR HO_8.out)); (case aS => exact (below_size bS)); (case aL => have := LMc40.out; omega); intro v271 w50 ho hb hg hat; rw [← Ny270.out] at ho; replace HO_246000 := am (Kd.R_over' (kR HO_246000.out) (Kd.R_typed (kR HO_8.out)) (by decide) hg); replace HO_246001 := am (Kd.R_over' (kR HO_246001.out) (Kd.R_typed (kR HO_8.out)) (by decide) hg); replace BK245 := am (blk_grown (g := gb245) (o := .cells #[.slice (some ad255) t239.length co6, .slice (some ad262) t242.length co8] 76 (0, 0)) (bk BK245.out) hg (Kd.R_ne HO_8.out BK245.out (by decide))); replace HO261 := am (Kd.R_over' (kR HO261.out) (Kd.R_typed (kR HO_8.out)) (by decide) hg); replace HO265 := am (Kd.R_over' (kR HO265.out) (Kd.R_typed (kR HO_8.out)) (by decide) hg); replace HB := am (hb); have HO272 := am (ho); clear HO_8; clear ho hb hg hat))
   go_roundg k1
   case measure => have := HK1.out; omega
   case rel => exact ⟨(y259), (y263), (y270), (wrap64 (x9_1 + 1)), sr, H', ⟨kl⟩, ⟨kR (Kd.R_mono HO261.out (fun _ hk => ⟨hk.2, ⟨hk.1.1, hk.1.2⟩⟩))⟩, ⟨kR (Kd.R_mono HO265.out (fun _ hk => ⟨hk.2.2, ⟨hk.1, hk.2.1⟩⟩))⟩, ⟨kR HO272.out⟩, ⟨kR (Kd.R_mono HO_246000.out (fun _ hk => ⟨hk.1.2, ⟨hk.2, hk.1.1⟩⟩))⟩, ⟨kR (Kd.R_mono HO_246001.out (fun _ hk => ⟨hk.1.2, ⟨hk.2, hk.1.1⟩⟩))⟩, ⟨bk BK245.out⟩, ⟨bS⟩⟩
end Go.Proofs.YtmlhnpggjkoinaaDoor.PFnExactWords

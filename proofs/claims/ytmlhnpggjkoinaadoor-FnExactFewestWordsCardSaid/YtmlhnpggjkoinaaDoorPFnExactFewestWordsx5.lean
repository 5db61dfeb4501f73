-- Written by a program of this session (wip/tools/myprint.py) that runs the kit's print with hooks of its own. Lean checks it.
import Derived.Test.YtmlhnpggjkoinaaDoorPFnExactFewestWordsx0
import Derived.Test.YtmlhnpggjkoinaaDoorSlimMore
import Derived.Test.YtmlhnpggjkoinaaDoorPFnExactFewestWordsx2
namespace Go.Proofs.YtmlhnpggjkoinaaDoor.PFnExactFewestWords
open Go.RowKit Go.Proofs.YtmlhnpggjkoinaaDoorW.PrintWords Go.Proofs.YtmlhnpggjkoinaaDoorW.PrintLast Go.Proofs.YtmlhnpggjkoinaaDoorW.PrintMore
attribute [local go_sem] max2_int min2_int max_two min_two max_three min_three max_four min_four   -- for this text's walks alone
set_option linter.unusedVariables false
set_option linter.unusedSimpArgs false

/-! ### spec_l07RowOf: function 79 -/
def spec_l07RowOf.l0 : Nat → ByteArray → Int → List Int → List Int → Option (List Int × List Int)
  | 0, _, _, _, _ => none
  | k + 1, x0, x4, x181000, x181001 => if x4 < (x0.size : Int) then ((spec_l01Next.f k x0 x4).bind fun bt181 => (if x181000.length < 17592186044416 then (if x181001.length < 17592186044416 then (spec_l07RowOf.l0 k x0 (wrap64 (x4 + bt181.2.1)) (x181000 ++ [bt181.1]) (x181001 ++ [x4])) else (none)) else (none))) else (if x181001.length < 17592186044416 then (some (x181000, (x181001 ++ [(x0.size : Int)]))) else (none))
def spec_l07RowOf.f (k : Nat) (a0 : ByteArray) : Option (List Int × List Int) := spec_l07RowOf.l0 k a0 0 ([] : List Int) ([] : List Int)
theorem spec_l07RowOf.mono_l : ∀ k, (∀ y0 y1 y2 y3, LeO (spec_l07RowOf.l0 k y0 y1 y2 y3) (spec_l07RowOf.l0 (k + 1) y0 y1 y2 y3))
  | 0 => fun _ _ _ _ r h => by simp [spec_l07RowOf.l0] at h
  | k + 1 => by
    have ih0 := spec_l07RowOf.mono_l k
    · intro y0 y1 y2 y3
      unfold spec_l07RowOf.l0
      repeat' first
      | (with_reducible exact ih0 _ _ _ _)
      | (with_reducible exact spec_l01Next.mono _ _ _)
      | (with_reducible exact LeO.refl _)
      | (with_reducible exact LeO.none _)
      | (with_reducible refine LeO.ite ?_ ?_)
      | (with_reducible refine LeO.bind ?_ (fun _ => ?_))
      | exact ih0 _ _ _ _
      | exact spec_l01Next.mono _ _ _
      | exact LeO.none _
      | refine LeO.ite ?_ ?_
      | refine LeO.bind ?_ (fun _ => ?_)
theorem spec_l07RowOf.mono : ∀ a0 k, LeO (spec_l07RowOf.f k a0) (spec_l07RowOf.f (k + 1) a0) := by
  intro a0 k
  have ih0 := spec_l07RowOf.mono_l k
  unfold spec_l07RowOf.f
  repeat' first
      | (with_reducible exact ih0 _ _ _ _)
      | (with_reducible exact spec_l01Next.mono _ _ _)
      | (with_reducible exact LeO.refl _)
      | (with_reducible exact LeO.none _)
      | (with_reducible refine LeO.ite ?_ ?_)
      | (with_reducible refine LeO.bind ?_ (fun _ => ?_))
      | exact ih0 _ _ _ _
      | exact spec_l01Next.mono _ _ _
      | exact LeO.none _
      | refine LeO.ite ?_ ?_
      | refine LeO.bind ?_ (fun _ => ?_)
set_option maxHeartbeats 8000000 in
set_option maxRecDepth 100000 in
theorem spec_l07RowOf.calls (k : Nat) (a0 : ByteArray) (r1 : List Int) (r2 : List Int) (w : World) (h : spec_l07RowOf.f k a0 = some (r1, r2)) :
    Calls Tryd.prog 79 #[.string a0] w fun e w' => ∃ v0_ v1_ : Value, e = .returned (.agg #[v0_, v1_]) ∧ Kd.R (Kd.int .i64) 2 w' w.heap.size (fun k_ => some k_ ≠ (v1_ : Value).ownBlock) v0_ r1 ∧ Kd.R (Kd.int .i64) 2 w' w.heap.size (fun k_ => some k_ ≠ (v0_ : Value).ownBlock) v1_ r2 ∧ Below w.heap.size w w' := by
  have hu76 := Tryd.underlying76
  have HB := am (Below.refl w.heap.size w)
  have H : (spec_l07RowOf.l0 k a0 0 ([] : List Int) ([] : List Int)) = some (r1, r2) := h
  clear h
  have H' := am H
  clear H
  go_enter Tryd.func79, Tryd.ntmps79
  go_wp2_with (first | ((with_reducible refine gate_dst (N := 2) rfl ?_); refine bx 2 #[.slice none 0 0, .slice none 0 0] 76 ?_; intro gb179 hg w2 hbox hb; have BK179 := am (hbox); have GW179 := am ((by rw [hg]; exact (below_size bB) : w.heap.size ≤ gb179)); have GE179 := am ((by rw [hg]; exact (below_size bB) : w.heap.size ≤ gb179)); replace HB := am (below_step bB hb); clear hb hbox hg) | ((with_reducible refine gate_dst (N := 3) rfl ?_); refine bx 3 #[.slice none 0 0, .slice none 0 0] 76 ?_; intro gb180 hg w3 hbox hb; have BK180 := am (hbox); have GW180 := am ((by rw [hg]; exact (below_size bS) : w.heap.size ≤ gb180)); have GE180 := am ((by rw [hg]; exact (below_size bS) : w.heap.size ≤ gb180)); replace HB := am (below_step bS hb); have NB179_180 := am ((by rw [hg]; exact Nat.ne_of_lt (blk_lt (g := gb179) (o := .cells #[.slice none 0 0, .slice none 0 0] 76 (0, 0)) (bk BK179.out)) : gb179 ≠ gb180)); have NB180_179 := am ((by rw [hg]; exact Nat.ne_of_gt (blk_lt (g := gb179) (o := .cells #[.slice none 0 0, .slice none 0 0] 76 (0, 0)) (bk BK179.out)) : gb180 ≠ gb179)); replace BK179 := am (blk_below (g := gb179) (o := .cells #[.slice none 0 0, .slice none 0 0] 76 (0, 0)) (bk BK179.out) hb); clear hb hbox hg; have hnb4 := NB180_179.out; have hnc4 := NB179_180.out; have hcz5_0 := bc BK180.out 0 (.slice none 0 0); have hcz5_1 := bc BK180.out 1 (.slice none 0 0); have hfz5_0 := blk_frozen BK180.out 0; have hfz5_1 := blk_frozen BK180.out 1))
  go_loopg [4] k (fun kq v4 w' => ∃ (x4_1 : Int) (x181000_1 : List Int) (x181001_1 : List Int) (u181000 : Value) (u181001 : Value), v4 = .int .i64 x4_1 ∧ Aside0 (spec_l07RowOf.l0 kq a0 x4_1 x181000_1 x181001_1 = some (r1, r2)) ∧ Aside0 (kq ≤ k) ∧ Aside0 (Kd.R (Kd.int .i64) 2 w' w.heap.size (fun k_ => some k_ ≠ (u181001 : Value).ownBlock) u181000 x181000_1) ∧ Aside0 (Kd.R (Kd.int .i64) 2 w' w.heap.size (fun k_ => some k_ ≠ (u181000 : Value).ownBlock) u181001 x181001_1) ∧ Aside0 (w'.heap[gb179]? = some (.cells #[(.slice none 0 0), (.slice none 0 0)] 76 (0, 0))) ∧ Aside0 (w'.heap[gb180]? = some (.cells #[u181000, u181001] 76 (0, 0))) ∧ Aside0 (Below w.heap.size w w'))
  case atStart => exact ⟨(0), (([] : List Int)), (([] : List Int)), (.slice none 0 0), (.slice none 0 0), (by first | rfl | (simp; done) | (simp [*]; done)), H', ⟨Nat.le_refl _⟩, ⟨by first | exact Kd.R_nil _ _ _ _ _ | exact Kd.N_nil _ _ _ _ _ | exact Kd.V_nil _ _ _ _ _ | exact Kd.Q_nil _ _ _ _ _ | exact Kd.S_nil _ _ _ _ _⟩, ⟨by first | exact Kd.R_nil _ _ _ _ _ | exact Kd.N_nil _ _ _ _ _ | exact Kd.V_nil _ _ _ _ _ | exact Kd.Q_nil _ _ _ _ _ | exact Kd.S_nil _ _ _ _ _⟩, ⟨by (with_reducible repeat (first | refine blk_drewN ?_ _ | refine blk_drew ?_ | refine blk_alloc ?_ _)); refine blk_far ?_ NB179_180.out _; (with_reducible repeat (first | refine blk_drewN ?_ _ | refine blk_drew ?_ | refine blk_alloc ?_ _)); refine blk_far ?_ NB179_180.out _; (with_reducible repeat (first | refine blk_drewN ?_ _ | refine blk_drew ?_ | refine blk_alloc ?_ _)); exact BK179.out⟩, ⟨by (with_reducible repeat (first | refine blk_drewN ?_ _ | refine blk_drew ?_ | refine blk_alloc ?_ _)); refine blk_put (cs := #[.slice none 0 0, .slice none 0 0]) ?_ 1 _ rfl; (with_reducible repeat (first | refine blk_drewN ?_ _ | refine blk_drew ?_ | refine blk_alloc ?_ _)); refine blk_put (cs := #[.slice none 0 0, .slice none 0 0]) ?_ 0 _ rfl; (with_reducible repeat (first | refine blk_drewN ?_ _ | refine blk_drew ?_ | refine blk_alloc ?_ _)); exact BK180.out⟩, ⟨bS⟩⟩
  case round =>
    clear H'
    try clear p2
    try clear c4
    try clear hcz5_0
    try clear hcz5_1
    try clear hfz5_0
    try clear hfz5_1
    obtain ⟨x4_1, x181000_1, x181001_1, u181000, u181001, rfl, HA, HK1, HO_181000, HO_181001, BK179, BK180, HB⟩ := hrel
    cases gk with
    | zero => exact absurd HA.out (by simp [spec_l07RowOf.l0])
    | succ k1 =>
      have H := HA.out
      clear HA
      simp only [spec_l07RowOf.l0] at H
      by_cases c6 : x4_1 < (a0.size : Int)
      · rw [if_pos c6] at H
        have c6b0 : decide (x4_1 < (a0.size : Int)) = true := decide_eq_true c6
        clear c6
        replace H := Option.bind_eq_some_iff.mp H
        obtain ⟨⟨t181, t182, t183⟩, A70, H⟩ := H
        replace H : (if x181000_1.length < 17592186044416 then (if x181001_1.length < 17592186044416 then (spec_l07RowOf.l0 k1 a0 (wrap64 (x4_1 + t182)) (x181000_1 ++ [t181]) (x181001_1 ++ [x4_1])) else (none)) else (none)) = some (r1, r2) := H
        have A7 := am A70
        clear A70
        by_cases c8 : x181000_1.length < 17592186044416
        · rw [if_pos c8] at H
          have LMc8 := am c8
          clear c8
          obtain ⟨y184, hy184⟩ : ∃ y_ : List Int, y_ = (x181000_1 ++ [t181]) := ⟨_, rfl⟩
          replace H : (if x181001_1.length < 17592186044416 then (spec_l07RowOf.l0 k1 a0 (wrap64 (x4_1 + t182)) y184 (x181001_1 ++ [x4_1])) else (none)) = some (r1, r2) := by first | (rw [hy184]; with_reducible exact H) | (have H2_ := (Option.bind_some _ _).symm.trans H; rw [hy184]; with_reducible exact H2_) | (have H2_ := (Option.bind_some _ _).symm.trans H; with_reducible exact H2_) | with_reducible exact H | (rw [hy184]; exact H) | exact H
          have Ny184 := am hy184
          clear hy184
          by_cases c9 : x181001_1.length < 17592186044416
          · rw [if_pos c9] at H
            have LMc9 := am c9
            clear c9
            obtain ⟨y187, hy187⟩ : ∃ y_ : List Int, y_ = (x181001_1 ++ [x4_1]) := ⟨_, rfl⟩
            replace H : (spec_l07RowOf.l0 k1 a0 (wrap64 (x4_1 + t182)) y184 y187) = some (r1, r2) := by first | (rw [hy187]; with_reducible exact H) | (have H2_ := (Option.bind_some _ _).symm.trans H; rw [hy187]; with_reducible exact H2_) | (have H2_ := (Option.bind_some _ _).symm.trans H; with_reducible exact H2_) | with_reducible exact H | (rw [hy187]; exact H) | exact H
            have Ny187 := am hy187
            clear hy187
            have H' := am H
            clear H
            go_wp2_with (first | ((with_reducible refine gate_callee (f := 93) rfl ?_); refine gl 16 Tryd.func93 #[.string a0, .int .i64 x4_1] ?_; (with_reducible refine (spec_l01Next.calls k1 a0 x4_1 t181 t182 t183 _ A7.out).mono ?_); rintro e w10 ⟨rfl, hb⟩; refine ⟨_, rfl, ?_⟩; replace HO_181000 := am (Kd.R_below (kR HO_181000.out) hb); replace HO_181001 := am (Kd.R_below (kR HO_181001.out) hb); replace BK179 := am (blk_below (g := gb179) (o := .cells #[.slice none 0 0, .slice none 0 0] 76 (0, 0)) (bk BK179.out) hb); replace BK180 := am (blk_below (g := gb180) (o := .cells #[u181000, u181001] 76 (0, 0)) (bk BK180.out) hb); replace HB := am (below_step bS hb); (try clear hb); (try clear hb2); (try clear hk); (try clear hi); have hnb11 := NB180_179.out; have hnc11 := NB179_180.out; have hcz12_0 := bc BK180.out 0 (u181000); have hcz12_1 := bc BK180.out 1 (u181001); have hfz12_0 := blk_frozen BK180.out 0; have hfz12_1 := blk_frozen BK180.out 1) | ((with_reducible refine gate_builtin (b := .append) (xs := #[.tmp 21, .tmp 23]) rfl ?_); at_builtin; refine Kd.R_append (Kd.int .i64) (w0 := w) w.heap.size rfl (.tmp 21) (.tmp 23) 22 2 (.int .i64 0) 8 rfl Tryd.underlying22 info2 rfl (by decide) (by omega) u181000 x181000_1 t181 [.int .i64 t181] (fun k_ => some k_ ≠ (u181001 : Value).ownBlock) (fun _ => False) rfl rfl ?aP (fun _ hk => hk.elim) ?aF ?aO ?aB ?aS ?aL ?_; (case aP => exact rfl); (case aB => exact bS); (case aF => exact (fun k_ hk => Kd.fresh' (Kd.R_lt (kR HO_181001.out)) k_ hk)); (case aO => exact (kR HO_181000.out)); (case aS => exact (below_size bS)); (case aL => have := LMc8.out; omega); intro v185 w13 ho hb hg hat; rw [← Ny184.out] at ho; replace HO_181001 := am (Kd.R_after (ok := (fun _ => True)) (kR (Kd.R_mono HO_181001.out (fun _ hk => ⟨trivial, hk⟩))) hg hat); replace BK179 := am (blk_grown (g := gb179) (o := .cells #[.slice none 0 0, .slice none 0 0] 76 (0, 0)) (bk BK179.out) hg (Kd.R_ne HO_181000.out BK179.out (by decide))); replace BK180 := am (blk_grown (g := gb180) (o := .cells #[u181000, u181001] 76 (0, 0)) (bk BK180.out) hg (Kd.R_ne HO_181000.out BK180.out (by decide))); replace HB := am (hb); have HO186 := am (ho); clear HO_181000; clear ho hb hg hat; obtain ⟨Ao14, co14, eo14⟩ := Kd.R_slice HO186.out; subst eo14; have hcz15_0 := bc BK180.out 0 (u181000); have hcz15_1 := bc BK180.out 1 (u181001); have hfz15_0 := blk_frozen BK180.out 0; have hfz15_1 := blk_frozen BK180.out 1) | ((with_reducible refine gate_builtin (b := .append) (xs := #[.tmp 27, .tmp 29]) rfl ?_); at_builtin; refine Kd.R_append (Kd.int .i64) (w0 := w) w.heap.size rfl (.tmp 27) (.tmp 29) 22 2 (.int .i64 0) 8 rfl Tryd.underlying22 info2 rfl (by decide) (by omega) u181001 x181001_1 x4_1 [.int .i64 x4_1] (fun k_ => some k_ ≠ (.slice Ao14 y184.length co14 : Value).ownBlock) (fun _ => False) rfl (by first | (go_simp; done) | (go_simp; rfl)) ?aP (fun _ hk => hk.elim) ?aF ?aO ?aB ?aS ?aL ?_; (case aP => exact rfl); (case aB => exact bS); (case aF => exact (fun k_ hk => Kd.fresh' (Kd.R_lt (kR ((Kd.R_mono (Kd.R_far (p := ⟨gb180, 0, none⟩) (Kd.R_types HO186.out BK180.out (by decide)) (fun _ hk => hk.2) (.slice Ao14 y184.length co14)) (fun _ h_ => h_.1))))) k_ hk)); (case aO => exact (kR (Kd.R_mono (Kd.R_far (p := ⟨gb180, 0, none⟩) (Kd.R_types HO_181001.out BK180.out (by decide)) (fun _ hk => hk.2) (.slice Ao14 y184.length co14)) (fun _ hk => hk.1.2)))); (case aS => exact (below_size bS)); (case aL => have := LMc9.out; omega); intro v188 w16 ho hb hg hat; rw [← Ny187.out] at ho; replace BK179 := am (blk_grown (g := gb179) (o := .cells #[.slice none 0 0, .slice none 0 0] 76 (0, 0)) (by (with_reducible repeat (first | refine blk_drewN ?_ _ | refine blk_drew ?_ | refine blk_alloc ?_ _)); refine blk_far ?_ NB179_180.out _; (with_reducible repeat (first | refine blk_drewN ?_ _ | refine blk_drew ?_ | refine blk_alloc ?_ _)); exact BK179.out) hg (Kd.R_ne HO_181001.out BK179.out (by decide))); replace HO186 := am (Kd.R_after (ok := (fun _ => True)) (kR (Kd.R_mono (Kd.R_far (p := ⟨gb180, 0, none⟩) (Kd.R_types HO186.out BK180.out (by decide)) (fun _ hk => hk.2) (.slice Ao14 y184.length co14)) (fun _ hk => ⟨trivial, hk.1⟩))) hg hat); replace BK180 := am (blk_grown (g := gb180) (o := .cells #[.slice Ao14 y184.length co14, u181001] 76 (0, 0)) (by (with_reducible repeat (first | refine blk_drewN ?_ _ | refine blk_drew ?_ | refine blk_alloc ?_ _)); refine blk_put (cs := #[u181000, u181001]) ?_ 0 _ rfl; (with_reducible repeat (first | refine blk_drewN ?_ _ | refine blk_drew ?_ | refine blk_alloc ?_ _)); exact BK180.out) hg (Kd.R_ne HO_181001.out BK180.out (by decide))); replace HB := am (hb); have HO189 := am (ho); clear HO_181001; clear ho hb hg hat; obtain ⟨Ao17, co17, eo17⟩ := Kd.R_slice HO189.out; subst eo17; have hcz18_0 := bc BK180.out 0 (.slice Ao14 y184.length co14); have hcz18_1 := bc BK180.out 1 (u181001); have hfz18_0 := blk_frozen BK180.out 0; have hfz18_1 := blk_frozen BK180.out 1))
            go_roundg k1
            case measure => have := HK1.out; omega
            case rel => exact ⟨(wrap64 (x4_1 + t182)), (y184), (y187), (.slice Ao14 y184.length co14), (.slice Ao17 y187.length co17), (by first | rfl | (simp; done) | (simp [*]; done)), H', ⟨by have := HK1.out; omega⟩, ⟨kR (Kd.R_mono (Kd.R_far (p := ⟨gb180, 1, none⟩) (Kd.R_types HO186.out BK180.out (by decide)) (fun _ hk => hk.2) (.slice Ao17 y187.length co17)) (fun _ hk => hk.1.2))⟩, ⟨kR (Kd.R_mono (Kd.R_far (p := ⟨gb180, 1, none⟩) (Kd.R_types HO189.out BK180.out (by decide)) (fun _ hk => hk.2) (.slice Ao17 y187.length co17)) (fun _ hk => hk.1))⟩, ⟨by (with_reducible repeat (first | refine blk_drewN ?_ _ | refine blk_drew ?_ | refine blk_alloc ?_ _)); refine blk_far ?_ NB179_180.out _; (with_reducible repeat (first | refine blk_drewN ?_ _ | refine blk_drew ?_ | refine blk_alloc ?_ _)); exact BK179.out⟩, ⟨by (with_reducible repeat (first | refine blk_drewN ?_ _ | refine blk_drew ?_ | refine blk_alloc ?_ _)); refine blk_put (cs := #[.slice Ao14 y184.length co14, u181001]) ?_ 1 _ rfl; (with_reducible repeat (first | refine blk_drewN ?_ _ | refine blk_drew ?_ | refine blk_alloc ?_ _)); exact BK180.out⟩, ⟨bS⟩⟩
          · rw [if_neg c9] at H
            exact absurd H (by simp)
        · rw [if_neg c8] at H
          exact absurd H (by simp)
      · rw [if_neg c6] at H
        have c6b0 : decide (x4_1 < (a0.size : Int)) = false := decide_eq_false c6
        clear c6
        by_cases c19 : x181001_1.length < 17592186044416
        · rw [if_pos c19] at H
          have LMc19 := am c19
          clear c19
          obtain ⟨y190, hy190⟩ : ∃ y_ : List Int, y_ = (x181001_1 ++ [(a0.size : Int)]) := ⟨_, rfl⟩
          replace H : (some (x181000_1, y190)) = some (r1, r2) := by first | (rw [hy190]; with_reducible exact H) | (have H2_ := (Option.bind_some _ _).symm.trans H; rw [hy190]; with_reducible exact H2_) | (have H2_ := (Option.bind_some _ _).symm.trans H; with_reducible exact H2_) | with_reducible exact H | (rw [hy190]; exact H) | exact H
          have Ny190 := am hy190
          clear hy190
          simp only [Option.some.injEq, Prod.mk.injEq] at H
          obtain ⟨rfl, rfl⟩ := H
          have hnb20 := NB180_179.out
          have hnc20 := NB179_180.out
          have hcz21_0 := bc BK180.out 0 (u181000)
          have hcz21_1 := bc BK180.out 1 (u181001)
          have hfz21_0 := blk_frozen BK180.out 0
          have hfz21_1 := blk_frozen BK180.out 1
          go_wp2_with (first | ((with_reducible refine gate_builtin (b := .append) (xs := #[.tmp 36, .tmp 39]) rfl ?_); at_builtin; refine Kd.R_append (Kd.int .i64) (w0 := w) w.heap.size rfl (.tmp 36) (.tmp 39) 22 2 (.int .i64 0) 8 rfl Tryd.underlying22 info2 rfl (by decide) (by omega) u181001 x181001_1 (a0.size : Int) [.int .i64 (a0.size : Int)] (fun k_ => some k_ ≠ (u181000 : Value).ownBlock) (fun _ => False) rfl rfl ?aP (fun _ hk => hk.elim) ?aF ?aO ?aB ?aS ?aL ?_; (case aP => exact rfl); (case aB => exact bS); (case aF => exact (fun k_ hk => Kd.fresh' (Kd.R_lt (kR HO_181000.out)) k_ hk)); (case aO => exact (kR HO_181001.out)); (case aS => exact (below_size bS)); (case aL => have := LMc19.out; omega); intro v191 w22 ho hb hg hat; rw [← Ny190.out] at ho; replace HO_181000 := am (Kd.R_after (ok := (fun _ => True)) (kR (Kd.R_mono HO_181000.out (fun _ hk => ⟨trivial, hk⟩))) hg hat); replace BK179 := am (blk_grown (g := gb179) (o := .cells #[.slice none 0 0, .slice none 0 0] 76 (0, 0)) (bk BK179.out) hg (Kd.R_ne HO_181001.out BK179.out (by decide))); replace BK180 := am (blk_grown (g := gb180) (o := .cells #[u181000, u181001] 76 (0, 0)) (bk BK180.out) hg (Kd.R_ne HO_181001.out BK180.out (by decide))); replace HB := am (hb); have HO192 := am (ho); clear HO_181001; clear ho hb hg hat; obtain ⟨Ao23, co23, eo23⟩ := Kd.R_slice HO192.out; subst eo23; have hcz24_0 := bc BK180.out 0 (u181000); have hcz24_1 := bc BK180.out 1 (u181001); have hfz24_0 := blk_frozen BK180.out 0; have hfz24_1 := blk_frozen BK180.out 1; obtain ⟨Ao25, co25, eo25⟩ := Kd.R_slice HO_181000.out; subst eo25; have hcz26_0 := bc BK179.out 0 (.slice none 0 0); have hcz26_1 := bc BK179.out 1 (.slice none 0 0); have hfz26_0 := blk_frozen BK179.out 0; have hfz26_1 := blk_frozen BK179.out 1))
          refine bodyPost_ret (results_cell_row rfl _ _ gb179 76 #[.slice Ao25 x181000_1.length co25, .slice Ao23 y190.length co23] (0, 0) _ rfl (by (with_reducible repeat (first | refine blk_drewN ?_ _ | refine blk_drew ?_ | refine blk_alloc ?_ _)); refine blk_put (cs := #[.slice Ao25 x181000_1.length co25, .slice none 0 0]) ?_ 1 _ rfl; (with_reducible repeat (first | refine blk_drewN ?_ _ | refine blk_drew ?_ | refine blk_alloc ?_ _)); refine blk_put (cs := #[.slice none 0 0, .slice none 0 0]) ?_ 0 _ rfl; (with_reducible repeat (first | refine blk_drewN ?_ _ | refine blk_drew ?_ | refine blk_alloc ?_ _)); refine blk_far ?_ NB179_180.out _; (with_reducible repeat (first | refine blk_drewN ?_ _ | refine blk_drew ?_ | refine blk_alloc ?_ _)); exact BK179.out) Tryd.underlying76 rfl (by kernel_rfl)) rfl ?_
          exact ⟨_, _, rv, by (with_reducible repeat (first | apply Kd.R_alloc | apply Kd.R_drewN | apply Kd.R_drew)); exact Kd.R_mono (Kd.R_far (p := ⟨gb179, 1, none⟩) (Kd.R_far (p := ⟨gb179, 0, none⟩) (Kd.R_far (p := ⟨gb180, 1, none⟩) (Kd.R_types (Kd.R_types HO_181000.out BK180.out (by decide)) BK179.out (by decide)) (fun _ hk => hk.1.2) (.slice Ao23 y190.length co23)) (fun _ hk => hk.2) (.slice Ao25 x181000_1.length co25)) (fun _ hk => hk.2) (.slice Ao23 y190.length co23)) (fun _ hk => hk.1.1.2), by (with_reducible repeat (first | apply Kd.R_alloc | apply Kd.R_drewN | apply Kd.R_drew)); exact Kd.R_mono (Kd.R_far (p := ⟨gb179, 1, none⟩) (Kd.R_far (p := ⟨gb179, 0, none⟩) (Kd.R_far (p := ⟨gb180, 1, none⟩) (Kd.R_types (Kd.R_types HO192.out BK180.out (by decide)) BK179.out (by decide)) (fun _ hk => hk.1.2) (.slice Ao23 y190.length co23)) (fun _ hk => hk.2) (.slice Ao25 x181000_1.length co25)) (fun _ hk => hk.2) (.slice Ao23 y190.length co23)) (fun _ hk => hk.1.1), bS⟩
        · rw [if_neg c19] at H
          exact absurd H (by simp)

/-! ### spec_l08Word: function 127 -/
def spec_l08Word.l0 : Nat → List ByteArray → ByteArray → Int → Int → Option (Bool)
  | 0, _, _, _, _ => none
  | k + 1, x0, x1, x5, x6 => if x5 < x6 then (if 0 ≤ (wrap64 (Int.tdiv (wrap64 (x5 + x6)) 2)) then (if (wrap64 (Int.tdiv (wrap64 (x5 + x6)) 2)) < (x0.length : Int) then (if (Op.bytesLess ((rdOf ByteArray.empty x0 (wrap64 (Int.tdiv (wrap64 (x5 + x6)) 2))).toList) x1.toList) = true then (spec_l08Word.l0 k x0 x1 (wrap64 ((wrap64 (Int.tdiv (wrap64 (x5 + x6)) 2)) + 1)) x6) else (spec_l08Word.l0 k x0 x1 x5 (wrap64 (Int.tdiv (wrap64 (x5 + x6)) 2)))) else (none)) else (none)) else (if x5 < (x0.length : Int) then (if 0 ≤ x5 then (some ((rdOf ByteArray.empty x0 x5).toList == x1.toList)) else (none)) else (some false))
def spec_l08Word.f (k : Nat) (l0 : List ByteArray) (a1 : ByteArray) : Option (Bool) := spec_l08Word.l0 k l0 a1 0 (l0.length : Int)
theorem spec_l08Word.mono_l : ∀ k, (∀ y0 y1 y2 y3, LeO (spec_l08Word.l0 k y0 y1 y2 y3) (spec_l08Word.l0 (k + 1) y0 y1 y2 y3))
  | 0 => fun _ _ _ _ r h => by simp [spec_l08Word.l0] at h
  | k + 1 => by
    have ih0 := spec_l08Word.mono_l k
    · intro y0 y1 y2 y3
      unfold spec_l08Word.l0
      repeat' first
      | (with_reducible exact ih0 _ _ _ _)
      | (with_reducible exact LeO.refl _)
      | (with_reducible exact LeO.none _)
      | (with_reducible refine LeO.ite ?_ ?_)
      | (with_reducible refine LeO.bind ?_ (fun _ => ?_))
      | exact ih0 _ _ _ _
      | exact LeO.none _
      | refine LeO.ite ?_ ?_
      | refine LeO.bind ?_ (fun _ => ?_)
theorem spec_l08Word.mono : ∀ a0 a1 k, LeO (spec_l08Word.f k a0 a1) (spec_l08Word.f (k + 1) a0 a1) := by
  intro a0 a1 k
  have ih0 := spec_l08Word.mono_l k
  unfold spec_l08Word.f
  repeat' first
      | (with_reducible exact ih0 _ _ _ _)
      | (with_reducible exact LeO.refl _)
      | (with_reducible exact LeO.none _)
      | (with_reducible refine LeO.ite ?_ ?_)
      | (with_reducible refine LeO.bind ?_ (fun _ => ?_))
      | exact ih0 _ _ _ _
      | exact LeO.none _
      | refine LeO.ite ?_ ?_
      | refine LeO.bind ?_ (fun _ => ?_)
set_option maxHeartbeats 8000000 in
set_option maxRecDepth 100000 in
theorem spec_l08Word.calls (k : Nat) (A0 : Option Addr) (c0 : Nat) (l0 : List ByteArray) (a1 : ByteArray) (r : Bool) (w : World) (hr0 : Kd.C Kd.string w A0 l0.length l0) (hc0 : l0.length ≤ c0) (h : spec_l08Word.f k l0 a1 = some r) :
    Calls Tryd.prog 127 #[.slice A0 l0.length c0, .string a1] w fun e w' => e = .returned (.bool r) ∧ Drawn0 w w' := by
  have HR0 := am hr0
  have HC0 := am hc0
  clear hr0 hc0
  have H : (spec_l08Word.l0 k l0 a1 0 (l0.length : Int)) = some r := h
  clear h
  have H' := am H
  clear H
  go_enter Tryd.func127, Tryd.ntmps127
  go_wp2
  go_loopg [5, 6] k (fun kq v5 v6 w' => ∃ (x5_1 : Int) (x6_1 : Int), v5 = .int .i64 x5_1 ∧ v6 = .int .i64 x6_1 ∧ Aside0 (spec_l08Word.l0 kq l0 a1 x5_1 x6_1 = some r) ∧ Aside0 (kq ≤ k) ∧ Drawn0 w w')
  case atStart => exact ⟨(0), ((l0.length : Int)), (by first | rfl | (simp; done) | (simp [*]; done)), (by first | rfl | (simp; done) | (simp [*]; done)), H', ⟨Nat.le_refl _⟩, by repeat (first | exact Drawn0.refl _ | apply Drawn0.step)⟩
  case round =>
    clear H'
    try clear c1
    try clear p2
    obtain ⟨x5_1, x6_1, rfl, rfl, HA, HK1, ⟨m1, rfl⟩⟩ := hrel
    cases gk with
    | zero => exact absurd HA.out (by simp [spec_l08Word.l0])
    | succ k1 =>
      have H := HA.out
      clear HA
      simp only [spec_l08Word.l0] at H
      by_cases c3 : x5_1 < x6_1
      · rw [if_pos c3] at H
        have c3b0 : decide (x5_1 < x6_1) = true := decide_eq_true c3
        clear c3
        obtain ⟨ji4, hji4⟩ : ∃ j_ : Int, (wrap64 (Int.tdiv (wrap64 (x5_1 + x6_1)) 2)) = j_ := ⟨_, rfl⟩
        replace H : (if 0 ≤ (ji4) then (if (ji4) < (l0.length : Int) then (if (Op.bytesLess ((rdOf ByteArray.empty l0 (ji4)).toList) a1.toList) = true then (spec_l08Word.l0 k1 l0 a1 (wrap64 ((ji4) + 1)) x6_1) else (spec_l08Word.l0 k1 l0 a1 x5_1 ji4)) else (none)) else (none)) = some r := by first | (rw [hji4] at H; exact H) | (simp only [hji4] at H ⊢; exact H)
        have hji4w : (IntKind.i64.wrap (Int.tdiv (wrap64 (x5_1 + x6_1)) 2)) = ji4 := (i64_w _).trans hji4
        by_cases c5 : 0 ≤ (ji4)
        · rw [if_pos c5] at H
          have c5b0 : decide (0 ≤ (ji4)) = true := decide_eq_true c5
          clear c5
          by_cases c6 : (ji4) < (l0.length : Int)
          · rw [if_pos c6] at H
            have c6b0 : decide ((ji4) < (l0.length : Int)) = true := decide_eq_true c6
            clear c6
            by_cases c7 : (Op.bytesLess ((rdOf ByteArray.empty l0 (ji4)).toList) a1.toList) = true
            · rw [if_pos c7] at H
              have c7b0 : (Op.bytesLess ((rdOf ByteArray.empty l0 (ji4)).toList) a1.toList) = true := c7
              clear c7
              have H' := am H
              clear H
              have p193 : 0 ≤ ((ji4) : Int) := od
              have q193 : (ji4) < (l0.length : Int) := od
              obtain ⟨ad193, e193, hx193_0⟩ := Kd.at_string HR0.out (ji4) p193 q193
              cases e193
              replace p193 := eq_true p193
              replace q193 := eq_true q193
              go_wp2
              go_roundg k1
              case measure => have := HK1.out; omega
              case rel => exact ⟨(wrap64 ((ji4) + 1)), (x6_1), (by first | rfl | (simp; done) | (simp only [← hji4] <;> (first | rfl | simp)) | (simp [*]; done)), (by first | rfl | (simp; done) | (simp [*]; done)), H', ⟨by have := HK1.out; omega⟩, by repeat (first | exact Drawn0.refl _ | apply Drawn0.step)⟩
            · rw [if_neg c7] at H
              have c7b0 : (Op.bytesLess ((rdOf ByteArray.empty l0 (ji4)).toList) a1.toList) = false := by simpa using c7
              clear c7
              have H' := am H
              clear H
              have p193 : 0 ≤ ((ji4) : Int) := od
              have q193 : (ji4) < (l0.length : Int) := od
              obtain ⟨ad193, e193, hx193_0⟩ := Kd.at_string HR0.out (ji4) p193 q193
              cases e193
              replace p193 := eq_true p193
              replace q193 := eq_true q193
              go_wp2
              go_roundg k1
              case measure => have := HK1.out; omega
              case rel => exact ⟨(x5_1), (ji4), (by first | rfl | (simp; done) | (simp [*]; done)), (by first | rfl | (simp; done) | (simp only [← hji4] <;> (first | rfl | simp)) | (simp [*]; done)), H', ⟨by have := HK1.out; omega⟩, by repeat (first | exact Drawn0.refl _ | apply Drawn0.step)⟩
          · rw [if_neg c6] at H
            exact absurd H (by simp)
        · rw [if_neg c5] at H
          exact absurd H (by simp)
      · rw [if_neg c3] at H
        have c3b0 : decide (x5_1 < x6_1) = false := decide_eq_false c3
        clear c3
        by_cases c8 : x5_1 < (l0.length : Int)
        · rw [if_pos c8] at H
          have c8b0 : decide (x5_1 < (l0.length : Int)) = true := decide_eq_true c8
          clear c8
          by_cases c9 : 0 ≤ x5_1
          · rw [if_pos c9] at H
            have c9b0 : decide (0 ≤ x5_1) = true := decide_eq_true c9
            clear c9
            obtain rfl := Option.some.inj H
            have p194 : 0 ≤ (x5_1 : Int) := od
            have q194 : x5_1 < (l0.length : Int) := od
            obtain ⟨ad194, e194, hx194_0⟩ := Kd.at_string HR0.out x5_1 p194 q194
            cases e194
            replace p194 := eq_true p194
            replace q194 := eq_true q194
            go_wp2
            go_ret
            exact rdd
          · rw [if_neg c9] at H
            exact absurd H (by simp)
        · rw [if_neg c8] at H
          have c8b0 : decide (x5_1 < (l0.length : Int)) = false := decide_eq_false c8
          clear c8
          obtain rfl := Option.some.inj H
          go_wp2
          go_ret
          exact rdd

end Go.Proofs.YtmlhnpggjkoinaaDoor.PFnExactFewestWords

-- Written by a program of this session (wip/tools/myprint.py) that runs the kit's print with hooks of its own. Lean checks it.
import Derived.Test.YtmlhnpggjkoinaaDoorPFnExactFewestWordsx0
import Derived.Test.YtmlhnpggjkoinaaDoorSlimMore
import Derived.Test.YtmlhnpggjkoinaaDoorSlimStep
import Derived.Test.YtmlhnpggjkoinaaDoorPFnExactFewestWordsx7
namespace Go.Proofs.YtmlhnpggjkoinaaDoor.PFnExactFewestWords
open Go.RowKit Go.Proofs.YtmlhnpggjkoinaaDoorW.PrintWords Go.Proofs.YtmlhnpggjkoinaaDoorW.PrintLast Go.Proofs.YtmlhnpggjkoinaaDoorW.PrintMore
attribute [local go_sem] max2_int min2_int max_two min_two max_three min_three max_four min_four   -- for this text's walks alone
set_option linter.unusedVariables false
set_option linter.unusedSimpArgs false

/-! ### impl_fewest: function 78 -/
mutual
def impl_fewest.l0 (ws : List ByteArray) : Nat → ByteArray → List ByteArray → Int → Int → Option (List Int)
  | 0, _, _, _, _ => none
  | k + 1, x1, x19, x20, x21 => if x21 < x20 then (if 0 ≤ x21 then (if x21 < (x19.length : Int) then (impl_fewest.l0 ws k x1 x19 x20 (wrap64 (x21 + 1))) else (none)) else (none)) else ((impl_read.f k x1).bind fun t319 => (if 0 ≤ (wrap64 ((t319.length : Int) + 1)) then (if (wrap64 ((t319.length : Int) + 1) : Int).toNat ≤ 35184372088832 then (if 0 ≤ (t319.length : Int) then (if ((t319.length : Int) : Int).toNat ≤ 35184372088832 then (impl_fewest.l1 ws k x1 t319 (t319.length : Int) (List.replicate (wrap64 ((t319.length : Int) + 1) : Int).toNat 0) (List.replicate ((t319.length : Int) : Int).toNat 0) (wrap64 ((t319.length : Int) - 1))) else (none)) else (none)) else (none)) else (none)))
def impl_fewest.l1 (ws : List ByteArray) : Nat → ByteArray → List (S74) → Int → List Int → List Int → Int → Option (List Int)
  | 0, _, _, _, _, _, _ => none
  | k + 1, x1, x8, x9, x10, x11, x12 => if x12 ≥ 0 then (if 0 ≤ x12 then (if x12 < (x10.length : Int) then (impl_fewest.l2 ws k x1 x8 x9 (x10.set (x12 : Int).toNat 1099511627776) x11 x12 1) else (none)) else (none)) else (impl_fewest.l3 ws k x9 x11 ([] : List Int) 0)
def impl_fewest.l2 (ws : List ByteArray) : Nat → ByteArray → List (S74) → Int → List Int → List Int → Int → Int → Option (List Int)
  | 0, _, _, _, _, _, _, _ => none
  | k + 1, x1, x8, x9, x10, x11, x12, x13 => if x13 ≤ 60 then (impl_fewest.j3 ws k x1 x8 x9 x10 x11 x12 x13 (decide ((wrap64 (x12 + x13)) ≤ x9))) else (impl_fewest.j3 ws k x1 x8 x9 x10 x11 x12 x13 false)
def impl_fewest.j3 (ws : List ByteArray) : Nat → ByteArray → List (S74) → Int → List Int → List Int → Int → Int → Bool → Option (List Int)
  | 0, _, _, _, _, _, _, _, _ => none
  | k + 1, x1, x8, x9, x10, x11, x12, x13, x54 => if x54 = true then (if 0 ≤ x12 then (if x12 < (x8.length : Int) then (if 0 ≤ (wrap64 ((wrap64 (x12 + x13)) - 1)) then (if (wrap64 ((wrap64 (x12 + x13)) - 1)) < (x8.length : Int) then (if 0 ≤ ((rd_T74 x8 x12).f1) then (if ((rd_T74 x8 x12).f1) ≤ ((rd_T74 x8 (wrap64 ((wrap64 (x12 + x13)) - 1))).f2) then (if ((rd_T74 x8 (wrap64 ((wrap64 (x12 + x13)) - 1))).f2) ≤ (x1.size : Int) then (if (MapS.kb (x1.extract (((rd_T74 x8 x12).f1) : Int).toNat (((rd_T74 x8 (wrap64 ((wrap64 (x12 + x13)) - 1))).f2) : Int).toNat) ∈ MapS.ks ws) then (if 0 ≤ (wrap64 (x12 + x13)) then (if (wrap64 (x12 + x13)) < (x10.length : Int) then (if x12 < (x10.length : Int) then (if (wrap64 (2 + (rd x10 (wrap64 (x12 + x13))))) ≤ (rd x10 x12) then (if x12 < (x11.length : Int) then (impl_fewest.l2 ws k x1 x8 x9 (x10.set (x12 : Int).toNat (wrap64 (2 + (rd x10 (wrap64 (x12 + x13)))))) (x11.set (x12 : Int).toNat x13) x12 (wrap64 (x13 + 1))) else (none)) else (impl_fewest.l2 ws k x1 x8 x9 x10 x11 x12 (wrap64 (x13 + 1)))) else (none)) else (none)) else (none)) else (if x13 > 1 then (impl_fewest.l2 ws k x1 x8 x9 x10 x11 x12 (wrap64 (x13 + 1))) else (if 0 ≤ (wrap64 (x12 + x13)) then (if (wrap64 (x12 + x13)) < (x10.length : Int) then (if x12 < (x10.length : Int) then (if (wrap64 (3 + (rd x10 (wrap64 (x12 + x13))))) ≤ (rd x10 x12) then (if x12 < (x11.length : Int) then (impl_fewest.l2 ws k x1 x8 x9 (x10.set (x12 : Int).toNat (wrap64 (3 + (rd x10 (wrap64 (x12 + x13)))))) (x11.set (x12 : Int).toNat x13) x12 (wrap64 (x13 + 1))) else (none)) else (impl_fewest.l2 ws k x1 x8 x9 x10 x11 x12 (wrap64 (x13 + 1)))) else (none)) else (none)) else (none)))) else (none)) else (none)) else (none)) else (none)) else (none)) else (none)) else (none)) else (impl_fewest.l1 ws k x1 x8 x9 x10 x11 (wrap64 (x12 - 1)))
def impl_fewest.l3 (ws : List ByteArray) : Nat → Int → List Int → List Int → Int → Option (List Int)
  | 0, _, _, _, _ => none
  | k + 1, x9, x11, x16, x17 => if x17 < x9 then (if 0 ≤ x17 then (if x17 < (x11.length : Int) then (if x16.length < 17592186044416 then (impl_fewest.l3 ws k x9 x11 (x16 ++ [rd x11 x17]) (wrap64 (x17 + (rd x11 x17)))) else (none)) else (none)) else (none)) else (some x16)
end
def impl_fewest.f (k : Nat) (l0 : List ByteArray) (a1 : ByteArray) : Option (List Int) := if MapS.Fits l0 a1 then (impl_fewest.l0 l0 k a1 l0 (l0.length : Int) 0) else none
theorem impl_fewest.mono_l (ws : List ByteArray) : ∀ k, (∀ y0 y1 y2 y3, LeO (impl_fewest.l0 ws k y0 y1 y2 y3) (impl_fewest.l0 ws (k + 1) y0 y1 y2 y3)) ∧ (∀ y0 y1 y2 y3 y4 y5, LeO (impl_fewest.l1 ws k y0 y1 y2 y3 y4 y5) (impl_fewest.l1 ws (k + 1) y0 y1 y2 y3 y4 y5)) ∧ (∀ y0 y1 y2 y3 y4 y5 y6, LeO (impl_fewest.l2 ws k y0 y1 y2 y3 y4 y5 y6) (impl_fewest.l2 ws (k + 1) y0 y1 y2 y3 y4 y5 y6)) ∧ (∀ y0 y1 y2 y3 y4 y5 y6 y7, LeO (impl_fewest.j3 ws k y0 y1 y2 y3 y4 y5 y6 y7) (impl_fewest.j3 ws (k + 1) y0 y1 y2 y3 y4 y5 y6 y7)) ∧ (∀ y0 y1 y2 y3, LeO (impl_fewest.l3 ws k y0 y1 y2 y3) (impl_fewest.l3 ws (k + 1) y0 y1 y2 y3))
  | 0 => ⟨fun _ _ _ _ r h => by simp [impl_fewest.l0] at h, fun _ _ _ _ _ _ r h => by simp [impl_fewest.l1] at h, fun _ _ _ _ _ _ _ r h => by simp [impl_fewest.l2] at h, fun _ _ _ _ _ _ _ _ r h => by simp [impl_fewest.j3] at h, fun _ _ _ _ r h => by simp [impl_fewest.l3] at h⟩
  | k + 1 => by
    obtain ⟨ih0, ih1, ih2, ih3, ih4⟩ := impl_fewest.mono_l ws k
    refine ⟨?_, ?_, ?_, ?_, ?_⟩
    · intro y0 y1 y2 y3
      unfold impl_fewest.l0
      repeat' first
      | (with_reducible exact ih0 _ _ _ _)
      | (with_reducible exact ih1 _ _ _ _ _ _)
      | (with_reducible exact ih2 _ _ _ _ _ _ _)
      | (with_reducible exact ih3 _ _ _ _ _ _ _ _)
      | (with_reducible exact ih4 _ _ _ _)
      | (with_reducible exact impl_read.mono _ _)
      | (with_reducible exact LeO.refl _)
      | (with_reducible exact LeO.none _)
      | (with_reducible refine LeO.ite ?_ ?_)
      | (with_reducible refine LeO.bind ?_ (fun _ => ?_))
      | exact ih0 _ _ _ _
      | exact ih1 _ _ _ _ _ _
      | exact ih2 _ _ _ _ _ _ _
      | exact ih3 _ _ _ _ _ _ _ _
      | exact ih4 _ _ _ _
      | exact impl_read.mono _ _
      | exact LeO.none _
      | refine LeO.ite ?_ ?_
      | refine LeO.bind ?_ (fun _ => ?_)
    · intro y0 y1 y2 y3 y4 y5
      unfold impl_fewest.l1
      repeat' first
      | (with_reducible exact ih0 _ _ _ _)
      | (with_reducible exact ih1 _ _ _ _ _ _)
      | (with_reducible exact ih2 _ _ _ _ _ _ _)
      | (with_reducible exact ih3 _ _ _ _ _ _ _ _)
      | (with_reducible exact ih4 _ _ _ _)
      | (with_reducible exact impl_read.mono _ _)
      | (with_reducible exact LeO.refl _)
      | (with_reducible exact LeO.none _)
      | (with_reducible refine LeO.ite ?_ ?_)
      | (with_reducible refine LeO.bind ?_ (fun _ => ?_))
      | exact ih0 _ _ _ _
      | exact ih1 _ _ _ _ _ _
      | exact ih2 _ _ _ _ _ _ _
      | exact ih3 _ _ _ _ _ _ _ _
      | exact ih4 _ _ _ _
      | exact impl_read.mono _ _
      | exact LeO.none _
      | refine LeO.ite ?_ ?_
      | refine LeO.bind ?_ (fun _ => ?_)
    · intro y0 y1 y2 y3 y4 y5 y6
      unfold impl_fewest.l2
      repeat' first
      | (with_reducible exact ih0 _ _ _ _)
      | (with_reducible exact ih1 _ _ _ _ _ _)
      | (with_reducible exact ih2 _ _ _ _ _ _ _)
      | (with_reducible exact ih3 _ _ _ _ _ _ _ _)
      | (with_reducible exact ih4 _ _ _ _)
      | (with_reducible exact impl_read.mono _ _)
      | (with_reducible exact LeO.refl _)
      | (with_reducible exact LeO.none _)
      | (with_reducible refine LeO.ite ?_ ?_)
      | (with_reducible refine LeO.bind ?_ (fun _ => ?_))
      | exact ih0 _ _ _ _
      | exact ih1 _ _ _ _ _ _
      | exact ih2 _ _ _ _ _ _ _
      | exact ih3 _ _ _ _ _ _ _ _
      | exact ih4 _ _ _ _
      | exact impl_read.mono _ _
      | exact LeO.none _
      | refine LeO.ite ?_ ?_
      | refine LeO.bind ?_ (fun _ => ?_)
    · intro y0 y1 y2 y3 y4 y5 y6 y7
      unfold impl_fewest.j3
      repeat' first
      | (with_reducible exact ih0 _ _ _ _)
      | (with_reducible exact ih1 _ _ _ _ _ _)
      | (with_reducible exact ih2 _ _ _ _ _ _ _)
      | (with_reducible exact ih3 _ _ _ _ _ _ _ _)
      | (with_reducible exact ih4 _ _ _ _)
      | (with_reducible exact impl_read.mono _ _)
      | (with_reducible exact LeO.refl _)
      | (with_reducible exact LeO.none _)
      | (with_reducible refine LeO.ite ?_ ?_)
      | (with_reducible refine LeO.bind ?_ (fun _ => ?_))
      | exact ih0 _ _ _ _
      | exact ih1 _ _ _ _ _ _
      | exact ih2 _ _ _ _ _ _ _
      | exact ih3 _ _ _ _ _ _ _ _
      | exact ih4 _ _ _ _
      | exact impl_read.mono _ _
      | exact LeO.none _
      | refine LeO.ite ?_ ?_
      | refine LeO.bind ?_ (fun _ => ?_)
    · intro y0 y1 y2 y3
      unfold impl_fewest.l3
      repeat' first
      | (with_reducible exact ih0 _ _ _ _)
      | (with_reducible exact ih1 _ _ _ _ _ _)
      | (with_reducible exact ih2 _ _ _ _ _ _ _)
      | (with_reducible exact ih3 _ _ _ _ _ _ _ _)
      | (with_reducible exact ih4 _ _ _ _)
      | (with_reducible exact impl_read.mono _ _)
      | (with_reducible exact LeO.refl _)
      | (with_reducible exact LeO.none _)
      | (with_reducible refine LeO.ite ?_ ?_)
      | (with_reducible refine LeO.bind ?_ (fun _ => ?_))
      | exact ih0 _ _ _ _
      | exact ih1 _ _ _ _ _ _
      | exact ih2 _ _ _ _ _ _ _
      | exact ih3 _ _ _ _ _ _ _ _
      | exact ih4 _ _ _ _
      | exact impl_read.mono _ _
      | exact LeO.none _
      | refine LeO.ite ?_ ?_
      | refine LeO.bind ?_ (fun _ => ?_)
theorem impl_fewest.mono : ∀ a0 a1 k, LeO (impl_fewest.f k a0 a1) (impl_fewest.f (k + 1) a0 a1) := by
  intro a0 a1 k
  obtain ⟨ih0, ih1, ih2, ih3, ih4⟩ := impl_fewest.mono_l a0 k
  unfold impl_fewest.f
  repeat' first
      | (with_reducible exact ih0 _ _ _ _)
      | (with_reducible exact ih1 _ _ _ _ _ _)
      | (with_reducible exact ih2 _ _ _ _ _ _ _)
      | (with_reducible exact ih3 _ _ _ _ _ _ _ _)
      | (with_reducible exact ih4 _ _ _ _)
      | (with_reducible exact impl_read.mono _ _)
      | (with_reducible exact LeO.refl _)
      | (with_reducible exact LeO.none _)
      | (with_reducible refine LeO.ite ?_ ?_)
      | (with_reducible refine LeO.bind ?_ (fun _ => ?_))
      | exact ih0 _ _ _ _
      | exact ih1 _ _ _ _ _ _
      | exact ih2 _ _ _ _ _ _ _
      | exact ih3 _ _ _ _ _ _ _ _
      | exact ih4 _ _ _ _
      | exact impl_read.mono _ _
      | exact LeO.none _
      | refine LeO.ite ?_ ?_
      | refine LeO.bind ?_ (fun _ => ?_)
def impl_fewest.T18 : Bool × List (List Nat × List Nat) := (true, [([], []), ([], []), ([], []), ([], []), ([2, 3], [2, 3]), ([4], [4]), ([5], [5]), ([], []), ([], []), ([], []), ([8, 9], [8, 9]), ([10], [10]), ([7, 11], [7, 11]), ([12], [12]), ([13], [13]), ([1, 6, 14], [1, 6, 14]), ([0, 15], [0, 15]), ([16], [16])])
def impl_fewest.B18 : List Nat := [0, 0, 0, 0, 12, 28, 60, 0, 0, 0, 768, 1792, 3968, 8064, 16256, 32766, 65535, 131071]
theorem impl_fewest.tab18 : rtab .any (opsOf Tryd.f78 18) = impl_fewest.T18 := by kernel_rfl
theorem impl_fewest.bits18 : waitsOk impl_fewest.T18.2 impl_fewest.B18 = true := by kernel_rfl
set_option maxHeartbeats 8000000 in
set_option maxRecDepth 100000 in
theorem impl_fewest.calls (k : Nat) (A0 : Option Addr) (c0 : Nat) (l0 : List ByteArray) (a1 : ByteArray) (r : List Int) (w : World) (hr0 : Kd.C Kd.string w A0 l0.length l0) (hc0 : l0.length ≤ c0) (hG : GL w) (h : impl_fewest.f k l0 a1 = some r) :
    Calls Tryd.prog 78 #[.slice A0 l0.length c0, .string a1] w fun e w' => ∃ v0_ : Value, e = .returned (v0_) ∧ Kd.R (Kd.int .i64) 3 w' w.heap.size (fun _ => True) v0_ r ∧ Below w.heap.size w w' := by
  have HR0 := am hr0
  have HC0 := am hc0
  clear hr0 hc0
  have HGL := am hG
  clear hG
  have HB := am (Below.refl w.heap.size w)
  unfold impl_fewest.f at h
  obtain ⟨hsz_, h⟩ := MapS.ite_some h
  have HSZ := am hsz_
  clear hsz_
  have H : (impl_fewest.l0 l0 k a1 l0 (l0.length : Int) 0) = some r := h
  clear h
  have H' := am H
  clear H
  go_enter Tryd.func78, Tryd.ntmps78
  have hmm := @run_makeMap Tryd.prog
  go_wp2_with (first | ((with_reducible refine gate_dst (N := 18) rfl ?_); refine MapS.map_event ?hg (N := 18) ?hd ?hr ?_; (case hd => rfl); (case hg => rfl); (case hr => first | (go_simp; done) | (go_simp; rfl)); intro gm hgm wm_ hmap hb; have GM := am ((by rw [hgm]; exact below_size HB.out : w.heap.size ≤ gm)); replace HB := am (below_step HB.out hb); have MP := am hmap; clear hmap hb hgm))
  go_loopg [21] k (fun kq v21 w' => ∃ (x21_1 : Int) (nq : Nat), v21 = .int .i64 x21_1 ∧ Aside0 (impl_fewest.l0 l0 kq a1 l0 (l0.length : Int) x21_1 = some r) ∧ Aside0 (kq ≤ k) ∧ Aside0 (Below w.heap.size w w') ∧ Aside0 (x21_1 = (nq : Int) ∧ nq ≤ l0.length) ∧ Aside0 (MapS.MapAt w' gm nq (MapS.ms (l0.take nq))))
  case atStart => exact ⟨(0), 0, (by first | rfl | (simp; done) | (simp [*]; done)), H', ⟨Nat.le_refl _⟩, ⟨bB⟩, ⟨rfl, Nat.zero_le _⟩, ⟨MP.out⟩⟩
  case round =>
    clear H'
    try clear p2
    clear MP
    obtain ⟨x21_1, nq, rfl, HA, HK1, HB, HN, MP⟩ := hrel
    cases gk with
    | zero => exact absurd HA.out (by simp [impl_fewest.l0])
    | succ k1 =>
      have H := HA.out
      clear HA
      simp only [impl_fewest.l0] at H
      by_cases c3 : x21_1 < (l0.length : Int)
      · rw [if_pos c3] at H
        have c3b0 : decide (x21_1 < (l0.length : Int)) = true := decide_eq_true c3
        clear c3
        by_cases c4 : 0 ≤ x21_1
        · rw [if_pos c4] at H
          have c4b0 : decide (0 ≤ x21_1) = true := decide_eq_true c4
          clear c4
          by_cases c5 : x21_1 < (l0.length : Int)
          · rw [if_pos c5] at H
            have c5b0 : decide (x21_1 < (l0.length : Int)) = true := decide_eq_true c5
            clear c5
            have H' := am H
            clear H
            have p318 : 0 ≤ (x21_1 : Int) := od
            have q318 : x21_1 < (l0.length : Int) := od
            obtain ⟨ad318, e318, hx318_0⟩ := Kd.at_string HR0.out x21_1 p318 q318
            cases e318
            replace hx318_0 := (HB.out.cell (World.block_lt_of_cell? w _ hx318_0)).trans hx318_0
            have hn_ := HN.out
            have hlt_ : nq < l0.length := by omega
            have hkey_ := MapS.key_of (rdOf ByteArray.empty l0 x21_1) (MapS.rd_fits HSZ.out _)
            have hput_ := am (MapS.ms_take l0 x21_1 nq hn_.1 hlt_)
            have LT := am hlt_
            clear hn_ hlt_
            replace p318 := eq_true p318
            replace q318 := eq_true q318
            go_wp2_with (first | (at_mapUpdate; refine wpList_mapUpdate_own _ rfl _ _ _ 96 rfl 9 4 MapS.law9 Tryd.underlying96 (plainElem (H := Unit) Tryd.prog 4) gm nq _ rfl MP.out (by have := HSZ.out.1; have := LT.out; unfold maxLen; omega) _ _ _ rfl rfl hkey_ _ [] (plainElem_bool Tryd.underlying4 true) ?_; intro w1_ hown_ hg; replace HB := am (pw_below_grown HB.out (some gm) (below_size HB.out) hg (fun k hk => by cases hk; exact GM.out)); have n0_ : Aside0 (MapS.MapAt w1_ gm (nq + 1) (MapS.ms (l0.take (nq + 1)))) := am (by rw [hput_.out]; exact hown_); clear MP; have MP := n0_; clear n0_ hown_ hg))
            go_roundg k1
            case measure => have := HK1.out; omega
            case rel => exact ⟨(wrap64 (x21_1 + 1)), nq + 1, (by first | rfl | (simp; done) | (simp [*]; done)), H', ⟨by have := HK1.out; omega⟩, ⟨bB⟩, ⟨MapS.w_succ HN.out.1 (by have := HSZ.out.1; have := LT.out; omega), LT.out⟩, ⟨MP.out⟩⟩
          · rw [if_neg c5] at H
            exact absurd H (by simp)
        · rw [if_neg c4] at H
          exact absurd H (by simp)
      · rw [if_neg c3] at H
        have c3b0 : decide (x21_1 < (l0.length : Int)) = false := decide_eq_false c3
        have hm_ : nq = l0.length := by have := HN.out; omega
        have HM0 : MapS.HasAt wr gm (MapS.ms l0) := ⟨nq, by have h_ := MP.out; rw [hm_, List.take_length] at h_; rw [hm_]; exact h_⟩
        have HGL0 := GL_below HGL.out HB.out
        clear HGL
        have HGL := am HGL0
        have HB0 := HB
        have HM := am HM0
        clear c3 hm_ HM0 HGL0 HB MP HN
        obtain ⟨wq, hwq⟩ : ∃ W : World, W = wr := ⟨_, rfl⟩
        subst hwq
        have HB := am (Below.refl wq.heap.size wq)
        replace H := Option.bind_eq_some_iff.mp H
        obtain ⟨t319, A60, H⟩ := H
        replace H : (if 0 ≤ (wrap64 ((t319.length : Int) + 1)) then (if (wrap64 ((t319.length : Int) + 1) : Int).toNat ≤ 35184372088832 then (if 0 ≤ (t319.length : Int) then (if ((t319.length : Int) : Int).toNat ≤ 35184372088832 then (impl_fewest.l1 l0 k1 a1 t319 (t319.length : Int) (List.replicate (wrap64 ((t319.length : Int) + 1) : Int).toNat 0) (List.replicate ((t319.length : Int) : Int).toNat 0) (wrap64 ((t319.length : Int) - 1))) else (none)) else (none)) else (none)) else (none)) = some r := H
        have A6 := am A60
        clear A60
        obtain ⟨ji7, hji7⟩ : ∃ j_ : Int, (wrap64 ((t319.length : Int) + 1)) = j_ := ⟨_, rfl⟩
        replace H : (if 0 ≤ (ji7) then (if (ji7 : Int).toNat ≤ 35184372088832 then (if 0 ≤ (t319.length : Int) then (if ((t319.length : Int) : Int).toNat ≤ 35184372088832 then (impl_fewest.l1 l0 k1 a1 t319 (t319.length : Int) (List.replicate (ji7 : Int).toNat 0) (List.replicate ((t319.length : Int) : Int).toNat 0) (wrap64 ((t319.length : Int) - 1))) else (none)) else (none)) else (none)) else (none)) = some r := by first | (rw [hji7] at H; exact H) | (simp only [hji7] at H ⊢; exact H)
        (try rw [hji7] at A6)
        have hji7w : (IntKind.i64.wrap ((t319.length : Int) + 1)) = ji7 := (i64_w _).trans hji7
        by_cases c8 : 0 ≤ (ji7)
        · rw [if_pos c8] at H
          have c8b0 := eq_true c8
          have c8b1 : decide (0 ≤ (ji7)) = true := decide_eq_true c8
          clear c8
          by_cases c9 : (ji7 : Int).toNat ≤ 35184372088832
          · rw [if_pos c9] at H
            have c9b0 := eq_true c9
            have c9b1 : decide ((ji7 : Int).toNat ≤ 35184372088832) = true := decide_eq_true c9
            clear c9
            obtain ⟨y322, hy322⟩ : ∃ y_ : List Int, y_ = (List.replicate (ji7 : Int).toNat 0) := ⟨_, rfl⟩
            replace H : (if 0 ≤ (t319.length : Int) then (if ((t319.length : Int) : Int).toNat ≤ 35184372088832 then (impl_fewest.l1 l0 k1 a1 t319 (t319.length : Int) y322 (List.replicate ((t319.length : Int) : Int).toNat 0) (wrap64 ((t319.length : Int) - 1))) else (none)) else (none)) = some r := by first | (rw [hy322]; with_reducible exact H) | (have H2_ := (Option.bind_some _ _).symm.trans H; rw [hy322]; with_reducible exact H2_) | (have H2_ := (Option.bind_some _ _).symm.trans H; with_reducible exact H2_) | with_reducible exact H | (rw [hy322]; exact H) | exact H
            have Ny322 := am hy322
            clear hy322
            by_cases c10 : 0 ≤ (t319.length : Int)
            · rw [if_pos c10] at H
              have c10b0 := eq_true c10
              have c10b1 : decide (0 ≤ (t319.length : Int)) = true := decide_eq_true c10
              clear c10
              by_cases c11 : ((t319.length : Int) : Int).toNat ≤ 35184372088832
              · rw [if_pos c11] at H
                have c11b0 := eq_true c11
                have c11b1 : decide (((t319.length : Int) : Int).toNat ≤ 35184372088832) = true := decide_eq_true c11
                clear c11
                obtain ⟨y325, hy325⟩ : ∃ y_ : List Int, y_ = (List.replicate ((t319.length : Int) : Int).toNat 0) := ⟨_, rfl⟩
                replace H : (impl_fewest.l1 l0 k1 a1 t319 (t319.length : Int) y322 y325 (wrap64 ((t319.length : Int) - 1))) = some r := by first | (rw [hy325]; with_reducible exact H) | (have H2_ := (Option.bind_some _ _).symm.trans H; rw [hy325]; with_reducible exact H2_) | (have H2_ := (Option.bind_some _ _).symm.trans H; with_reducible exact H2_) | with_reducible exact H | (rw [hy325]; exact H) | exact H
                have Ny325 := am hy325
                clear hy325
                have H' := am H
                clear H
                try go_wp2_with (first | ((with_reducible refine gate_callee (f := 56) rfl ?_); refine gl 29 Tryd.func56 #[.string a1] ?_; (with_reducible refine (impl_read.calls k1 a1 t319 _ ?side1 A6.out).mono ?_); (case side1 => first | exact HGL.out | exact GL_below HGL.out bB); rintro e w12 ⟨v320, rfl, ho0, hb⟩; refine ⟨_, rfl, ?_⟩; have HO321 := am (Kd.R_lower ho0 (below_size bB)); replace HB := am (below_step bB hb); (try clear hb); (try clear hb2); (try clear hk); (try clear hi); (try clear ho0); obtain ⟨Ao13, co13, eo13⟩ := Kd.R_slice HO321.out; subst eo13))
                replace HO321 := am (Kd.R_drew HO321.out)
                replace HB := am (below_drew1 HB.out)
                refine start_ (n := 7) (S := fun w' => True) (ds := []) #[false, false, false, false, false, false, false] (by kernel_rfl) rfl rfl trivial (fun hHeld => ?_)
                generalize w12.drew = w14 at HO321 HB hHeld ⊢
                refine pure_ (i := 0) (N := some 32) (v := ?_) (a' := ?_) #[true, false, false, false, false, false, false] rfl rfl (by kernel_rfl) (fun _ _ _ h => h) (Or.inl ⟨by rfl, ?_⟩) ?_ ?_
                rotate_left
                · intro w'
                  go_simp
                  with_reducible rfl
                rotate_left
                · simp only [Act.put, List.setIfInBounds_toArray, List.set_cons_zero, List.set_cons_succ, i64_w, i32_w]
                  rfl
                refine pure_ (i := 1) (N := some 33) (v := ?_) (a' := ?_) #[true, true, false, false, false, false, false] rfl rfl (by kernel_rfl) (fun _ _ _ h => h) (Or.inl ⟨by rfl, ?_⟩) ?_ ?_
                rotate_left
                · intro w'
                  go_simp
                  with_reducible rfl
                rotate_left
                · simp only [Act.put, List.setIfInBounds_toArray, List.set_cons_zero, List.set_cons_succ, i64_w, i32_w]
                  rfl
                refine pure_ (i := 3) (N := some 35) (v := ?_) (a' := ?_) #[true, true, false, true, false, false, false] rfl rfl (by kernel_rfl) (fun _ _ _ h => h) (Or.inl ⟨by rfl, ?_⟩) ?_ ?_
                rotate_left
                · intro w'
                  go_simp
                  with_reducible rfl
                rotate_left
                · simp only [Act.put, List.setIfInBounds_toArray, List.set_cons_zero, List.set_cons_succ, i64_w, i32_w]
                  rfl
                refine join_ (σ := Value × Value) 1 #[true, true, true, true, true, true, false] (fun s_ => [(34, s_.1), (36, s_.2), (10, s_.1)]) (fun s_ w' => (Kd.R k74 74 w' wq.heap.size (fun _ => True) (.slice Ao13 t319.length co13) t319) ∧ (Kd.R (Kd.int .i64) 3 w' wq.heap.size (fun k_ => some k_ ≠ (s_.2 : Value).ownBlock) s_.1 y322) ∧ (Kd.R (Kd.int .i64) 3 w' wq.heap.size (fun k_ => some k_ ≠ (s_.1 : Value).ownBlock) s_.2 y325) ∧ (Below wq.heap.size wq w')) ?_ ?_
                rotate_left
                · intro hCont
                  refine two_ (i := 2) (j := 4) (Ni := some 34) (Nj := some 36) #[true, true, true, true, false, false, false] #[true, true, false, true, true, false, false] rfl rfl rfl rfl (by kernel_rfl) (by decide) (by decide) (fun K hK => ?_) (fun K hK => ?_)
                  · skip
                    refine Kd.R_make_step (Kd.int .i64) _ 3 (by rfl) (N := 34) rfl 71 _ _ rfl ji7 rfl rfl Tryd.underlying71 (.int .i64 0) 8 info3 rfl (by decide) (by omega) 0 (ok := fun _ => True) (okp := fun _ => True) rfl (fun _ hk => hk) trivial (od) (Nat.le_trans (Nat.mul_le_mul_right _ (od : ji7.toNat ≤ 35184372088832)) (by omega)) (Below.refl _ _) (Nat.le_refl _) ?_
                    intro v323 w15 ho16 hb hg_ hnew_
                    clear hg_ hnew_
                    (first | rw [← Ny322.out] at ho16 | (simp only [Int.reduceToNat] at ho16; rw [← Ny322.out] at ho16))
                    replace HO321 := am (Kd.R_below (kR HO321.out) hb)
                    have HO324 := am (Kd.R_lower ho16 (below_size bB))
                    replace HB := am (below_step bB hb)
                    clear hb ho16
                    refine hK.out _ _ trivial (fun hHeld => ?_)
                    clear hK K
                    refine norm_ (a' := ?_) ?_ ?_
                    rotate_left
                    · show Act.put _ (some 34) _ = _
                      simp only [Act.put, List.setIfInBounds_toArray, List.set_cons_zero, List.set_cons_succ, i64_w, i32_w]
                      rfl
                    refine pure_ (i := 5) (N := some 10) (v := ?_) (a' := ?_) #[true, true, true, true, false, true, false] rfl rfl (by kernel_rfl) (fun _ _ _ h => h) (Or.inl ⟨by rfl, ?_⟩) ?_ ?_
                    rotate_left
                    · intro w'
                      go_simp
                      with_reducible rfl
                    rotate_left
                    · simp only [Act.put, List.setIfInBounds_toArray, List.set_cons_zero, List.set_cons_succ, i64_w, i32_w]
                      rfl
                    refine one_ (i := 4) (N := some 36) #[true, true, true, true, true, true, false] rfl rfl (by kernel_rfl) (by decide) (fun K hK => ?_)
                    refine Kd.R_make_step (Kd.int .i64) _ 3 (by rfl) (N := 36) rfl 71 _ _ rfl (t319.length : Int) rfl rfl Tryd.underlying71 (.int .i64 0) 8 info3 rfl (by decide) (by omega) 0 (ok := fun _ => True) (okp := fun _ => True) rfl (fun _ hk => hk) trivial (od) (Nat.le_trans (Nat.mul_le_mul_right _ (od : (t319.length : Int).toNat ≤ 35184372088832)) (by omega)) (Below.refl _ _) (Nat.le_refl _) ?_
                    intro v326 w17 ho18 hb hg_ hnew_
                    clear hg_ hnew_
                    (first | rw [← Ny325.out] at ho18 | (simp only [Int.reduceToNat] at ho18; rw [← Ny325.out] at ho18))
                    replace HO321 := am (Kd.R_below (kR HO321.out) hb)
                    have HO327 := am (Kd.R_lower (Kd.R_new' ho18 (Kd.R_lt (kR HO324.out))) (below_size bB))
                    replace HO324 := am (Kd.R_elder' (kR HO324.out) (Kd.R_base ho18) hb)
                    replace HB := am (below_step bB hb)
                    clear hb ho18
                    refine hK.out _ _ trivial (fun hHeld => ?_)
                    clear hK K
                    refine norm_ (a' := ?_) ?_ ?_
                    rotate_left
                    · show Act.put _ (some 36) _ = _
                      simp only [Act.put, List.setIfInBounds_toArray, List.set_cons_zero, List.set_cons_succ, i64_w, i32_w]
                      rfl
                    exact norm_ (by simp only [putAll, Act.put, List.setIfInBounds_toArray, List.set_cons_zero, List.set_cons_succ]) (hCont (v323, v326) _ ⟨(kR HO321.out), (kR (Kd.R_mono HO324.out (fun _ hk => hk.2))), (kR (Kd.R_mono HO327.out (fun _ hk => hk.2))), bB⟩)
                  · skip
                    refine Kd.R_make_step (Kd.int .i64) _ 3 (by rfl) (N := 36) rfl 71 _ _ rfl (t319.length : Int) rfl rfl Tryd.underlying71 (.int .i64 0) 8 info3 rfl (by decide) (by omega) 0 (ok := fun _ => True) (okp := fun _ => True) rfl (fun _ hk => hk) trivial (od) (Nat.le_trans (Nat.mul_le_mul_right _ (od : (t319.length : Int).toNat ≤ 35184372088832)) (by omega)) (Below.refl _ _) (Nat.le_refl _) ?_
                    intro v326 w15 ho16 hb hg_ hnew_
                    clear hg_ hnew_
                    (first | rw [← Ny325.out] at ho16 | (simp only [Int.reduceToNat] at ho16; rw [← Ny325.out] at ho16))
                    replace HO321 := am (Kd.R_below (kR HO321.out) hb)
                    have HO327 := am (Kd.R_lower ho16 (below_size bB))
                    replace HB := am (below_step bB hb)
                    clear hb ho16
                    refine hK.out _ _ trivial (fun hHeld => ?_)
                    clear hK K
                    refine norm_ (a' := ?_) ?_ ?_
                    rotate_left
                    · show Act.put _ (some 36) _ = _
                      simp only [Act.put, List.setIfInBounds_toArray, List.set_cons_zero, List.set_cons_succ, i64_w, i32_w]
                      rfl
                    refine one_ (i := 2) (N := some 34) #[true, true, true, true, true, false, false] rfl rfl (by kernel_rfl) (by decide) (fun K hK => ?_)
                    refine Kd.R_make_step (Kd.int .i64) _ 3 (by rfl) (N := 34) rfl 71 _ _ rfl ji7 rfl rfl Tryd.underlying71 (.int .i64 0) 8 info3 rfl (by decide) (by omega) 0 (ok := fun _ => True) (okp := fun _ => True) rfl (fun _ hk => hk) trivial (od) (Nat.le_trans (Nat.mul_le_mul_right _ (od : ji7.toNat ≤ 35184372088832)) (by omega)) (Below.refl _ _) (Nat.le_refl _) ?_
                    intro v323 w17 ho18 hb hg_ hnew_
                    clear hg_ hnew_
                    (first | rw [← Ny322.out] at ho18 | (simp only [Int.reduceToNat] at ho18; rw [← Ny322.out] at ho18))
                    replace HO321 := am (Kd.R_below (kR HO321.out) hb)
                    have HO324 := am (Kd.R_lower (Kd.R_new' ho18 (Kd.R_lt (kR HO327.out))) (below_size bB))
                    replace HO327 := am (Kd.R_elder' (kR HO327.out) (Kd.R_base ho18) hb)
                    replace HB := am (below_step bB hb)
                    clear hb ho18
                    refine hK.out _ _ trivial (fun hHeld => ?_)
                    clear hK K
                    refine norm_ (a' := ?_) ?_ ?_
                    rotate_left
                    · show Act.put _ (some 34) _ = _
                      simp only [Act.put, List.setIfInBounds_toArray, List.set_cons_zero, List.set_cons_succ, i64_w, i32_w]
                      rfl
                    refine pure_ (i := 5) (N := some 10) (v := ?_) (a' := ?_) #[true, true, true, true, true, true, false] rfl rfl (by kernel_rfl) (fun _ _ _ h => h) (Or.inl ⟨by rfl, ?_⟩) ?_ ?_
                    rotate_left
                    · intro w'
                      go_simp
                      with_reducible rfl
                    rotate_left
                    · simp only [Act.put, List.setIfInBounds_toArray, List.set_cons_zero, List.set_cons_succ, i64_w, i32_w]
                      rfl
                    exact norm_ (by simp only [putAll, Act.put, List.setIfInBounds_toArray, List.set_cons_zero, List.set_cons_succ]) (hCont (v323, v326) _ ⟨(kR HO321.out), (kR (Kd.R_mono HO324.out (fun _ hk => hk.2))), (kR (Kd.R_mono HO327.out (fun _ hk => hk.2))), bB⟩)
                rintro ⟨v323, v326⟩ w19 ⟨h0_, h1_, h2_, h3_⟩
                have n0_ : Aside0 (Kd.R k74 74 w19 wq.heap.size (fun _ => True) (.slice Ao13 t319.length co13) t319) := ⟨h0_⟩
                have n1_ : Aside0 (Kd.R (Kd.int .i64) 3 w19 wq.heap.size (fun k_ => some k_ ≠ (v326 : Value).ownBlock) v323 y322) := ⟨h1_⟩
                have n2_ : Aside0 (Kd.R (Kd.int .i64) 3 w19 wq.heap.size (fun k_ => some k_ ≠ (v323 : Value).ownBlock) v326 y325) := ⟨h2_⟩
                have n3_ : Aside0 (Below wq.heap.size wq w19) := ⟨h3_⟩
                clear HO321
                clear HB
                clear h0_ h1_ h2_ h3_
                have HO321 := n0_
                have HO324 := n1_
                have HO327 := n2_
                have HB := n3_
                clear n0_ n1_ n2_ n3_
                have hHeld := trivial
                refine norm_ (a' := ?_) ?_ ?_
                rotate_left
                · simp only [putAll, Act.put, List.setIfInBounds_toArray, List.set_cons_zero, List.set_cons_succ]
                  rfl
                refine pure_ (i := 6) (N := some 11) (v := ?_) (a' := ?_) #[true, true, true, true, true, true, true] rfl rfl (by kernel_rfl) (fun _ _ _ h => h) (Or.inl ⟨by rfl, ?_⟩) ?_ ?_
                rotate_left
                · intro w'
                  go_simp
                  with_reducible rfl
                rotate_left
                · simp only [Act.put, List.setIfInBounds_toArray, List.set_cons_zero, List.set_cons_succ, i64_w, i32_w]
                  rfl
                refine done_ (by kernel_rfl) ?_
                try go_wp2
                go_loopg [12] k1 (fun kq v12 w' => ∃ (x10_2 : List Int) (x11_2 : List Int) (x12_2 : Int), v12 = .int .i64 x12_2 ∧ Aside0 (impl_fewest.l1 l0 kq a1 t319 (t319.length : Int) x10_2 x11_2 x12_2 = some r) ∧ Aside0 (kq ≤ k1) ∧ Aside0 (Kd.R k74 74 w' wq.heap.size (fun _ => True) (.slice Ao13 t319.length co13) t319) ∧ Aside0 (Kd.R (Kd.int .i64) 3 w' wq.heap.size (fun k_ => some k_ ≠ (v326 : Value).ownBlock) v323 x10_2) ∧ Aside0 (Kd.R (Kd.int .i64) 3 w' wq.heap.size (fun k_ => some k_ ≠ (v323 : Value).ownBlock) v326 x11_2) ∧ Aside0 (Below wq.heap.size wq w'))
                case atStart => exact ⟨(y322), (y325), (wrap64 ((t319.length : Int) - 1)), (by first | rfl | (simp; done) | (simp [*]; done)), H', ⟨Nat.le_refl _⟩, ⟨kR HO321.out⟩, ⟨kR HO324.out⟩, ⟨kR HO327.out⟩, ⟨bB⟩⟩
                case round =>
                  clear H'
                  try clear c1
                  try clear p2
                  try clear c3
                  try clear c3b0
                  try clear p3
                  try clear q3
                  try clear hx3
                  try clear c4
                  try clear c4b0
                  try clear c5
                  try clear c5b0
                  try clear p6
                  try clear c7
                  try clear c8
                  try clear c8b0
                  try clear c8b1
                  try clear c9
                  try clear c9b0
                  try clear c9b1
                  try clear c10
                  try clear c10b0
                  try clear c10b1
                  try clear c11
                  try clear c11b0
                  try clear c11b1
                  try clear hx318_0
                  try clear p2
                  try clear p318
                  try clear q318
                  obtain ⟨x10_2, x11_2, x12_2, rfl, HA, HK2, HO_8, HO_10, HO_11, HB⟩ := hrel
                  cases gk with
                  | zero => exact absurd HA.out (by simp [impl_fewest.l1])
                  | succ k2 =>
                    have H := HA.out
                    clear HA
                    simp only [impl_fewest.l1] at H
                    by_cases c20 : x12_2 ≥ 0
                    · rw [if_pos c20] at H
                      have c20b0 : decide (0 ≤ x12_2) = true := decide_eq_true c20
                      clear c20
                      by_cases c21 : 0 ≤ x12_2
                      · rw [if_pos c21] at H
                        have c21b0 : decide (0 ≤ x12_2) = true := decide_eq_true c21
                        clear c21
                        by_cases c22 : x12_2 < (x10_2.length : Int)
                        · rw [if_pos c22] at H
                          have c22b0 : decide (x12_2 < (x10_2.length : Int)) = true := decide_eq_true c22
                          clear c22
                          obtain ⟨y328, hy328⟩ : ∃ y_ : List Int, y_ = (x10_2.set (x12_2 : Int).toNat 1099511627776) := ⟨_, rfl⟩
                          replace H : (impl_fewest.l2 l0 k2 a1 t319 (t319.length : Int) y328 x11_2 x12_2 1) = some r := by first | (rw [hy328]; with_reducible exact H) | (have H2_ := (Option.bind_some _ _).symm.trans H; rw [hy328]; with_reducible exact H2_) | (have H2_ := (Option.bind_some _ _).symm.trans H; with_reducible exact H2_) | with_reducible exact H | (rw [hy328]; exact H) | exact H
                          have Ny328 := am hy328
                          clear hy328
                          have H' := am H
                          clear H
                          have p23 : 0 ≤ (x12_2 : Int) := od
                          have q23 : (x12_2 : Int) < ((x10_2.length : Int) : Int) := od
                          obtain ⟨go23, co23, eo23, gb23, gl23, cl23, HG23⟩ := Kd.R_form HO_10.out (by omega)
                          (first | cases eo23 | (injection eo23 with ea_ en_ ec_; (first | subst ea_ | (injection ea_ with ea_; subst ea_)); subst ec_; clear en_))
                          have GB23 := am gb23
                          have GG23 := am HG23
                          clear gb23 gl23 HG23
                          obtain ⟨hx23_0, hf23_0⟩ := Kd.R_celln 0 HO_10.out (x12_2 : Int) p23 q23
                          replace p23 := eq_true p23
                          replace q23 := eq_true q23
                          have HP24 := Kd.R_putg HO_10.out (x12_2 : Int) 1099511627776
                          go_wp2_with (first | ((with_reducible refine gate_store (t := 3) (p := 45) rfl ?_); refine store_event (t := 3) (p := 45) (v := ?vo_w25) (w1 := (wr.setCell ⟨go23, (x12_2 : Int).toNat, none⟩ (.int .i64 1099511627776))) ?hg ?ho ?hn ?hr ?_; (case ho => rfl); (case hg => rfl); (case hn => rfl); (case hr => first | (go_simp; done) | (go_simp; rfl)); intro w25 hw; have hg : wr.grownBy w25 (some go23) := (by rw [hw]; exact HP24.2); have hp_ : Kd.R (Kd.int .i64) 3 w25 wq.heap.size (fun k_ => some k_ ≠ (v326 : Value).ownBlock) (.slice (some ⟨go23, 0, none⟩) x10_2.length co23) y328 := (by rw [hw, Ny328.out]; exact HP24.1); clear HP24; replace HO_8 := am (Kd.R_over' (v := (.slice (some ⟨go23, 0, none⟩) x10_2.length co23)) (kR HO_8.out) (Kd.R_typed HO_10.out) (by decide) hg); replace HO_10 := am (hp_); replace HO_11 := am (Kd.R_after (v := (.slice (some ⟨go23, 0, none⟩) x10_2.length co23)) (v1 := (.slice (some ⟨go23, 0, none⟩) x10_2.length co23)) (ok := (fun _ => True)) (kR (Kd.R_mono HO_11.out (fun _ hk => ⟨trivial, hk⟩))) hg (.inl rfl)); replace HB := am ((by rw [hw]; exact below_set (HB.out) GB23.out : Below wq.heap.size wq w25)); clear hg hw hp_))
                          go_loopg [13] k2 (fun kq v13 w' => ∃ (x10_3 : List Int) (x11_3 : List Int) (x13_3 : Int), v13 = .int .i64 x13_3 ∧ Aside0 (impl_fewest.l2 l0 kq a1 t319 (t319.length : Int) x10_3 x11_3 x12_2 x13_3 = some r) ∧ Aside0 (kq ≤ k2) ∧ Aside0 (Kd.R k74 74 w' wq.heap.size (fun _ => True) (.slice Ao13 t319.length co13) t319) ∧ Aside0 (Kd.R (Kd.int .i64) 3 w' wq.heap.size (fun k_ => some k_ ≠ (v326 : Value).ownBlock) (.slice (some ⟨go23, 0, none⟩) x10_2.length co23) x10_3) ∧ Aside0 (Kd.R (Kd.int .i64) 3 w' wq.heap.size (fun k_ => some k_ ≠ ((.slice (some ⟨go23, 0, none⟩) x10_2.length co23) : Value).ownBlock) v326 x11_3) ∧ Aside0 (Below wq.heap.size wq w'))
                          case atStart => exact ⟨(y328), (x11_2), (1), (by first | rfl | (simp; done) | (simp [*]; done)), H', ⟨Nat.le_refl _⟩, ⟨kR HO_8.out⟩, ⟨kR HO_10.out⟩, ⟨kR (Kd.R_mono HO_11.out (fun _ hk => hk.2))⟩, ⟨bB⟩⟩
                          case round =>
                            clear H'
                            try clear c1
                            try clear c2
                            try clear p2
                            try clear q2
                            try clear hx2
                            try clear hf2
                            try clear c3
                            try clear c3b0
                            try clear p3
                            try clear q3
                            try clear hx3
                            try clear c4
                            try clear c4b0
                            try clear c5
                            try clear c5b0
                            try clear p6
                            try clear c7
                            try clear c8
                            try clear c8b0
                            try clear c8b1
                            try clear c9
                            try clear c9b0
                            try clear c9b1
                            try clear c10
                            try clear c10b0
                            try clear c10b1
                            try clear c11
                            try clear c11b0
                            try clear c11b1
                            try clear c20
                            try clear c20b0
                            try clear c21
                            try clear c21b0
                            try clear c22
                            try clear c22b0
                            try clear p23
                            try clear q23
                            try clear hx23
                            try clear hf23
                            try clear hx23_0
                            try clear hx318_0
                            try clear p2
                            try clear p23
                            try clear p3
                            try clear p318
                            try clear p6
                            try clear q23
                            try clear q3
                            try clear q318
                            obtain ⟨x10_3, x11_3, x13_3, rfl, HA, HK3, HO_8, HO_10, HO_11, HB⟩ := hrel
                            have hl10_3 := (Kd.R_reads' HO_10.out).1
                            rw [hl10_3] at HO_10
                            (try simp only [hl10_3])
                            (try simp only [hl10_3] at HO_8)
                            (try simp only [hl10_3] at HO_11)
                            cases gk with
                            | zero => exact absurd HA.out (by simp [impl_fewest.l2])
                            | succ k3 =>
                              have H := HA.out
                              clear HA
                              simp only [impl_fewest.l2] at H
                              have HC26 := am H
                              clear H
                              go_upto_region 15 with (fail)
                              go_cut [54] (fun v54 wc => ∃ (kq : Nat) (x54_25 : Bool), v54 = .bool x54_25 ∧ Aside0 (impl_fewest.j3 l0 kq a1 t319 (t319.length : Int) x10_3 x11_3 x12_2 x13_3 x54_25 = some r) ∧ Aside0 (kq ≤ k3) ∧ Aside0 (Kd.R k74 74 wc wq.heap.size (fun _ => True) (.slice Ao13 t319.length co13) t319) ∧ Aside0 (Kd.R (Kd.int .i64) 3 wc wq.heap.size (fun k_ => some k_ ≠ (v326 : Value).ownBlock) (.slice (some ⟨go23, 0, none⟩) x10_3.length co23) x10_3) ∧ Aside0 (Kd.R (Kd.int .i64) 3 wc wq.heap.size (fun k_ => some k_ ≠ ((.slice (some ⟨go23, 0, none⟩) x10_3.length co23) : Value).ownBlock) v326 x11_3) ∧ Aside0 (Below wq.heap.size wq wc))
                              case first =>
                                have H := HC26.out
                                clear HC26
                                by_cases c27 : x13_3 ≤ 60
                                · rw [if_pos c27] at H
                                  have c27b0 : decide (x13_3 ≤ 60) = true := decide_eq_true c27
                                  clear c27
                                  (first | rw [c27b0] | (simp only [i64_w, i32_w]; rw [c27b0]) | skip)
                                  have H' := am H
                                  clear H
                                  go_wp2
                                  go_meet
                                  case rel => exact ⟨_, (decide ((wrap64 (x12_2 + x13_3)) ≤ (t319.length : Int))), (by first | rfl | (simp; done) | (simp [*]; done)), H', ⟨by have := HK1.out; have := HK2.out; have := HK3.out; first | omega | exact Nat.le_refl _⟩, ⟨by (try simp only [hl10_3]); (with_reducible repeat (first | apply Kd.R_alloc | apply Kd.R_drewN | apply Kd.R_drew)); exact HO_8.out⟩, ⟨by (try simp only [hl10_3]); (with_reducible repeat (first | apply Kd.R_alloc | apply Kd.R_drewN | apply Kd.R_drew)); exact HO_10.out⟩, ⟨by (try simp only [hl10_3]); (with_reducible repeat (first | apply Kd.R_alloc | apply Kd.R_drewN | apply Kd.R_drew)); exact HO_11.out⟩, ⟨bB⟩⟩
                                · rw [if_neg c27] at H
                                  have c27b0 : decide (x13_3 ≤ 60) = false := decide_eq_false c27
                                  clear c27
                                  (first | rw [c27b0] | (simp only [i64_w, i32_w]; rw [c27b0]) | skip)
                                  have H' := am H
                                  clear H
                                  go_wp2
                                  go_meet
                                  case rel => exact ⟨_, (false), (by first | rfl | (simp; done) | (simp [*]; done)), H', ⟨by have := HK1.out; have := HK2.out; have := HK3.out; first | omega | exact Nat.le_refl _⟩, ⟨by (try simp only [hl10_3]); (with_reducible repeat (first | apply Kd.R_alloc | apply Kd.R_drewN | apply Kd.R_drew)); exact HO_8.out⟩, ⟨by (try simp only [hl10_3]); (with_reducible repeat (first | apply Kd.R_alloc | apply Kd.R_drewN | apply Kd.R_drew)); exact HO_10.out⟩, ⟨by (try simp only [hl10_3]); (with_reducible repeat (first | apply Kd.R_alloc | apply Kd.R_drewN | apply Kd.R_drew)); exact HO_11.out⟩, ⟨bB⟩⟩
                              case rest =>
                                clear HC26
                                try clear c1
                                try clear c2
                                try clear p2
                                try clear q2
                                try clear hx2
                                try clear hf2
                                try clear c3
                                try clear c3b0
                                try clear p3
                                try clear q3
                                try clear hx3
                                try clear c4
                                try clear c4b0
                                try clear c5
                                try clear c5b0
                                try clear p6
                                try clear c7
                                try clear c8
                                try clear c8b0
                                try clear c8b1
                                try clear c9
                                try clear c9b0
                                try clear c9b1
                                try clear c10
                                try clear c10b0
                                try clear c10b1
                                try clear c11
                                try clear c11b0
                                try clear c11b1
                                try clear c20
                                try clear c20b0
                                try clear c21
                                try clear c21b0
                                try clear c22
                                try clear c22b0
                                try clear p23
                                try clear q23
                                try clear hx23
                                try clear hf23
                                try clear c27
                                try clear c27b0
                                try clear hx23_0
                                try clear hx318_0
                                try clear p2
                                try clear p23
                                try clear p3
                                try clear p318
                                try clear p6
                                try clear q2
                                try clear q23
                                try clear q3
                                try clear q318
                                obtain ⟨kq, x54_25, rfl, HA, HJ25, HO_8, HO_10, HO_11, HB⟩ := hcut
                                cases kq with
                                | zero => exact absurd HA.out (by simp [impl_fewest.j3])
                                | succ kj25 =>
                                  have H := HA.out
                                  clear HA
                                  simp only [impl_fewest.j3] at H
                                  by_cases c28 : x54_25 = true
                                  · subst c28
                                    have H1 : (if 0 ≤ x12_2 then (if x12_2 < (t319.length : Int) then (if 0 ≤ (wrap64 ((wrap64 (x12_2 + x13_3)) - 1)) then (if (wrap64 ((wrap64 (x12_2 + x13_3)) - 1)) < (t319.length : Int) then (if 0 ≤ ((rd_T74 t319 x12_2).f1) then (if ((rd_T74 t319 x12_2).f1) ≤ ((rd_T74 t319 (wrap64 ((wrap64 (x12_2 + x13_3)) - 1))).f2) then (if ((rd_T74 t319 (wrap64 ((wrap64 (x12_2 + x13_3)) - 1))).f2) ≤ (a1.size : Int) then (if (MapS.kb (a1.extract (((rd_T74 t319 x12_2).f1) : Int).toNat (((rd_T74 t319 (wrap64 ((wrap64 (x12_2 + x13_3)) - 1))).f2) : Int).toNat) ∈ MapS.ks l0) then (if 0 ≤ (wrap64 (x12_2 + x13_3)) then (if (wrap64 (x12_2 + x13_3)) < (x10_3.length : Int) then (if x12_2 < (x10_3.length : Int) then (if (wrap64 (2 + (rd x10_3 (wrap64 (x12_2 + x13_3))))) ≤ (rd x10_3 x12_2) then (if x12_2 < (x11_3.length : Int) then (impl_fewest.l2 l0 kj25 a1 t319 (t319.length : Int) (x10_3.set (x12_2 : Int).toNat (wrap64 (2 + (rd x10_3 (wrap64 (x12_2 + x13_3)))))) (x11_3.set (x12_2 : Int).toNat x13_3) x12_2 (wrap64 (x13_3 + 1))) else (none)) else (impl_fewest.l2 l0 kj25 a1 t319 (t319.length : Int) x10_3 x11_3 x12_2 (wrap64 (x13_3 + 1)))) else (none)) else (none)) else (none)) else (if x13_3 > 1 then (impl_fewest.l2 l0 kj25 a1 t319 (t319.length : Int) x10_3 x11_3 x12_2 (wrap64 (x13_3 + 1))) else (if 0 ≤ (wrap64 (x12_2 + x13_3)) then (if (wrap64 (x12_2 + x13_3)) < (x10_3.length : Int) then (if x12_2 < (x10_3.length : Int) then (if (wrap64 (3 + (rd x10_3 (wrap64 (x12_2 + x13_3))))) ≤ (rd x10_3 x12_2) then (if x12_2 < (x11_3.length : Int) then (impl_fewest.l2 l0 kj25 a1 t319 (t319.length : Int) (x10_3.set (x12_2 : Int).toNat (wrap64 (3 + (rd x10_3 (wrap64 (x12_2 + x13_3)))))) (x11_3.set (x12_2 : Int).toNat x13_3) x12_2 (wrap64 (x13_3 + 1))) else (none)) else (impl_fewest.l2 l0 kj25 a1 t319 (t319.length : Int) x10_3 x11_3 x12_2 (wrap64 (x13_3 + 1)))) else (none)) else (none)) else (none)))) else (none)) else (none)) else (none)) else (none)) else (none)) else (none)) else (none)) = some r := by rw [if_pos rfl] at H; exact H
                                    clear H
                                    have H := H1
                                    clear H1
                                    by_cases c29 : 0 ≤ x12_2
                                    · rw [if_pos c29] at H
                                      have c29b0 : decide (0 ≤ x12_2) = true := decide_eq_true c29
                                      clear c29
                                      by_cases c30 : x12_2 < (t319.length : Int)
                                      · rw [if_pos c30] at H
                                        have c30b0 : decide (x12_2 < (t319.length : Int)) = true := decide_eq_true c30
                                        clear c30
                                        obtain ⟨ji31, hji31⟩ : ∃ j_ : Int, (wrap64 ((wrap64 (x12_2 + x13_3)) - 1)) = j_ := ⟨_, rfl⟩
                                        replace H : (if 0 ≤ (ji31) then (if (ji31) < (t319.length : Int) then (if 0 ≤ ((rd_T74 t319 x12_2).f1) then (if ((rd_T74 t319 x12_2).f1) ≤ ((rd_T74 t319 (ji31)).f2) then (if ((rd_T74 t319 (ji31)).f2) ≤ (a1.size : Int) then (if (MapS.kb (a1.extract (((rd_T74 t319 x12_2).f1) : Int).toNat (((rd_T74 t319 (ji31)).f2) : Int).toNat) ∈ MapS.ks l0) then (if 0 ≤ (wrap64 (x12_2 + x13_3)) then (if (wrap64 (x12_2 + x13_3)) < (x10_3.length : Int) then (if x12_2 < (x10_3.length : Int) then (if (wrap64 (2 + (rd x10_3 (wrap64 (x12_2 + x13_3))))) ≤ (rd x10_3 x12_2) then (if x12_2 < (x11_3.length : Int) then (impl_fewest.l2 l0 kj25 a1 t319 (t319.length : Int) (x10_3.set (x12_2 : Int).toNat (wrap64 (2 + (rd x10_3 (wrap64 (x12_2 + x13_3)))))) (x11_3.set (x12_2 : Int).toNat x13_3) x12_2 (wrap64 (x13_3 + 1))) else (none)) else (impl_fewest.l2 l0 kj25 a1 t319 (t319.length : Int) x10_3 x11_3 x12_2 (wrap64 (x13_3 + 1)))) else (none)) else (none)) else (none)) else (if x13_3 > 1 then (impl_fewest.l2 l0 kj25 a1 t319 (t319.length : Int) x10_3 x11_3 x12_2 (wrap64 (x13_3 + 1))) else (if 0 ≤ (wrap64 (x12_2 + x13_3)) then (if (wrap64 (x12_2 + x13_3)) < (x10_3.length : Int) then (if x12_2 < (x10_3.length : Int) then (if (wrap64 (3 + (rd x10_3 (wrap64 (x12_2 + x13_3))))) ≤ (rd x10_3 x12_2) then (if x12_2 < (x11_3.length : Int) then (impl_fewest.l2 l0 kj25 a1 t319 (t319.length : Int) (x10_3.set (x12_2 : Int).toNat (wrap64 (3 + (rd x10_3 (wrap64 (x12_2 + x13_3)))))) (x11_3.set (x12_2 : Int).toNat x13_3) x12_2 (wrap64 (x13_3 + 1))) else (none)) else (impl_fewest.l2 l0 kj25 a1 t319 (t319.length : Int) x10_3 x11_3 x12_2 (wrap64 (x13_3 + 1)))) else (none)) else (none)) else (none)))) else (none)) else (none)) else (none)) else (none)) else (none)) = some r := by first | (rw [hji31] at H; exact H) | (simp only [hji31] at H ⊢; exact H)
                                        have hji31w : (IntKind.i64.wrap ((wrap64 (x12_2 + x13_3)) - 1)) = ji31 := (i64_w _).trans hji31
                                        by_cases c32 : 0 ≤ (ji31)
                                        · rw [if_pos c32] at H
                                          have c32b0 : decide (0 ≤ (ji31)) = true := decide_eq_true c32
                                          clear c32
                                          by_cases c33 : (ji31) < (t319.length : Int)
                                          · rw [if_pos c33] at H
                                            have c33b0 : decide ((ji31) < (t319.length : Int)) = true := decide_eq_true c33
                                            clear c33
                                            by_cases c34 : 0 ≤ ((rd_T74 t319 x12_2).f1)
                                            · rw [if_pos c34] at H
                                              have c34b0 := eq_true c34
                                              have c34b1 : decide (0 ≤ ((rd_T74 t319 x12_2).f1)) = true := decide_eq_true c34
                                              clear c34
                                              by_cases c35 : ((rd_T74 t319 x12_2).f1) ≤ ((rd_T74 t319 (ji31)).f2)
                                              · rw [if_pos c35] at H
                                                have c35b0 := eq_true c35
                                                have c35b1 : decide (((rd_T74 t319 x12_2).f1) ≤ ((rd_T74 t319 (ji31)).f2)) = true := decide_eq_true c35
                                                clear c35
                                                by_cases c36 : ((rd_T74 t319 (ji31)).f2) ≤ (a1.size : Int)
                                                · rw [if_pos c36] at H
                                                  have c36b0 := eq_true c36
                                                  have c36b1 : decide (((rd_T74 t319 (ji31)).f2) ≤ (a1.size : Int)) = true := decide_eq_true c36
                                                  clear c36
                                                  by_cases c37 : (MapS.kb (a1.extract (((rd_T74 t319 x12_2).f1) : Int).toNat (((rd_T74 t319 (ji31)).f2) : Int).toNat) ∈ MapS.ks l0)
                                                  · rw [if_pos c37] at H
                                                    have c37b0 : decide (MapS.kb (a1.extract (((rd_T74 t319 x12_2).f1) : Int).toNat (((rd_T74 t319 (ji31)).f2) : Int).toNat) ∈ MapS.ks l0) = true := decide_eq_true c37
                                                    clear c37
                                                    obtain ⟨ji38, hji38⟩ : ∃ j_ : Int, (wrap64 (x12_2 + x13_3)) = j_ := ⟨_, rfl⟩
                                                    replace H : (if 0 ≤ (ji38) then (if (ji38) < (x10_3.length : Int) then (if x12_2 < (x10_3.length : Int) then (if (wrap64 (2 + (rd x10_3 (ji38)))) ≤ (rd x10_3 x12_2) then (if x12_2 < (x11_3.length : Int) then (impl_fewest.l2 l0 kj25 a1 t319 (t319.length : Int) (x10_3.set (x12_2 : Int).toNat (wrap64 (2 + (rd x10_3 (ji38))))) (x11_3.set (x12_2 : Int).toNat x13_3) x12_2 (wrap64 (x13_3 + 1))) else (none)) else (impl_fewest.l2 l0 kj25 a1 t319 (t319.length : Int) x10_3 x11_3 x12_2 (wrap64 (x13_3 + 1)))) else (none)) else (none)) else (none)) = some r := by first | (rw [hji38] at H; exact H) | (simp only [hji38] at H ⊢; exact H)
                                                    have hji38w : (IntKind.i64.wrap (x12_2 + x13_3)) = ji38 := (i64_w _).trans hji38
                                                    have hji31x : (IntKind.i64.wrap (ji38 - 1)) = ji31 := by rw [← hji38]; exact hji31w
                                                    have hji31y : (wrap64 (ji38 - 1)) = ji31 := by rw [← hji38]; exact hji31
                                                    by_cases c39 : 0 ≤ (ji38)
                                                    · rw [if_pos c39] at H
                                                      have c39b0 : decide (0 ≤ (ji38)) = true := decide_eq_true c39
                                                      clear c39
                                                      by_cases c40 : (ji38) < (x10_3.length : Int)
                                                      · rw [if_pos c40] at H
                                                        have c40b0 : decide ((ji38) < (x10_3.length : Int)) = true := decide_eq_true c40
                                                        clear c40
                                                        by_cases c41 : x12_2 < (x10_3.length : Int)
                                                        · rw [if_pos c41] at H
                                                          have c41b0 : decide (x12_2 < (x10_3.length : Int)) = true := decide_eq_true c41
                                                          clear c41
                                                          by_cases c42 : (wrap64 (2 + (rd x10_3 (ji38)))) ≤ (rd x10_3 x12_2)
                                                          · rw [if_pos c42] at H
                                                            have c42b0 : decide ((wrap64 (2 + (rd x10_3 (ji38)))) ≤ (rd x10_3 x12_2)) = true := decide_eq_true c42
                                                            clear c42
                                                            obtain ⟨y333, hy333⟩ : ∃ y_ : List Int, y_ = (x10_3.set (x12_2 : Int).toNat (wrap64 (2 + (rd x10_3 (ji38))))) := ⟨_, rfl⟩
                                                            replace H : (if x12_2 < (x11_3.length : Int) then (impl_fewest.l2 l0 kj25 a1 t319 (t319.length : Int) y333 (x11_3.set (x12_2 : Int).toNat x13_3) x12_2 (wrap64 (x13_3 + 1))) else (none)) = some r := by first | (rw [hy333]; with_reducible exact H) | (have H2_ := (Option.bind_some _ _).symm.trans H; rw [hy333]; with_reducible exact H2_) | (have H2_ := (Option.bind_some _ _).symm.trans H; with_reducible exact H2_) | with_reducible exact H | (rw [hy333]; exact H) | exact H
                                                            have Ny333 := am hy333
                                                            clear hy333
                                                            by_cases c44 : x12_2 < (x11_3.length : Int)
                                                            · rw [if_pos c44] at H
                                                              have c44b0 : decide (x12_2 < (x11_3.length : Int)) = true := decide_eq_true c44
                                                              clear c44
                                                              obtain ⟨y334, hy334⟩ : ∃ y_ : List Int, y_ = (x11_3.set (x12_2 : Int).toNat x13_3) := ⟨_, rfl⟩
                                                              replace H : (impl_fewest.l2 l0 kj25 a1 t319 (t319.length : Int) y333 y334 x12_2 (wrap64 (x13_3 + 1))) = some r := by first | (rw [hy334]; with_reducible exact H) | (have H2_ := (Option.bind_some _ _).symm.trans H; rw [hy334]; with_reducible exact H2_) | (have H2_ := (Option.bind_some _ _).symm.trans H; with_reducible exact H2_) | with_reducible exact H | (rw [hy334]; exact H) | exact H
                                                              have Ny334 := am hy334
                                                              clear hy334
                                                              have H' := am H
                                                              clear H
                                                              try go_wp2
                                                              replace HO_8 := am (Kd.R_drew HO_8.out)
                                                              replace HO_10 := am (Kd.R_drew HO_10.out)
                                                              replace HO_11 := am (Kd.R_drew HO_11.out)
                                                              replace HB := am (below_drew1 HB.out)
                                                              have p329 : 0 ≤ (x12_2 : Int) := od
                                                              have q329 : x12_2 < (t319.length : Int) := od
                                                              obtain ⟨ad329, e329, hx329_0, hx329_1, hx329_2, hx329_3⟩ := at_T74 (Kd.R_reads' HO_8.out).2.2 x12_2 p329 q329
                                                              cases e329
                                                              replace p329 := eq_true p329
                                                              replace q329 := eq_true q329
                                                              have p330 : 0 ≤ ((ji31) : Int) := od
                                                              have q330 : (ji31) < (t319.length : Int) := od
                                                              obtain ⟨ad330, e330, hx330_0, hx330_1, hx330_2, hx330_3⟩ := at_T74 (Kd.R_reads' HO_8.out).2.2 (ji31) p330 q330
                                                              obtain rfl : ad329 = ad330 := (by injection e330)
                                                              replace p330 := eq_true p330
                                                              replace q330 := eq_true q330
                                                              refine start_ (n := 18) (S := fun w' => w'.cell? (ad329.add ((x12_2).toNat * 4)) = some (.int .i64 ((rd_T74 t319 x12_2).f0)) ∧ w'.cell? ⟨(ad329.add ((x12_2).toNat * 4)).block, (ad329.add ((x12_2).toNat * 4)).off + 1, none⟩ = some (.int .i64 ((rd_T74 t319 x12_2).f1)) ∧ w'.cell? ⟨(ad329.add ((x12_2).toNat * 4)).block, (ad329.add ((x12_2).toNat * 4)).off + 2, none⟩ = some (.int .i64 ((rd_T74 t319 x12_2).f2)) ∧ w'.cell? ⟨(ad329.add ((x12_2).toNat * 4)).block, (ad329.add ((x12_2).toNat * 4)).off + 3, none⟩ = some (.bool ((rd_T74 t319 x12_2).f3)) ∧ w'.cell? (ad329.add (((ji31)).toNat * 4)) = some (.int .i64 ((rd_T74 t319 (ji31)).f0)) ∧ w'.cell? ⟨(ad329.add (((ji31)).toNat * 4)).block, (ad329.add (((ji31)).toNat * 4)).off + 1, none⟩ = some (.int .i64 ((rd_T74 t319 (ji31)).f1)) ∧ w'.cell? ⟨(ad329.add (((ji31)).toNat * 4)).block, (ad329.add (((ji31)).toNat * 4)).off + 2, none⟩ = some (.int .i64 ((rd_T74 t319 (ji31)).f2)) ∧ w'.cell? ⟨(ad329.add (((ji31)).toNat * 4)).block, (ad329.add (((ji31)).toNat * 4)).off + 3, none⟩ = some (.bool ((rd_T74 t319 (ji31)).f3)) ∧ MapS.HasAt w' gm (MapS.ms l0)) (ds := []) #[false, false, false, false, false, false, false, false, false, false, false, false, false, false, false, false, false, false] (by kernel_rfl) rfl rfl ⟨hx329_0, hx329_1, hx329_2, hx329_3, hx330_0, hx330_1, hx330_2, hx330_3, MapS.has_below HM.out HB.out⟩ (fun hHeld => ?_); refine with_tabW impl_fewest.tab18 impl_fewest.bits18 (fun HT_ HW_ => ?_)
                                                              generalize wc.drew = w46 at HO_8 HO_10 HO_11 HB hx329_0 hx329_1 hx329_2 hx329_3 hx330_0 hx330_1 hx330_2 hx330_3 hHeld ⊢
                                                              refine pq 0 57 HT_.out ?_
                                                              refine pq 1 58 HT_.out ?_
                                                              refine pq 2 59 HT_.out ?_
                                                              refine pq 3 60 HT_.out ?_
                                                              refine pq 4 61 HT_.out ?_
                                                              refine pq 5 62 HT_.out ?_
                                                              refine pq 7 64 HT_.out ?_
                                                              refine pq 8 65 HT_.out ?_
                                                              refine pq 9 66 HT_.out ?_
                                                              refine pq 10 67 HT_.out ?_
                                                              refine pq 11 68 HT_.out ?_
                                                              refine pq 12 69 HT_.out ?_
                                                              refine pq 13 70 HT_.out ?_
                                                              refine take_ (i := 6) (N := some 63) (v := ?_) (a' := ?_) #[true, true, true, true, true, true, true, true, true, true, true, true, true, true, false, false, false, false] rfl rfl (take_ofW HT_.out HW_.out (by kernel_rfl)) (fun _ _ _ h => h) (Or.inl ⟨by rfl, ?_⟩) hHeld ?_ ?_
                                                              rotate_left
                                                              · rintro w' ⟨s0, s1, s2, s3, s4, s5, s6, s7, s8⟩
                                                                go_simp
                                                                with_reducible rfl
                                                              rotate_left
                                                              · simp only [Act.put, List.setIfInBounds_toArray, List.set_cons_zero, List.set_cons_succ, i64_w, i32_w]
                                                                rfl
                                                              refine take_ (i := 14) (N := some 71) (v := ?_) (a' := ?_) #[true, true, true, true, true, true, true, true, true, true, true, true, true, true, true, false, false, false] rfl rfl (take_ofW HT_.out HW_.out (by kernel_rfl)) (fun _ _ _ h => h) (Or.inl ⟨by rfl, ?_⟩) hHeld ?_ ?_
                                                              rotate_left
                                                              · rintro w' ⟨s0, s1, s2, s3, s4, s5, s6, s7, s8⟩
                                                                go_simp
                                                                with_reducible rfl
                                                              rotate_left
                                                              · simp only [Act.put, List.setIfInBounds_toArray, List.set_cons_zero, List.set_cons_succ, i64_w, i32_w]
                                                                rfl
                                                              refine pq 15 72 HT_.out ?_
                                                              refine take_ (i := 16) (N := some 73) (v := ?_) (a' := ?_) #[true, true, true, true, true, true, true, true, true, true, true, true, true, true, true, true, true, false] rfl rfl (take_ofW HT_.out HW_.out (by kernel_rfl)) (fun _ _ _ h => h) (Or.inl ⟨by rfl, ?_⟩) hHeld ?_ ?_
                                                              rotate_left
                                                              · rintro w' ⟨s0, s1, s2, s3, s4, s5, s6, s7, s8⟩
                                                                have hq_ := MapS.look l0 s8 (MapS.fits_all HSZ.out) (a1.extract (((rd_T74 t319 x12_2).f1) : Int).toNat (((rd_T74 t319 (ji31)).f2) : Int).toNat) (MapS.ext_fits HSZ.out _ _)
                                                                first | (go_simp; with_reducible rfl) | (go_simp; rfl)
                                                              rotate_left
                                                              · simp only [Act.put, List.setIfInBounds_toArray, List.set_cons_zero, List.set_cons_succ, i64_w, i32_w]
                                                                rfl
                                                              refine pq 17 74 HT_.out ?_
                                                              refine done_ (done_of HT_.out (by kernel_rfl)) ?_
                                                              have p331 : 0 ≤ ((ji38) : Int) := od
                                                              have q331 : (ji38) < (x10_3.length : Int) := od
                                                              obtain ⟨ad331, e331, hx331_0⟩ := Kd.at_int (Kd.R_reads' HO_10.out).2.2 (ji38) p331 q331
                                                              obtain rfl : (⟨go23, 0, none⟩ : Addr) = ad331 := (by injection e331)
                                                              (first | simp only [add_plain] at hx331_0 | simp only [add_at] at hx331_0 | simp only [Addr.add, Nat.zero_add] at hx331_0 | skip)
                                                              replace p331 := eq_true p331
                                                              replace q331 := eq_true q331
                                                              have p332 : 0 ≤ (x12_2 : Int) := od
                                                              have q332 : x12_2 < (x10_3.length : Int) := od
                                                              obtain ⟨ad332, e332, hx332_0⟩ := Kd.at_int (Kd.R_reads' HO_10.out).2.2 x12_2 p332 q332
                                                              obtain rfl : (⟨go23, 0, none⟩ : Addr) = ad332 := (by injection e332)
                                                              (first | simp only [add_plain] at hx332_0 | simp only [add_at] at hx332_0 | simp only [Addr.add, Nat.zero_add] at hx332_0 | skip)
                                                              replace p332 := eq_true p332
                                                              replace q332 := eq_true q332
                                                              have p43 : 0 ≤ (x12_2 : Int) := od
                                                              have q43 : (x12_2 : Int) < ((x10_3.length : Int) : Int) := od
                                                              obtain ⟨hx43_0, hf43_0⟩ := Kd.R_celln 0 HO_10.out (x12_2 : Int) p43 q43
                                                              replace p43 := eq_true p43
                                                              replace q43 := eq_true q43
                                                              obtain ⟨hy47_, hz47_⟩ := Kd.R_celln 0 HO_10.out (x12_2 : Int) (od) (od)
                                                              have HP47 := Kd.R_putg HO_10.out (x12_2 : Int) (wrap64 (2 + (rd x10_3 (ji38))))
                                                              try go_wp2_with (first | ((with_reducible refine gate_store (t := 3) (p := 97) rfl ?_); refine store_event (t := 3) (p := 97) (v := ?vo_w48) (w1 := (w46.setCell ⟨go23, (x12_2 : Int).toNat, none⟩ (.int .i64 (wrap64 (2 + (rd x10_3 (ji38))))))) ?hg ?ho ?hn ?hr ?_; (case ho => rfl); (case hg => rfl); (case hn => rfl); (case hr => first | (go_simp; done) | (go_simp; rfl)); intro w48 hw; have hg : w46.grownBy w48 (some go23) := (by rw [hw]; exact HP47.2); have hp_ : Kd.R (Kd.int .i64) 3 w48 wq.heap.size (fun k_ => some k_ ≠ (v326 : Value).ownBlock) (.slice (some ⟨go23, 0, none⟩) x10_3.length co23) y333 := (by rw [hw, Ny333.out]; exact HP47.1); clear HP47; replace HO_8 := am (Kd.R_over' (v := (.slice (some ⟨go23, 0, none⟩) x10_3.length co23)) (kR HO_8.out) (Kd.R_typed HO_10.out) (by decide) hg); replace HO_10 := am (hp_); replace HO_11 := am (Kd.R_after (v := (.slice (some ⟨go23, 0, none⟩) x10_3.length co23)) (v1 := (.slice (some ⟨go23, 0, none⟩) x10_3.length co23)) (ok := (fun _ => True)) (kR (Kd.R_mono HO_11.out (fun _ hk => ⟨trivial, hk⟩))) hg (.inl rfl)); replace HB := am ((by rw [hw]; exact below_set (HB.out) GB23.out : Below wq.heap.size wq w48)); clear hg hw hp_; have p45 : 0 ≤ (x12_2 : Int) := od; have q45 : (x12_2 : Int) < ((x11_3.length : Int) : Int) := od; obtain ⟨go45, co45, eo45, gb45, gl45, cl45, HG45⟩ := Kd.R_form HO_11.out (by omega); (first | cases eo45 | (injection eo45 with ea_ en_ ec_; (first | subst ea_ | (injection ea_ with ea_; subst ea_)); subst ec_; clear en_)); have GB45 := am gb45; have GG45 := am HG45; clear gb45 gl45 HG45; obtain ⟨hx45_0, hf45_0⟩ := Kd.R_celln 0 HO_11.out (x12_2 : Int) p45 q45; replace p45 := eq_true p45; replace q45 := eq_true q45; have n_ := am (Kd.R_mono (ok' := (fun k_ => some k_ ≠ (.slice (some ⟨go23, 0, none⟩) x10_3.length co23 : Value).ownBlock)) HO_11.out (fun k_ hk => hk.2)); clear HO_11; have HO_11 := n_; clear n_; obtain ⟨hy49_, hz49_⟩ := Kd.R_celln 0 HO_11.out (x12_2 : Int) (od) (od); have HP49 := Kd.R_putg HO_11.out (x12_2 : Int) x13_3) | ((with_reducible refine gate_store (t := 3) (p := 98) rfl ?_); refine store_event (t := 3) (p := 98) (v := ?vo_w50) (w1 := (w48.setCell ⟨go45, (x12_2 : Int).toNat, none⟩ (.int .i64 x13_3))) ?hg ?ho ?hn ?hr ?_; (case ho => rfl); (case hg => rfl); (case hn => rfl); (case hr => first | (go_simp; done) | (go_simp; rfl)); intro w50 hw; have hg : w48.grownBy w50 (some go45) := (by rw [hw]; exact HP49.2); have hp_ : Kd.R (Kd.int .i64) 3 w50 wq.heap.size (fun k_ => some k_ ≠ (.slice (some ⟨go23, 0, none⟩) x10_3.length co23 : Value).ownBlock) (.slice (some ⟨go45, 0, none⟩) x11_3.length co45) y334 := (by rw [hw, Ny334.out]; exact HP49.1); clear HP49; replace HO_8 := am (Kd.R_over' (v := (.slice (some ⟨go45, 0, none⟩) x11_3.length co45)) (kR HO_8.out) (Kd.R_typed HO_11.out) (by decide) hg); replace HO_10 := am (Kd.R_after (v := (.slice (some ⟨go45, 0, none⟩) x11_3.length co45)) (v1 := (.slice (some ⟨go45, 0, none⟩) x11_3.length co45)) (ok := (fun _ => True)) (kR (Kd.R_mono HO_10.out (fun _ hk => ⟨trivial, hk⟩))) hg (.inl rfl)); replace HO_11 := am (hp_); replace HB := am ((by rw [hw]; exact below_set (HB.out) GB45.out : Below wq.heap.size wq w50)); clear hg hw hp_))
                                                              (try simp only [← hl10_3])
                                                              go_roundg kj25
                                                              case measure => have := HK1.out; have := HK2.out; have := HK3.out; have := HJ25.out; omega
                                                              case rel => exact ⟨(y333), (y334), (wrap64 (x13_3 + 1)), (by first | rfl | (simp; done) | (simp [*]; done)), H', ⟨by have := HK1.out; have := HK2.out; have := HK3.out; have := HJ25.out; omega⟩, ⟨by (try simp only [hl10_3]); (with_reducible repeat (first | apply Kd.R_alloc | apply Kd.R_drewN | apply Kd.R_drew)); exact HO_8.out⟩, ⟨by (try simp only [hl10_3]); (with_reducible repeat (first | apply Kd.R_alloc | apply Kd.R_drewN | apply Kd.R_drew)); exact Kd.R_mono HO_10.out (fun _ hk => hk.2)⟩, ⟨by (try simp only [hl10_3]); (with_reducible repeat (first | apply Kd.R_alloc | apply Kd.R_drewN | apply Kd.R_drew)); exact HO_11.out⟩, ⟨bB⟩⟩
                                                            · rw [if_neg c44] at H
                                                              exact absurd H (by simp)
                                                          · rw [if_neg c42] at H
                                                            have c42b0 : decide ((wrap64 (2 + (rd x10_3 (ji38)))) ≤ (rd x10_3 x12_2)) = false := decide_eq_false c42
                                                            clear c42
                                                            have H' := am H
                                                            clear H
                                                            try go_wp2
                                                            replace HO_8 := am (Kd.R_drew HO_8.out)
                                                            replace HO_10 := am (Kd.R_drew HO_10.out)
                                                            replace HO_11 := am (Kd.R_drew HO_11.out)
                                                            replace HB := am (below_drew1 HB.out)
                                                            have p329 : 0 ≤ (x12_2 : Int) := od
                                                            have q329 : x12_2 < (t319.length : Int) := od
                                                            obtain ⟨ad329, e329, hx329_0, hx329_1, hx329_2, hx329_3⟩ := at_T74 (Kd.R_reads' HO_8.out).2.2 x12_2 p329 q329
                                                            cases e329
                                                            replace p329 := eq_true p329
                                                            replace q329 := eq_true q329
                                                            have p330 : 0 ≤ ((ji31) : Int) := od
                                                            have q330 : (ji31) < (t319.length : Int) := od
                                                            obtain ⟨ad330, e330, hx330_0, hx330_1, hx330_2, hx330_3⟩ := at_T74 (Kd.R_reads' HO_8.out).2.2 (ji31) p330 q330
                                                            obtain rfl : ad329 = ad330 := (by injection e330)
                                                            replace p330 := eq_true p330
                                                            replace q330 := eq_true q330
                                                            refine start_ (n := 18) (S := fun w' => w'.cell? (ad329.add ((x12_2).toNat * 4)) = some (.int .i64 ((rd_T74 t319 x12_2).f0)) ∧ w'.cell? ⟨(ad329.add ((x12_2).toNat * 4)).block, (ad329.add ((x12_2).toNat * 4)).off + 1, none⟩ = some (.int .i64 ((rd_T74 t319 x12_2).f1)) ∧ w'.cell? ⟨(ad329.add ((x12_2).toNat * 4)).block, (ad329.add ((x12_2).toNat * 4)).off + 2, none⟩ = some (.int .i64 ((rd_T74 t319 x12_2).f2)) ∧ w'.cell? ⟨(ad329.add ((x12_2).toNat * 4)).block, (ad329.add ((x12_2).toNat * 4)).off + 3, none⟩ = some (.bool ((rd_T74 t319 x12_2).f3)) ∧ w'.cell? (ad329.add (((ji31)).toNat * 4)) = some (.int .i64 ((rd_T74 t319 (ji31)).f0)) ∧ w'.cell? ⟨(ad329.add (((ji31)).toNat * 4)).block, (ad329.add (((ji31)).toNat * 4)).off + 1, none⟩ = some (.int .i64 ((rd_T74 t319 (ji31)).f1)) ∧ w'.cell? ⟨(ad329.add (((ji31)).toNat * 4)).block, (ad329.add (((ji31)).toNat * 4)).off + 2, none⟩ = some (.int .i64 ((rd_T74 t319 (ji31)).f2)) ∧ w'.cell? ⟨(ad329.add (((ji31)).toNat * 4)).block, (ad329.add (((ji31)).toNat * 4)).off + 3, none⟩ = some (.bool ((rd_T74 t319 (ji31)).f3)) ∧ MapS.HasAt w' gm (MapS.ms l0)) (ds := []) #[false, false, false, false, false, false, false, false, false, false, false, false, false, false, false, false, false, false] (by kernel_rfl) rfl rfl ⟨hx329_0, hx329_1, hx329_2, hx329_3, hx330_0, hx330_1, hx330_2, hx330_3, MapS.has_below HM.out HB.out⟩ (fun hHeld => ?_); refine with_tabW impl_fewest.tab18 impl_fewest.bits18 (fun HT_ HW_ => ?_)
                                                            generalize wc.drew = w51 at HO_8 HO_10 HO_11 HB hx329_0 hx329_1 hx329_2 hx329_3 hx330_0 hx330_1 hx330_2 hx330_3 hHeld ⊢
                                                            refine pq 0 57 HT_.out ?_
                                                            refine pq 1 58 HT_.out ?_
                                                            refine pq 2 59 HT_.out ?_
                                                            refine pq 3 60 HT_.out ?_
                                                            refine pq 4 61 HT_.out ?_
                                                            refine pq 5 62 HT_.out ?_
                                                            refine pq 7 64 HT_.out ?_
                                                            refine pq 8 65 HT_.out ?_
                                                            refine pq 9 66 HT_.out ?_
                                                            refine pq 10 67 HT_.out ?_
                                                            refine pq 11 68 HT_.out ?_
                                                            refine pq 12 69 HT_.out ?_
                                                            refine pq 13 70 HT_.out ?_
                                                            refine take_ (i := 6) (N := some 63) (v := ?_) (a' := ?_) #[true, true, true, true, true, true, true, true, true, true, true, true, true, true, false, false, false, false] rfl rfl (take_ofW HT_.out HW_.out (by kernel_rfl)) (fun _ _ _ h => h) (Or.inl ⟨by rfl, ?_⟩) hHeld ?_ ?_
                                                            rotate_left
                                                            · rintro w' ⟨s0, s1, s2, s3, s4, s5, s6, s7, s8⟩
                                                              go_simp
                                                              with_reducible rfl
                                                            rotate_left
                                                            · simp only [Act.put, List.setIfInBounds_toArray, List.set_cons_zero, List.set_cons_succ, i64_w, i32_w]
                                                              rfl
                                                            refine take_ (i := 14) (N := some 71) (v := ?_) (a' := ?_) #[true, true, true, true, true, true, true, true, true, true, true, true, true, true, true, false, false, false] rfl rfl (take_ofW HT_.out HW_.out (by kernel_rfl)) (fun _ _ _ h => h) (Or.inl ⟨by rfl, ?_⟩) hHeld ?_ ?_
                                                            rotate_left
                                                            · rintro w' ⟨s0, s1, s2, s3, s4, s5, s6, s7, s8⟩
                                                              go_simp
                                                              with_reducible rfl
                                                            rotate_left
                                                            · simp only [Act.put, List.setIfInBounds_toArray, List.set_cons_zero, List.set_cons_succ, i64_w, i32_w]
                                                              rfl
                                                            refine pq 15 72 HT_.out ?_
                                                            refine take_ (i := 16) (N := some 73) (v := ?_) (a' := ?_) #[true, true, true, true, true, true, true, true, true, true, true, true, true, true, true, true, true, false] rfl rfl (take_ofW HT_.out HW_.out (by kernel_rfl)) (fun _ _ _ h => h) (Or.inl ⟨by rfl, ?_⟩) hHeld ?_ ?_
                                                            rotate_left
                                                            · rintro w' ⟨s0, s1, s2, s3, s4, s5, s6, s7, s8⟩
                                                              have hq_ := MapS.look l0 s8 (MapS.fits_all HSZ.out) (a1.extract (((rd_T74 t319 x12_2).f1) : Int).toNat (((rd_T74 t319 (ji31)).f2) : Int).toNat) (MapS.ext_fits HSZ.out _ _)
                                                              first | (go_simp; with_reducible rfl) | (go_simp; rfl)
                                                            rotate_left
                                                            · simp only [Act.put, List.setIfInBounds_toArray, List.set_cons_zero, List.set_cons_succ, i64_w, i32_w]
                                                              rfl
                                                            refine pq 17 74 HT_.out ?_
                                                            refine done_ (done_of HT_.out (by kernel_rfl)) ?_
                                                            have p331 : 0 ≤ ((ji38) : Int) := od
                                                            have q331 : (ji38) < (x10_3.length : Int) := od
                                                            obtain ⟨ad331, e331, hx331_0⟩ := Kd.at_int (Kd.R_reads' HO_10.out).2.2 (ji38) p331 q331
                                                            obtain rfl : (⟨go23, 0, none⟩ : Addr) = ad331 := (by injection e331)
                                                            (first | simp only [add_plain] at hx331_0 | simp only [add_at] at hx331_0 | simp only [Addr.add, Nat.zero_add] at hx331_0 | skip)
                                                            replace p331 := eq_true p331
                                                            replace q331 := eq_true q331
                                                            have p332 : 0 ≤ (x12_2 : Int) := od
                                                            have q332 : x12_2 < (x10_3.length : Int) := od
                                                            obtain ⟨ad332, e332, hx332_0⟩ := Kd.at_int (Kd.R_reads' HO_10.out).2.2 x12_2 p332 q332
                                                            obtain rfl : (⟨go23, 0, none⟩ : Addr) = ad332 := (by injection e332)
                                                            (first | simp only [add_plain] at hx332_0 | simp only [add_at] at hx332_0 | simp only [Addr.add, Nat.zero_add] at hx332_0 | skip)
                                                            replace p332 := eq_true p332
                                                            replace q332 := eq_true q332
                                                            try go_wp2
                                                            (try simp only [← hl10_3])
                                                            go_roundg kj25
                                                            case measure => have := HK1.out; have := HK2.out; have := HK3.out; have := HJ25.out; omega
                                                            case rel => exact ⟨(x10_3), (x11_3), (wrap64 (x13_3 + 1)), (by first | rfl | (simp; done) | (simp [*]; done)), H', ⟨by have := HK1.out; have := HK2.out; have := HK3.out; have := HJ25.out; omega⟩, ⟨by (try simp only [hl10_3]); (with_reducible repeat (first | apply Kd.R_alloc | apply Kd.R_drewN | apply Kd.R_drew)); exact HO_8.out⟩, ⟨by (try simp only [hl10_3]); (with_reducible repeat (first | apply Kd.R_alloc | apply Kd.R_drewN | apply Kd.R_drew)); exact HO_10.out⟩, ⟨by (try simp only [hl10_3]); (with_reducible repeat (first | apply Kd.R_alloc | apply Kd.R_drewN | apply Kd.R_drew)); exact HO_11.out⟩, ⟨bB⟩⟩
                                                        · rw [if_neg c41] at H
                                                          exact absurd H (by simp)
                                                      · rw [if_neg c40] at H
                                                        exact absurd H (by simp)
                                                    · rw [if_neg c39] at H
                                                      exact absurd H (by simp)
                                                  · rw [if_neg c37] at H
                                                    have c37b0 : decide (MapS.kb (a1.extract (((rd_T74 t319 x12_2).f1) : Int).toNat (((rd_T74 t319 (ji31)).f2) : Int).toNat) ∈ MapS.ks l0) = false := decide_eq_false c37
                                                    by_cases c52 : x13_3 > 1
                                                    · rw [if_pos c52] at H
                                                      have c52b0 : decide (1 < x13_3) = true := decide_eq_true c52
                                                      clear c52
                                                      have H' := am H
                                                      clear H
                                                      try go_wp2
                                                      replace HO_8 := am (Kd.R_drew HO_8.out)
                                                      replace HO_10 := am (Kd.R_drew HO_10.out)
                                                      replace HO_11 := am (Kd.R_drew HO_11.out)
                                                      replace HB := am (below_drew1 HB.out)
                                                      have p329 : 0 ≤ (x12_2 : Int) := od
                                                      have q329 : x12_2 < (t319.length : Int) := od
                                                      obtain ⟨ad329, e329, hx329_0, hx329_1, hx329_2, hx329_3⟩ := at_T74 (Kd.R_reads' HO_8.out).2.2 x12_2 p329 q329
                                                      cases e329
                                                      replace p329 := eq_true p329
                                                      replace q329 := eq_true q329
                                                      have p330 : 0 ≤ ((ji31) : Int) := od
                                                      have q330 : (ji31) < (t319.length : Int) := od
                                                      obtain ⟨ad330, e330, hx330_0, hx330_1, hx330_2, hx330_3⟩ := at_T74 (Kd.R_reads' HO_8.out).2.2 (ji31) p330 q330
                                                      obtain rfl : ad329 = ad330 := (by injection e330)
                                                      replace p330 := eq_true p330
                                                      replace q330 := eq_true q330
                                                      refine start_ (n := 18) (S := fun w' => w'.cell? (ad329.add ((x12_2).toNat * 4)) = some (.int .i64 ((rd_T74 t319 x12_2).f0)) ∧ w'.cell? ⟨(ad329.add ((x12_2).toNat * 4)).block, (ad329.add ((x12_2).toNat * 4)).off + 1, none⟩ = some (.int .i64 ((rd_T74 t319 x12_2).f1)) ∧ w'.cell? ⟨(ad329.add ((x12_2).toNat * 4)).block, (ad329.add ((x12_2).toNat * 4)).off + 2, none⟩ = some (.int .i64 ((rd_T74 t319 x12_2).f2)) ∧ w'.cell? ⟨(ad329.add ((x12_2).toNat * 4)).block, (ad329.add ((x12_2).toNat * 4)).off + 3, none⟩ = some (.bool ((rd_T74 t319 x12_2).f3)) ∧ w'.cell? (ad329.add (((ji31)).toNat * 4)) = some (.int .i64 ((rd_T74 t319 (ji31)).f0)) ∧ w'.cell? ⟨(ad329.add (((ji31)).toNat * 4)).block, (ad329.add (((ji31)).toNat * 4)).off + 1, none⟩ = some (.int .i64 ((rd_T74 t319 (ji31)).f1)) ∧ w'.cell? ⟨(ad329.add (((ji31)).toNat * 4)).block, (ad329.add (((ji31)).toNat * 4)).off + 2, none⟩ = some (.int .i64 ((rd_T74 t319 (ji31)).f2)) ∧ w'.cell? ⟨(ad329.add (((ji31)).toNat * 4)).block, (ad329.add (((ji31)).toNat * 4)).off + 3, none⟩ = some (.bool ((rd_T74 t319 (ji31)).f3)) ∧ MapS.HasAt w' gm (MapS.ms l0)) (ds := []) #[false, false, false, false, false, false, false, false, false, false, false, false, false, false, false, false, false, false] (by kernel_rfl) rfl rfl ⟨hx329_0, hx329_1, hx329_2, hx329_3, hx330_0, hx330_1, hx330_2, hx330_3, MapS.has_below HM.out HB.out⟩ (fun hHeld => ?_); refine with_tabW impl_fewest.tab18 impl_fewest.bits18 (fun HT_ HW_ => ?_)
                                                      generalize wc.drew = w53 at HO_8 HO_10 HO_11 HB hx329_0 hx329_1 hx329_2 hx329_3 hx330_0 hx330_1 hx330_2 hx330_3 hHeld ⊢
                                                      refine pq 0 57 HT_.out ?_
                                                      refine pq 1 58 HT_.out ?_
                                                      refine pq 2 59 HT_.out ?_
                                                      refine pq 3 60 HT_.out ?_
                                                      refine pq 4 61 HT_.out ?_
                                                      refine pq 5 62 HT_.out ?_
                                                      refine pq 7 64 HT_.out ?_
                                                      refine pq 8 65 HT_.out ?_
                                                      refine pq 9 66 HT_.out ?_
                                                      refine pq 10 67 HT_.out ?_
                                                      refine pq 11 68 HT_.out ?_
                                                      refine pq 12 69 HT_.out ?_
                                                      refine pq 13 70 HT_.out ?_
                                                      refine take_ (i := 6) (N := some 63) (v := ?_) (a' := ?_) #[true, true, true, true, true, true, true, true, true, true, true, true, true, true, false, false, false, false] rfl rfl (take_ofW HT_.out HW_.out (by kernel_rfl)) (fun _ _ _ h => h) (Or.inl ⟨by rfl, ?_⟩) hHeld ?_ ?_
                                                      rotate_left
                                                      · rintro w' ⟨s0, s1, s2, s3, s4, s5, s6, s7, s8⟩
                                                        go_simp
                                                        with_reducible rfl
                                                      rotate_left
                                                      · simp only [Act.put, List.setIfInBounds_toArray, List.set_cons_zero, List.set_cons_succ, i64_w, i32_w]
                                                        rfl
                                                      refine take_ (i := 14) (N := some 71) (v := ?_) (a' := ?_) #[true, true, true, true, true, true, true, true, true, true, true, true, true, true, true, false, false, false] rfl rfl (take_ofW HT_.out HW_.out (by kernel_rfl)) (fun _ _ _ h => h) (Or.inl ⟨by rfl, ?_⟩) hHeld ?_ ?_
                                                      rotate_left
                                                      · rintro w' ⟨s0, s1, s2, s3, s4, s5, s6, s7, s8⟩
                                                        go_simp
                                                        with_reducible rfl
                                                      rotate_left
                                                      · simp only [Act.put, List.setIfInBounds_toArray, List.set_cons_zero, List.set_cons_succ, i64_w, i32_w]
                                                        rfl
                                                      refine pq 15 72 HT_.out ?_
                                                      refine take_ (i := 16) (N := some 73) (v := ?_) (a' := ?_) #[true, true, true, true, true, true, true, true, true, true, true, true, true, true, true, true, true, false] rfl rfl (take_ofW HT_.out HW_.out (by kernel_rfl)) (fun _ _ _ h => h) (Or.inl ⟨by rfl, ?_⟩) hHeld ?_ ?_
                                                      rotate_left
                                                      · rintro w' ⟨s0, s1, s2, s3, s4, s5, s6, s7, s8⟩
                                                        have hq_ := MapS.look l0 s8 (MapS.fits_all HSZ.out) (a1.extract (((rd_T74 t319 x12_2).f1) : Int).toNat (((rd_T74 t319 (ji31)).f2) : Int).toNat) (MapS.ext_fits HSZ.out _ _)
                                                        first | (go_simp; with_reducible rfl) | (go_simp; rfl)
                                                      rotate_left
                                                      · simp only [Act.put, List.setIfInBounds_toArray, List.set_cons_zero, List.set_cons_succ, i64_w, i32_w]
                                                        rfl
                                                      refine pq 17 74 HT_.out ?_
                                                      refine done_ (done_of HT_.out (by kernel_rfl)) ?_
                                                      try go_wp2
                                                      (try simp only [← hl10_3])
                                                      go_roundg kj25
                                                      case measure => have := HK1.out; have := HK2.out; have := HK3.out; have := HJ25.out; omega
                                                      case rel => exact ⟨(x10_3), (x11_3), (wrap64 (x13_3 + 1)), (by first | rfl | (simp; done) | (simp [*]; done)), H', ⟨by have := HK1.out; have := HK2.out; have := HK3.out; have := HJ25.out; omega⟩, ⟨by (try simp only [hl10_3]); (with_reducible repeat (first | apply Kd.R_alloc | apply Kd.R_drewN | apply Kd.R_drew)); exact HO_8.out⟩, ⟨by (try simp only [hl10_3]); (with_reducible repeat (first | apply Kd.R_alloc | apply Kd.R_drewN | apply Kd.R_drew)); exact HO_10.out⟩, ⟨by (try simp only [hl10_3]); (with_reducible repeat (first | apply Kd.R_alloc | apply Kd.R_drewN | apply Kd.R_drew)); exact HO_11.out⟩, ⟨bB⟩⟩
                                                    · rw [if_neg c52] at H
                                                      have c52b0 : decide (1 < x13_3) = false := decide_eq_false c52
                                                      clear c52
                                                      obtain ⟨ji54, hji54⟩ : ∃ j_ : Int, (wrap64 (x12_2 + x13_3)) = j_ := ⟨_, rfl⟩
                                                      replace H : (if 0 ≤ (ji54) then (if (ji54) < (x10_3.length : Int) then (if x12_2 < (x10_3.length : Int) then (if (wrap64 (3 + (rd x10_3 (ji54)))) ≤ (rd x10_3 x12_2) then (if x12_2 < (x11_3.length : Int) then (impl_fewest.l2 l0 kj25 a1 t319 (t319.length : Int) (x10_3.set (x12_2 : Int).toNat (wrap64 (3 + (rd x10_3 (ji54))))) (x11_3.set (x12_2 : Int).toNat x13_3) x12_2 (wrap64 (x13_3 + 1))) else (none)) else (impl_fewest.l2 l0 kj25 a1 t319 (t319.length : Int) x10_3 x11_3 x12_2 (wrap64 (x13_3 + 1)))) else (none)) else (none)) else (none)) = some r := by first | (rw [hji54] at H; exact H) | (simp only [hji54] at H ⊢; exact H)
                                                      have hji54w : (IntKind.i64.wrap (x12_2 + x13_3)) = ji54 := (i64_w _).trans hji54
                                                      have hji31x : (IntKind.i64.wrap (ji54 - 1)) = ji31 := by rw [← hji54]; exact hji31w
                                                      have hji31y : (wrap64 (ji54 - 1)) = ji31 := by rw [← hji54]; exact hji31
                                                      by_cases c55 : 0 ≤ (ji54)
                                                      · rw [if_pos c55] at H
                                                        have c55b0 : decide (0 ≤ (ji54)) = true := decide_eq_true c55
                                                        clear c55
                                                        by_cases c56 : (ji54) < (x10_3.length : Int)
                                                        · rw [if_pos c56] at H
                                                          have c56b0 : decide ((ji54) < (x10_3.length : Int)) = true := decide_eq_true c56
                                                          clear c56
                                                          by_cases c57 : x12_2 < (x10_3.length : Int)
                                                          · rw [if_pos c57] at H
                                                            have c57b0 : decide (x12_2 < (x10_3.length : Int)) = true := decide_eq_true c57
                                                            clear c57
                                                            by_cases c58 : (wrap64 (3 + (rd x10_3 (ji54)))) ≤ (rd x10_3 x12_2)
                                                            · rw [if_pos c58] at H
                                                              have c58b0 : decide ((wrap64 (3 + (rd x10_3 (ji54)))) ≤ (rd x10_3 x12_2)) = true := decide_eq_true c58
                                                              clear c58
                                                              obtain ⟨y337, hy337⟩ : ∃ y_ : List Int, y_ = (x10_3.set (x12_2 : Int).toNat (wrap64 (3 + (rd x10_3 (ji54))))) := ⟨_, rfl⟩
                                                              replace H : (if x12_2 < (x11_3.length : Int) then (impl_fewest.l2 l0 kj25 a1 t319 (t319.length : Int) y337 (x11_3.set (x12_2 : Int).toNat x13_3) x12_2 (wrap64 (x13_3 + 1))) else (none)) = some r := by first | (rw [hy337]; with_reducible exact H) | (have H2_ := (Option.bind_some _ _).symm.trans H; rw [hy337]; with_reducible exact H2_) | (have H2_ := (Option.bind_some _ _).symm.trans H; with_reducible exact H2_) | with_reducible exact H | (rw [hy337]; exact H) | exact H
                                                              have Ny337 := am hy337
                                                              clear hy337
                                                              by_cases c60 : x12_2 < (x11_3.length : Int)
                                                              · rw [if_pos c60] at H
                                                                have c60b0 : decide (x12_2 < (x11_3.length : Int)) = true := decide_eq_true c60
                                                                clear c60
                                                                obtain ⟨y338, hy338⟩ : ∃ y_ : List Int, y_ = (x11_3.set (x12_2 : Int).toNat x13_3) := ⟨_, rfl⟩
                                                                replace H : (impl_fewest.l2 l0 kj25 a1 t319 (t319.length : Int) y337 y338 x12_2 (wrap64 (x13_3 + 1))) = some r := by first | (rw [hy338]; with_reducible exact H) | (have H2_ := (Option.bind_some _ _).symm.trans H; rw [hy338]; with_reducible exact H2_) | (have H2_ := (Option.bind_some _ _).symm.trans H; with_reducible exact H2_) | with_reducible exact H | (rw [hy338]; exact H) | exact H
                                                                have Ny338 := am hy338
                                                                clear hy338
                                                                have H' := am H
                                                                clear H
                                                                try go_wp2
                                                                replace HO_8 := am (Kd.R_drew HO_8.out)
                                                                replace HO_10 := am (Kd.R_drew HO_10.out)
                                                                replace HO_11 := am (Kd.R_drew HO_11.out)
                                                                replace HB := am (below_drew1 HB.out)
                                                                have p329 : 0 ≤ (x12_2 : Int) := od
                                                                have q329 : x12_2 < (t319.length : Int) := od
                                                                obtain ⟨ad329, e329, hx329_0, hx329_1, hx329_2, hx329_3⟩ := at_T74 (Kd.R_reads' HO_8.out).2.2 x12_2 p329 q329
                                                                cases e329
                                                                replace p329 := eq_true p329
                                                                replace q329 := eq_true q329
                                                                have p330 : 0 ≤ ((ji31) : Int) := od
                                                                have q330 : (ji31) < (t319.length : Int) := od
                                                                obtain ⟨ad330, e330, hx330_0, hx330_1, hx330_2, hx330_3⟩ := at_T74 (Kd.R_reads' HO_8.out).2.2 (ji31) p330 q330
                                                                obtain rfl : ad329 = ad330 := (by injection e330)
                                                                replace p330 := eq_true p330
                                                                replace q330 := eq_true q330
                                                                refine start_ (n := 18) (S := fun w' => w'.cell? (ad329.add ((x12_2).toNat * 4)) = some (.int .i64 ((rd_T74 t319 x12_2).f0)) ∧ w'.cell? ⟨(ad329.add ((x12_2).toNat * 4)).block, (ad329.add ((x12_2).toNat * 4)).off + 1, none⟩ = some (.int .i64 ((rd_T74 t319 x12_2).f1)) ∧ w'.cell? ⟨(ad329.add ((x12_2).toNat * 4)).block, (ad329.add ((x12_2).toNat * 4)).off + 2, none⟩ = some (.int .i64 ((rd_T74 t319 x12_2).f2)) ∧ w'.cell? ⟨(ad329.add ((x12_2).toNat * 4)).block, (ad329.add ((x12_2).toNat * 4)).off + 3, none⟩ = some (.bool ((rd_T74 t319 x12_2).f3)) ∧ w'.cell? (ad329.add (((ji31)).toNat * 4)) = some (.int .i64 ((rd_T74 t319 (ji31)).f0)) ∧ w'.cell? ⟨(ad329.add (((ji31)).toNat * 4)).block, (ad329.add (((ji31)).toNat * 4)).off + 1, none⟩ = some (.int .i64 ((rd_T74 t319 (ji31)).f1)) ∧ w'.cell? ⟨(ad329.add (((ji31)).toNat * 4)).block, (ad329.add (((ji31)).toNat * 4)).off + 2, none⟩ = some (.int .i64 ((rd_T74 t319 (ji31)).f2)) ∧ w'.cell? ⟨(ad329.add (((ji31)).toNat * 4)).block, (ad329.add (((ji31)).toNat * 4)).off + 3, none⟩ = some (.bool ((rd_T74 t319 (ji31)).f3)) ∧ MapS.HasAt w' gm (MapS.ms l0)) (ds := []) #[false, false, false, false, false, false, false, false, false, false, false, false, false, false, false, false, false, false] (by kernel_rfl) rfl rfl ⟨hx329_0, hx329_1, hx329_2, hx329_3, hx330_0, hx330_1, hx330_2, hx330_3, MapS.has_below HM.out HB.out⟩ (fun hHeld => ?_); refine with_tabW impl_fewest.tab18 impl_fewest.bits18 (fun HT_ HW_ => ?_)
                                                                generalize wc.drew = w62 at HO_8 HO_10 HO_11 HB hx329_0 hx329_1 hx329_2 hx329_3 hx330_0 hx330_1 hx330_2 hx330_3 hHeld ⊢
                                                                refine pq 0 57 HT_.out ?_
                                                                refine pq 1 58 HT_.out ?_
                                                                refine pq 2 59 HT_.out ?_
                                                                refine pq 3 60 HT_.out ?_
                                                                refine pq 4 61 HT_.out ?_
                                                                refine pq 5 62 HT_.out ?_
                                                                refine pq 7 64 HT_.out ?_
                                                                refine pq 8 65 HT_.out ?_
                                                                refine pq 9 66 HT_.out ?_
                                                                refine pq 10 67 HT_.out ?_
                                                                refine pq 11 68 HT_.out ?_
                                                                refine pq 12 69 HT_.out ?_
                                                                refine pq 13 70 HT_.out ?_
                                                                refine take_ (i := 6) (N := some 63) (v := ?_) (a' := ?_) #[true, true, true, true, true, true, true, true, true, true, true, true, true, true, false, false, false, false] rfl rfl (take_ofW HT_.out HW_.out (by kernel_rfl)) (fun _ _ _ h => h) (Or.inl ⟨by rfl, ?_⟩) hHeld ?_ ?_
                                                                rotate_left
                                                                · rintro w' ⟨s0, s1, s2, s3, s4, s5, s6, s7, s8⟩
                                                                  go_simp
                                                                  with_reducible rfl
                                                                rotate_left
                                                                · simp only [Act.put, List.setIfInBounds_toArray, List.set_cons_zero, List.set_cons_succ, i64_w, i32_w]
                                                                  rfl
                                                                refine take_ (i := 14) (N := some 71) (v := ?_) (a' := ?_) #[true, true, true, true, true, true, true, true, true, true, true, true, true, true, true, false, false, false] rfl rfl (take_ofW HT_.out HW_.out (by kernel_rfl)) (fun _ _ _ h => h) (Or.inl ⟨by rfl, ?_⟩) hHeld ?_ ?_
                                                                rotate_left
                                                                · rintro w' ⟨s0, s1, s2, s3, s4, s5, s6, s7, s8⟩
                                                                  go_simp
                                                                  with_reducible rfl
                                                                rotate_left
                                                                · simp only [Act.put, List.setIfInBounds_toArray, List.set_cons_zero, List.set_cons_succ, i64_w, i32_w]
                                                                  rfl
                                                                refine pq 15 72 HT_.out ?_
                                                                refine take_ (i := 16) (N := some 73) (v := ?_) (a' := ?_) #[true, true, true, true, true, true, true, true, true, true, true, true, true, true, true, true, true, false] rfl rfl (take_ofW HT_.out HW_.out (by kernel_rfl)) (fun _ _ _ h => h) (Or.inl ⟨by rfl, ?_⟩) hHeld ?_ ?_
                                                                rotate_left
                                                                · rintro w' ⟨s0, s1, s2, s3, s4, s5, s6, s7, s8⟩
                                                                  have hq_ := MapS.look l0 s8 (MapS.fits_all HSZ.out) (a1.extract (((rd_T74 t319 x12_2).f1) : Int).toNat (((rd_T74 t319 (ji31)).f2) : Int).toNat) (MapS.ext_fits HSZ.out _ _)
                                                                  first | (go_simp; with_reducible rfl) | (go_simp; rfl)
                                                                rotate_left
                                                                · simp only [Act.put, List.setIfInBounds_toArray, List.set_cons_zero, List.set_cons_succ, i64_w, i32_w]
                                                                  rfl
                                                                refine pq 17 74 HT_.out ?_
                                                                refine done_ (done_of HT_.out (by kernel_rfl)) ?_
                                                                have p335 : 0 ≤ ((ji54) : Int) := od
                                                                have q335 : (ji54) < (x10_3.length : Int) := od
                                                                obtain ⟨ad335, e335, hx335_0⟩ := Kd.at_int (Kd.R_reads' HO_10.out).2.2 (ji54) p335 q335
                                                                obtain rfl : (⟨go23, 0, none⟩ : Addr) = ad335 := (by injection e335)
                                                                (first | simp only [add_plain] at hx335_0 | simp only [add_at] at hx335_0 | simp only [Addr.add, Nat.zero_add] at hx335_0 | skip)
                                                                replace p335 := eq_true p335
                                                                replace q335 := eq_true q335
                                                                have p336 : 0 ≤ (x12_2 : Int) := od
                                                                have q336 : x12_2 < (x10_3.length : Int) := od
                                                                obtain ⟨ad336, e336, hx336_0⟩ := Kd.at_int (Kd.R_reads' HO_10.out).2.2 x12_2 p336 q336
                                                                obtain rfl : (⟨go23, 0, none⟩ : Addr) = ad336 := (by injection e336)
                                                                (first | simp only [add_plain] at hx336_0 | simp only [add_at] at hx336_0 | simp only [Addr.add, Nat.zero_add] at hx336_0 | skip)
                                                                replace p336 := eq_true p336
                                                                replace q336 := eq_true q336
                                                                have p59 : 0 ≤ (x12_2 : Int) := od
                                                                have q59 : (x12_2 : Int) < ((x10_3.length : Int) : Int) := od
                                                                obtain ⟨hx59_0, hf59_0⟩ := Kd.R_celln 0 HO_10.out (x12_2 : Int) p59 q59
                                                                replace p59 := eq_true p59
                                                                replace q59 := eq_true q59
                                                                obtain ⟨hy63_, hz63_⟩ := Kd.R_celln 0 HO_10.out (x12_2 : Int) (od) (od)
                                                                have HP63 := Kd.R_putg HO_10.out (x12_2 : Int) (wrap64 (3 + (rd x10_3 (ji54))))
                                                                try go_wp2_with (first | ((with_reducible refine gate_store (t := 3) (p := 97) rfl ?_); refine store_event (t := 3) (p := 97) (v := ?vo_w64) (w1 := (w62.setCell ⟨go23, (x12_2 : Int).toNat, none⟩ (.int .i64 (wrap64 (3 + (rd x10_3 (ji54))))))) ?hg ?ho ?hn ?hr ?_; (case ho => rfl); (case hg => rfl); (case hn => rfl); (case hr => first | (go_simp; done) | (go_simp; rfl)); intro w64 hw; have hg : w62.grownBy w64 (some go23) := (by rw [hw]; exact HP63.2); have hp_ : Kd.R (Kd.int .i64) 3 w64 wq.heap.size (fun k_ => some k_ ≠ (v326 : Value).ownBlock) (.slice (some ⟨go23, 0, none⟩) x10_3.length co23) y337 := (by rw [hw, Ny337.out]; exact HP63.1); clear HP63; replace HO_8 := am (Kd.R_over' (v := (.slice (some ⟨go23, 0, none⟩) x10_3.length co23)) (kR HO_8.out) (Kd.R_typed HO_10.out) (by decide) hg); replace HO_10 := am (hp_); replace HO_11 := am (Kd.R_after (v := (.slice (some ⟨go23, 0, none⟩) x10_3.length co23)) (v1 := (.slice (some ⟨go23, 0, none⟩) x10_3.length co23)) (ok := (fun _ => True)) (kR (Kd.R_mono HO_11.out (fun _ hk => ⟨trivial, hk⟩))) hg (.inl rfl)); replace HB := am ((by rw [hw]; exact below_set (HB.out) GB23.out : Below wq.heap.size wq w64)); clear hg hw hp_; have p61 : 0 ≤ (x12_2 : Int) := od; have q61 : (x12_2 : Int) < ((x11_3.length : Int) : Int) := od; obtain ⟨go61, co61, eo61, gb61, gl61, cl61, HG61⟩ := Kd.R_form HO_11.out (by omega); (first | cases eo61 | (injection eo61 with ea_ en_ ec_; (first | subst ea_ | (injection ea_ with ea_; subst ea_)); subst ec_; clear en_)); have GB61 := am gb61; have GG61 := am HG61; clear gb61 gl61 HG61; obtain ⟨hx61_0, hf61_0⟩ := Kd.R_celln 0 HO_11.out (x12_2 : Int) p61 q61; replace p61 := eq_true p61; replace q61 := eq_true q61; have n_ := am (Kd.R_mono (ok' := (fun k_ => some k_ ≠ (.slice (some ⟨go23, 0, none⟩) x10_3.length co23 : Value).ownBlock)) HO_11.out (fun k_ hk => hk.2)); clear HO_11; have HO_11 := n_; clear n_; obtain ⟨hy65_, hz65_⟩ := Kd.R_celln 0 HO_11.out (x12_2 : Int) (od) (od); have HP65 := Kd.R_putg HO_11.out (x12_2 : Int) x13_3) | ((with_reducible refine gate_store (t := 3) (p := 98) rfl ?_); refine store_event (t := 3) (p := 98) (v := ?vo_w66) (w1 := (w64.setCell ⟨go61, (x12_2 : Int).toNat, none⟩ (.int .i64 x13_3))) ?hg ?ho ?hn ?hr ?_; (case ho => rfl); (case hg => rfl); (case hn => rfl); (case hr => first | (go_simp; done) | (go_simp; rfl)); intro w66 hw; have hg : w64.grownBy w66 (some go61) := (by rw [hw]; exact HP65.2); have hp_ : Kd.R (Kd.int .i64) 3 w66 wq.heap.size (fun k_ => some k_ ≠ (.slice (some ⟨go23, 0, none⟩) x10_3.length co23 : Value).ownBlock) (.slice (some ⟨go61, 0, none⟩) x11_3.length co61) y338 := (by rw [hw, Ny338.out]; exact HP65.1); clear HP65; replace HO_8 := am (Kd.R_over' (v := (.slice (some ⟨go61, 0, none⟩) x11_3.length co61)) (kR HO_8.out) (Kd.R_typed HO_11.out) (by decide) hg); replace HO_10 := am (Kd.R_after (v := (.slice (some ⟨go61, 0, none⟩) x11_3.length co61)) (v1 := (.slice (some ⟨go61, 0, none⟩) x11_3.length co61)) (ok := (fun _ => True)) (kR (Kd.R_mono HO_10.out (fun _ hk => ⟨trivial, hk⟩))) hg (.inl rfl)); replace HO_11 := am (hp_); replace HB := am ((by rw [hw]; exact below_set (HB.out) GB61.out : Below wq.heap.size wq w66)); clear hg hw hp_))
                                                                (try simp only [← hl10_3])
                                                                go_roundg kj25
                                                                case measure => have := HK1.out; have := HK2.out; have := HK3.out; have := HJ25.out; omega
                                                                case rel => exact ⟨(y337), (y338), (wrap64 (x13_3 + 1)), (by first | rfl | (simp; done) | (simp [*]; done)), H', ⟨by have := HK1.out; have := HK2.out; have := HK3.out; have := HJ25.out; omega⟩, ⟨by (try simp only [hl10_3]); (with_reducible repeat (first | apply Kd.R_alloc | apply Kd.R_drewN | apply Kd.R_drew)); exact HO_8.out⟩, ⟨by (try simp only [hl10_3]); (with_reducible repeat (first | apply Kd.R_alloc | apply Kd.R_drewN | apply Kd.R_drew)); exact Kd.R_mono HO_10.out (fun _ hk => hk.2)⟩, ⟨by (try simp only [hl10_3]); (with_reducible repeat (first | apply Kd.R_alloc | apply Kd.R_drewN | apply Kd.R_drew)); exact HO_11.out⟩, ⟨bB⟩⟩
                                                              · rw [if_neg c60] at H
                                                                exact absurd H (by simp)
                                                            · rw [if_neg c58] at H
                                                              have c58b0 : decide ((wrap64 (3 + (rd x10_3 (ji54)))) ≤ (rd x10_3 x12_2)) = false := decide_eq_false c58
                                                              clear c58
                                                              have H' := am H
                                                              clear H
                                                              try go_wp2
                                                              replace HO_8 := am (Kd.R_drew HO_8.out)
                                                              replace HO_10 := am (Kd.R_drew HO_10.out)
                                                              replace HO_11 := am (Kd.R_drew HO_11.out)
                                                              replace HB := am (below_drew1 HB.out)
                                                              have p329 : 0 ≤ (x12_2 : Int) := od
                                                              have q329 : x12_2 < (t319.length : Int) := od
                                                              obtain ⟨ad329, e329, hx329_0, hx329_1, hx329_2, hx329_3⟩ := at_T74 (Kd.R_reads' HO_8.out).2.2 x12_2 p329 q329
                                                              cases e329
                                                              replace p329 := eq_true p329
                                                              replace q329 := eq_true q329
                                                              have p330 : 0 ≤ ((ji31) : Int) := od
                                                              have q330 : (ji31) < (t319.length : Int) := od
                                                              obtain ⟨ad330, e330, hx330_0, hx330_1, hx330_2, hx330_3⟩ := at_T74 (Kd.R_reads' HO_8.out).2.2 (ji31) p330 q330
                                                              obtain rfl : ad329 = ad330 := (by injection e330)
                                                              replace p330 := eq_true p330
                                                              replace q330 := eq_true q330
                                                              refine start_ (n := 18) (S := fun w' => w'.cell? (ad329.add ((x12_2).toNat * 4)) = some (.int .i64 ((rd_T74 t319 x12_2).f0)) ∧ w'.cell? ⟨(ad329.add ((x12_2).toNat * 4)).block, (ad329.add ((x12_2).toNat * 4)).off + 1, none⟩ = some (.int .i64 ((rd_T74 t319 x12_2).f1)) ∧ w'.cell? ⟨(ad329.add ((x12_2).toNat * 4)).block, (ad329.add ((x12_2).toNat * 4)).off + 2, none⟩ = some (.int .i64 ((rd_T74 t319 x12_2).f2)) ∧ w'.cell? ⟨(ad329.add ((x12_2).toNat * 4)).block, (ad329.add ((x12_2).toNat * 4)).off + 3, none⟩ = some (.bool ((rd_T74 t319 x12_2).f3)) ∧ w'.cell? (ad329.add (((ji31)).toNat * 4)) = some (.int .i64 ((rd_T74 t319 (ji31)).f0)) ∧ w'.cell? ⟨(ad329.add (((ji31)).toNat * 4)).block, (ad329.add (((ji31)).toNat * 4)).off + 1, none⟩ = some (.int .i64 ((rd_T74 t319 (ji31)).f1)) ∧ w'.cell? ⟨(ad329.add (((ji31)).toNat * 4)).block, (ad329.add (((ji31)).toNat * 4)).off + 2, none⟩ = some (.int .i64 ((rd_T74 t319 (ji31)).f2)) ∧ w'.cell? ⟨(ad329.add (((ji31)).toNat * 4)).block, (ad329.add (((ji31)).toNat * 4)).off + 3, none⟩ = some (.bool ((rd_T74 t319 (ji31)).f3)) ∧ MapS.HasAt w' gm (MapS.ms l0)) (ds := []) #[false, false, false, false, false, false, false, false, false, false, false, false, false, false, false, false, false, false] (by kernel_rfl) rfl rfl ⟨hx329_0, hx329_1, hx329_2, hx329_3, hx330_0, hx330_1, hx330_2, hx330_3, MapS.has_below HM.out HB.out⟩ (fun hHeld => ?_); refine with_tabW impl_fewest.tab18 impl_fewest.bits18 (fun HT_ HW_ => ?_)
                                                              generalize wc.drew = w67 at HO_8 HO_10 HO_11 HB hx329_0 hx329_1 hx329_2 hx329_3 hx330_0 hx330_1 hx330_2 hx330_3 hHeld ⊢
                                                              refine pq 0 57 HT_.out ?_
                                                              refine pq 1 58 HT_.out ?_
                                                              refine pq 2 59 HT_.out ?_
                                                              refine pq 3 60 HT_.out ?_
                                                              refine pq 4 61 HT_.out ?_
                                                              refine pq 5 62 HT_.out ?_
                                                              refine pq 7 64 HT_.out ?_
                                                              refine pq 8 65 HT_.out ?_
                                                              refine pq 9 66 HT_.out ?_
                                                              refine pq 10 67 HT_.out ?_
                                                              refine pq 11 68 HT_.out ?_
                                                              refine pq 12 69 HT_.out ?_
                                                              refine pq 13 70 HT_.out ?_
                                                              refine take_ (i := 6) (N := some 63) (v := ?_) (a' := ?_) #[true, true, true, true, true, true, true, true, true, true, true, true, true, true, false, false, false, false] rfl rfl (take_ofW HT_.out HW_.out (by kernel_rfl)) (fun _ _ _ h => h) (Or.inl ⟨by rfl, ?_⟩) hHeld ?_ ?_
                                                              rotate_left
                                                              · rintro w' ⟨s0, s1, s2, s3, s4, s5, s6, s7, s8⟩
                                                                go_simp
                                                                with_reducible rfl
                                                              rotate_left
                                                              · simp only [Act.put, List.setIfInBounds_toArray, List.set_cons_zero, List.set_cons_succ, i64_w, i32_w]
                                                                rfl
                                                              refine take_ (i := 14) (N := some 71) (v := ?_) (a' := ?_) #[true, true, true, true, true, true, true, true, true, true, true, true, true, true, true, false, false, false] rfl rfl (take_ofW HT_.out HW_.out (by kernel_rfl)) (fun _ _ _ h => h) (Or.inl ⟨by rfl, ?_⟩) hHeld ?_ ?_
                                                              rotate_left
                                                              · rintro w' ⟨s0, s1, s2, s3, s4, s5, s6, s7, s8⟩
                                                                go_simp
                                                                with_reducible rfl
                                                              rotate_left
                                                              · simp only [Act.put, List.setIfInBounds_toArray, List.set_cons_zero, List.set_cons_succ, i64_w, i32_w]
                                                                rfl
                                                              refine pq 15 72 HT_.out ?_
                                                              refine take_ (i := 16) (N := some 73) (v := ?_) (a' := ?_) #[true, true, true, true, true, true, true, true, true, true, true, true, true, true, true, true, true, false] rfl rfl (take_ofW HT_.out HW_.out (by kernel_rfl)) (fun _ _ _ h => h) (Or.inl ⟨by rfl, ?_⟩) hHeld ?_ ?_
                                                              rotate_left
                                                              · rintro w' ⟨s0, s1, s2, s3, s4, s5, s6, s7, s8⟩
                                                                have hq_ := MapS.look l0 s8 (MapS.fits_all HSZ.out) (a1.extract (((rd_T74 t319 x12_2).f1) : Int).toNat (((rd_T74 t319 (ji31)).f2) : Int).toNat) (MapS.ext_fits HSZ.out _ _)
                                                                first | (go_simp; with_reducible rfl) | (go_simp; rfl)
                                                              rotate_left
                                                              · simp only [Act.put, List.setIfInBounds_toArray, List.set_cons_zero, List.set_cons_succ, i64_w, i32_w]
                                                                rfl
                                                              refine pq 17 74 HT_.out ?_
                                                              refine done_ (done_of HT_.out (by kernel_rfl)) ?_
                                                              have p335 : 0 ≤ ((ji54) : Int) := od
                                                              have q335 : (ji54) < (x10_3.length : Int) := od
                                                              obtain ⟨ad335, e335, hx335_0⟩ := Kd.at_int (Kd.R_reads' HO_10.out).2.2 (ji54) p335 q335
                                                              obtain rfl : (⟨go23, 0, none⟩ : Addr) = ad335 := (by injection e335)
                                                              (first | simp only [add_plain] at hx335_0 | simp only [add_at] at hx335_0 | simp only [Addr.add, Nat.zero_add] at hx335_0 | skip)
                                                              replace p335 := eq_true p335
                                                              replace q335 := eq_true q335
                                                              have p336 : 0 ≤ (x12_2 : Int) := od
                                                              have q336 : x12_2 < (x10_3.length : Int) := od
                                                              obtain ⟨ad336, e336, hx336_0⟩ := Kd.at_int (Kd.R_reads' HO_10.out).2.2 x12_2 p336 q336
                                                              obtain rfl : (⟨go23, 0, none⟩ : Addr) = ad336 := (by injection e336)
                                                              (first | simp only [add_plain] at hx336_0 | simp only [add_at] at hx336_0 | simp only [Addr.add, Nat.zero_add] at hx336_0 | skip)
                                                              replace p336 := eq_true p336
                                                              replace q336 := eq_true q336
                                                              try go_wp2
                                                              (try simp only [← hl10_3])
                                                              go_roundg kj25
                                                              case measure => have := HK1.out; have := HK2.out; have := HK3.out; have := HJ25.out; omega
                                                              case rel => exact ⟨(x10_3), (x11_3), (wrap64 (x13_3 + 1)), (by first | rfl | (simp; done) | (simp [*]; done)), H', ⟨by have := HK1.out; have := HK2.out; have := HK3.out; have := HJ25.out; omega⟩, ⟨by (try simp only [hl10_3]); (with_reducible repeat (first | apply Kd.R_alloc | apply Kd.R_drewN | apply Kd.R_drew)); exact HO_8.out⟩, ⟨by (try simp only [hl10_3]); (with_reducible repeat (first | apply Kd.R_alloc | apply Kd.R_drewN | apply Kd.R_drew)); exact HO_10.out⟩, ⟨by (try simp only [hl10_3]); (with_reducible repeat (first | apply Kd.R_alloc | apply Kd.R_drewN | apply Kd.R_drew)); exact HO_11.out⟩, ⟨bB⟩⟩
                                                          · rw [if_neg c57] at H
                                                            exact absurd H (by simp)
                                                        · rw [if_neg c56] at H
                                                          exact absurd H (by simp)
                                                      · rw [if_neg c55] at H
                                                        exact absurd H (by simp)
                                                · rw [if_neg c36] at H
                                                  exact absurd H (by simp)
                                              · rw [if_neg c35] at H
                                                exact absurd H (by simp)
                                            · rw [if_neg c34] at H
                                              exact absurd H (by simp)
                                          · rw [if_neg c33] at H
                                            exact absurd H (by simp)
                                        · rw [if_neg c32] at H
                                          exact absurd H (by simp)
                                      · rw [if_neg c30] at H
                                        exact absurd H (by simp)
                                    · rw [if_neg c29] at H
                                      exact absurd H (by simp)
                                  · replace c28 := Bool.eq_false_iff.mpr c28
                                    subst c28
                                    have H1 : (impl_fewest.l1 l0 kj25 a1 t319 (t319.length : Int) x10_3 x11_3 (wrap64 (x12_2 - 1))) = some r := by rw [if_neg (show ¬ (false = true) by decide)] at H; exact H
                                    clear H
                                    have H := H1
                                    clear H1
                                    have H' := am H
                                    clear H
                                    go_wp2
                                    (try simp only [← hl10_3])
                                    go_roundg kj25
                                    case measure => have := HK1.out; have := HK2.out; have := HK3.out; have := HJ25.out; omega
                                    case rel => exact ⟨(x10_3), (x11_3), (wrap64 (x12_2 - 1)), (by first | rfl | (simp; done) | (simp [*]; done)), H', ⟨by have := HK1.out; have := HK2.out; have := HK3.out; have := HJ25.out; omega⟩, ⟨by (try simp only [hl10_3]); (with_reducible repeat (first | apply Kd.R_alloc | apply Kd.R_drewN | apply Kd.R_drew)); exact HO_8.out⟩, ⟨by (try simp only [hl10_3]); (with_reducible repeat (first | apply Kd.R_alloc | apply Kd.R_drewN | apply Kd.R_drew)); exact HO_10.out⟩, ⟨by (try simp only [hl10_3]); (with_reducible repeat (first | apply Kd.R_alloc | apply Kd.R_drewN | apply Kd.R_drew)); exact HO_11.out⟩, ⟨bB⟩⟩
                        · rw [if_neg c22] at H
                          exact absurd H (by simp)
                      · rw [if_neg c21] at H
                        exact absurd H (by simp)
                    · rw [if_neg c20] at H
                      have c20b0 : decide (0 ≤ x12_2) = false := decide_eq_false c20
                      clear c20
                      have H' := am H
                      clear H
                      go_wp2
                      go_loopg [16, 17] k2 (fun kq v16 v17 w' => ∃ (x16_3 : List Int) (x17_3 : Int), v17 = .int .i64 x17_3 ∧ Aside0 (impl_fewest.l3 l0 kq (t319.length : Int) x11_2 x16_3 x17_3 = some r) ∧ Aside0 (kq ≤ k2) ∧ Aside0 (Kd.R (Kd.int .i64) 3 w' wq.heap.size (fun k_ => some k_ ≠ (v16 : Value).ownBlock) v326 x11_2) ∧ Aside0 (Kd.R (Kd.int .i64) 3 w' wq.heap.size (fun k_ => some k_ ≠ (v326 : Value).ownBlock) v16 x16_3) ∧ Aside0 (Below wq.heap.size wq w'))
                      case atStart => exact ⟨(([] : List Int)), (0), (by first | rfl | (simp; done) | (simp [*]; done)), H', ⟨Nat.le_refl _⟩, ⟨kR (Kd.R_mono HO_11.out (fun _ hk => (by simp [Value.ownBlock])))⟩, ⟨by first | exact Kd.R_nil _ _ _ _ _ | exact Kd.N_nil _ _ _ _ _ | exact Kd.V_nil _ _ _ _ _ | exact Kd.Q_nil _ _ _ _ _ | exact Kd.S_nil _ _ _ _ _⟩, ⟨bB⟩⟩
                      case round =>
                        clear H'
                        try clear c2
                        try clear p2
                        try clear c3
                        try clear p3
                        try clear q3
                        try clear hx3
                        try clear c5
                        try clear p5
                        try clear q5
                        try clear hx5
                        try clear hf5
                        try clear c6
                        try clear p6
                        try clear q6
                        try clear hx6
                        try clear hf6
                        try clear c20
                        try clear c20b0
                        try clear c21
                        try clear c22
                        try clear c28
                        try clear c29
                        try clear c30
                        try clear c32
                        try clear p32
                        try clear q32
                        try clear hx32
                        try clear c33
                        try clear p33
                        try clear q33
                        try clear hx33
                        try clear c34
                        try clear c35
                        try clear c36
                        try clear c52
                        try clear c52b0
                        try clear c55
                        try clear c55b0
                        try clear c56
                        try clear c56b0
                        try clear c57
                        try clear c57b0
                        try clear c58
                        try clear c58b0
                        try clear p59
                        try clear q59
                        try clear hx59
                        try clear hf59
                        try clear c60
                        try clear c60b0
                        try clear p61
                        try clear q61
                        try clear hx61
                        try clear hf61
                        try clear p64
                        try clear hx329_0
                        try clear hx329_1
                        try clear hx329_2
                        try clear hx329_3
                        try clear hx330_0
                        try clear hx330_1
                        try clear hx330_2
                        try clear hx330_3
                        try clear hx335_0
                        try clear hx336_0
                        try clear hx59_0
                        try clear hx61_0
                        try clear p329
                        try clear p330
                        try clear p335
                        try clear p336
                        try clear p59
                        try clear p61
                        try clear q329
                        try clear q330
                        try clear q335
                        try clear q336
                        try clear q59
                        try clear q61
                        obtain ⟨x16_3, x17_3, rfl, HA, HK3, HO_11, HO_16, HB⟩ := hrel
                        cases gk with
                        | zero => exact absurd HA.out (by simp [impl_fewest.l3])
                        | succ k3 =>
                          have H := HA.out
                          clear HA
                          simp only [impl_fewest.l3] at H
                          by_cases c68 : x17_3 < (t319.length : Int)
                          · rw [if_pos c68] at H
                            have c68b0 : decide (x17_3 < (t319.length : Int)) = true := decide_eq_true c68
                            clear c68
                            by_cases c69 : 0 ≤ x17_3
                            · rw [if_pos c69] at H
                              have c69b0 : decide (0 ≤ x17_3) = true := decide_eq_true c69
                              clear c69
                              by_cases c70 : x17_3 < (x11_2.length : Int)
                              · rw [if_pos c70] at H
                                have c70b0 : decide (x17_3 < (x11_2.length : Int)) = true := decide_eq_true c70
                                clear c70
                                by_cases c71 : x16_3.length < 17592186044416
                                · rw [if_pos c71] at H
                                  have LMc71 := am c71
                                  clear c71
                                  obtain ⟨y340, hy340⟩ : ∃ y_ : List Int, y_ = (x16_3 ++ [rd x11_2 x17_3]) := ⟨_, rfl⟩
                                  replace H : (impl_fewest.l3 l0 k3 (t319.length : Int) x11_2 y340 (wrap64 (x17_3 + (rd x11_2 x17_3)))) = some r := by first | (rw [hy340]; with_reducible exact H) | (have H2_ := (Option.bind_some _ _).symm.trans H; rw [hy340]; with_reducible exact H2_) | (have H2_ := (Option.bind_some _ _).symm.trans H; with_reducible exact H2_) | with_reducible exact H | (rw [hy340]; exact H) | exact H
                                  have Ny340 := am hy340
                                  clear hy340
                                  have H' := am H
                                  clear H
                                  obtain ⟨Ao72, co72, eo72⟩ := Kd.R_slice HO_11.out
                                  subst eo72
                                  have p339 : 0 ≤ (x17_3 : Int) := od
                                  have q339 : x17_3 < (x11_2.length : Int) := od
                                  obtain ⟨ad339, e339, hx339_0⟩ := Kd.at_int (Kd.R_reads' HO_11.out).2.2 x17_3 p339 q339
                                  cases e339
                                  replace p339 := eq_true p339
                                  replace q339 := eq_true q339
                                  go_wp2_with (first | ((with_reducible refine gate_builtin (b := .append) (xs := #[.tmp 108, .tmp 113]) rfl ?_); at_builtin; refine Kd.R_append (Kd.int .i64) (w0 := wq) wq.heap.size rfl (.tmp 108) (.tmp 113) 71 3 (.int .i64 0) 8 rfl Tryd.underlying71 info3 rfl (by decide) (by omega) u16 x16_3 (rd x11_2 x17_3) [.int .i64 (rd x11_2 x17_3)] (fun k_ => some k_ ≠ (.slice (some ad339) x11_2.length co72 : Value).ownBlock) (fun _ => False) rfl rfl ?aP (fun _ hk => hk.elim) ?aF ?aO ?aB ?aS ?aL ?_; (case aP => exact rfl); (case aB => exact bB); (case aF => exact (fun k_ hk => Kd.fresh' (Kd.R_lt (kR HO_11.out)) k_ hk)); (case aO => exact (kR HO_16.out)); (case aS => exact (below_size bB)); (case aL => have := LMc71.out; omega); intro v341 w73 ho hb hg hat; rw [← Ny340.out] at ho; replace HO_11 := am (Kd.R_after (ok := (fun _ => True)) (kR (Kd.R_mono HO_11.out (fun _ hk => ⟨trivial, hk⟩))) hg hat); replace HB := am (hb); have HO342 := am (ho); clear HO_16; clear ho hb hg hat; have p343 : 0 ≤ (x17_3 : Int) := od; have q343 : x17_3 < (x11_2.length : Int) := od; obtain ⟨ad343, e343, hx343_0⟩ := Kd.at_int (Kd.R_reads' HO_11.out).2.2 x17_3 p343 q343; obtain rfl : ad339 = ad343 := (by injection e343); replace p343 := eq_true p343; replace q343 := eq_true q343))
                                  go_roundg k3
                                  case measure => have := HK1.out; have := HK2.out; have := HK3.out; omega
                                  case rel => exact ⟨(y340), (wrap64 (x17_3 + (rd x11_2 x17_3))), (by first | rfl | (simp; done) | (simp [*]; done)), H', ⟨by have := HK1.out; have := HK2.out; have := HK3.out; omega⟩, ⟨kR (Kd.R_mono HO_11.out (fun _ hk => hk.2))⟩, ⟨kR HO342.out⟩, ⟨bB⟩⟩
                                · rw [if_neg c71] at H
                                  exact absurd H (by simp)
                              · rw [if_neg c70] at H
                                exact absurd H (by simp)
                            · rw [if_neg c69] at H
                              exact absurd H (by simp)
                          · rw [if_neg c68] at H
                            have c68b0 : decide (x17_3 < (t319.length : Int)) = false := decide_eq_false c68
                            clear c68
                            obtain rfl := Option.some.inj H
                            go_wp2
                            go_ret
                            exact ⟨_, by first | rfl | (simp [errW_none, errW_some] <;> rfl) | (simp only [← hji7]; first | rfl | (simp [errW_none, errW_some] <;> rfl)) | (simp [*, errW_none, errW_some] <;> rfl), by (with_reducible repeat (first | apply Kd.R_alloc | apply Kd.R_drewN | apply Kd.R_drew)); exact Kd.R_lower (Kd.R_mono HO_16.out (fun _ hk => trivial)) (below_size HB0.out), below_step HB0.out bB⟩
              · rw [if_neg c11] at H
                exact absurd H (by simp)
            · rw [if_neg c10] at H
              exact absurd H (by simp)
          · rw [if_neg c9] at H
            exact absurd H (by simp)
        · rw [if_neg c8] at H
          exact absurd H (by simp)

end Go.Proofs.YtmlhnpggjkoinaaDoor.PFnExactFewestWords

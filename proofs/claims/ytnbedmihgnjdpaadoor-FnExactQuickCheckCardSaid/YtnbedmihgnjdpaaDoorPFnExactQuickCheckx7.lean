-- Written by a program of this session (wip/tools/myprint.py) that runs the kit's print with hooks of its own. Lean checks it.
import Derived.Test.YtnbedmihgnjdpaaDoorPFnExactQuickCheckx0
import Derived.Test.YtnbedmihgnjdpaaDoorPFnExactQuickCheckx6
namespace Go.Proofs.YtnbedmihgnjdpaaDoor.PFnExactQuickCheck
open Go.RowKit Go.Proofs.YtnbedmihgnjdpaaDoorW.PrintWords Go.Proofs.YtnbedmihgnjdpaaDoorW.PrintLast Go.Proofs.YtnbedmihgnjdpaaDoorW.PrintMore
attribute [local go_sem] max2_int min2_int max_two min_two max_three min_three max_four min_four   -- for this text's walks alone
set_option linter.unusedVariables false
set_option linter.unusedSimpArgs false

/-! ### impl_read: function 50 -/
def impl_read.l0 : Nat → ByteArray → List (S63) → Int → Option ((List (S63)))
 | 0, _, _, _ => none
 | k + 1, x0, x3, x4 => if x4 < (x0.size : Int) then (if 0 ≤ x4 then (if x4 ≤ (x0.size : Int) then ((utf8_DecodeRuneInString.f (x0.extract (x4 : Int).toNat x0.size)).bind fun bt244 => (if bt244.1 = 65533 then (if x3.length < 4398046511104 then (impl_read.l0 k x0 (x3 ++ [(⟨wrap64 (bt244.1), x4, wrap64 (x4 + bt244.2), (bt244.2 == 1)⟩ : S63)]) (wrap64 (x4 + bt244.2))) else (none)) else (if x3.length < 4398046511104 then (impl_read.l0 k x0 (x3 ++ [(⟨wrap64 (bt244.1), x4, wrap64 (x4 + bt244.2), false⟩ : S63)]) (wrap64 (x4 + bt244.2))) else (none)))) else (none)) else (none)) else (some x3)
def impl_read.f (k : Nat) (a0 : ByteArray) : Option ((List (S63))) := impl_read.l0 k a0 ([] : List (S63)) 0
set_option maxHeartbeats 8000000 in
set_option maxRecDepth 100000 in
theorem impl_read.calls (k : Nat) (a0 : ByteArray) (r : List (S63)) (w : World) (hG : GL w) (h : impl_read.f k a0 = some r) :
  Calls Tryd.prog 50 #[.string a0] w fun e w' => ∃ v0_ : Value, e = .returned (v0_) ∧ Kd.R k63 63 w' w.heap.size (fun _ => True) v0_ r ∧ Below w.heap.size w w' := by
 have hu63 := Tryd.underlying63
 have HGL := Aside0.mk hG
 clear hG
 have HB := Aside0.mk (Below.refl w.heap.size w)
 have H : (impl_read.l0 k a0 ([] : List (S63)) 0) = some r := h
 clear h
 have H' := Aside0.mk H
 clear H
 go_enter Tryd.func50, Tryd.ntmps50
 go_wp2
 go_loopg [3, 4] k (fun kq v3 v4 w' => ∃ (x3_1 : List (S63)) (x4_1 : Int), v4 = .int .i64 x4_1 ∧ Aside0 (impl_read.l0 kq a0 x3_1 x4_1 = some r) ∧ Aside0 (kq ≤ k) ∧ Aside0 (Kd.R k63 63 w' w.heap.size (fun _ => True) v3 x3_1) ∧ Aside0 (Below w.heap.size w w'))
 case atStart => exact ⟨(([] : List (S63))), (0), (by first | rfl | (simp; done) | (simp [*]; done)), H', ⟨Nat.le_refl _⟩, ⟨by first | exact Kd.R_nil _ _ _ _ _ | exact Kd.N_nil _ _ _ _ _ | exact Kd.V_nil _ _ _ _ _ | exact Kd.Q_nil _ _ _ _ _ | exact Kd.S_nil _ _ _ _ _⟩, ⟨by repeat (first | (with_reducible first | exact HB.out | apply below_alloc | apply pw_below_drewN | apply below_drew1) | exact HB.out)⟩⟩
 case round =>
  clear H'
  obtain ⟨x3_1, x4_1, rfl, HA, HK1, HO_3, HB⟩ := hrel
  cases gk with
  | zero => exact absurd HA.out (by simp [impl_read.l0])
  | succ k1 =>
   have H := HA.out
   clear HA
   simp only [impl_read.l0] at H
   by_cases c2 : x4_1 < (a0.size : Int)
   ·rw [if_pos c2] at H
    have c2b0 : decide (x4_1 < (a0.size : Int)) = true := decide_eq_true c2
    clear c2
    by_cases c3 : 0 ≤ x4_1
    ·rw [if_pos c3] at H
     have c3b0 := eq_true c3
     have c3b1 : decide (0 ≤ x4_1) = true := decide_eq_true c3
     clear c3
     by_cases c4 : x4_1 ≤ (a0.size : Int)
     ·rw [if_pos c4] at H
      have c4b0 := eq_true c4
      have c4b1 : decide (x4_1 ≤ (a0.size : Int)) = true := decide_eq_true c4
      clear c4
      replace H := Option.bind_eq_some_iff.mp H
      obtain ⟨⟨t244, t245⟩, A50, H⟩ := H
      replace H : (if t244 = 65533 then (if x3_1.length < 4398046511104 then (impl_read.l0 k1 a0 (x3_1 ++ [(⟨wrap64 (t244), x4_1, wrap64 (x4_1 + t245), (t245 == 1)⟩ : S63)]) (wrap64 (x4_1 + t245))) else (none)) else (if x3_1.length < 4398046511104 then (impl_read.l0 k1 a0 (x3_1 ++ [(⟨wrap64 (t244), x4_1, wrap64 (x4_1 + t245), false⟩ : S63)]) (wrap64 (x4_1 + t245))) else (none))) = some r := H
      have A5 := Aside0.mk A50
      clear A50
      by_cases c6 : t244 = 65533
      ·rw [if_pos c6] at H
       have c6b0 : (t244 == 65533) = true := beq_iff_eq.mpr c6
       have c6b1 : (t244 != 65533) = false := bne_eq_false_iff_eq.mpr c6
       clear c6
       by_cases c7 : x3_1.length < 4398046511104
       ·rw [if_pos c7] at H
        have LMc7 := Aside0.mk c7
        clear c7
        obtain ⟨y246, hy246⟩ : ∃ y_ : List (S63), y_ = (x3_1 ++ [(⟨wrap64 (t244), x4_1, wrap64 (x4_1 + t245), (t245 == 1)⟩ : S63)]) := ⟨_, rfl⟩
        replace H : (impl_read.l0 k1 a0 y246 (wrap64 (x4_1 + t245))) = some r := by first | (rw [hy246]; with_reducible exact H) | (have H2_ := (Option.bind_some _ _).symm.trans H; rw [hy246]; with_reducible exact H2_) | (have H2_ := (Option.bind_some _ _).symm.trans H; with_reducible exact H2_) | with_reducible exact H | (rw [hy246]; exact H) | exact H
        have Ny246 := Aside0.mk hy246
        clear hy246
        have H' := Aside0.mk H
        clear H
        go_wp2_with (first | ((with_reducible refine gate_callee (f := 76) rfl ?_); refine goesL_ (some 16) rfl rfl Tryd.func76 (by kernel_rfl) rfl #[.string (a0.extract (x4_1 : Int).toNat a0.size)] rfl (by (try simp only [List.map_toArray, List.map_cons, List.map_nil]); first | done | rfl | (simp only [List.length_drop, List.length_take]; rfl)) ?_; (with_reducible refine (utf8_DecodeRuneInString.calls (a0.extract (x4_1 : Int).toNat a0.size) t244 t245 _ ?side1 A5.out).mono ?_); (case side1 => first | exact HGL.out | exact GL_below HGL.out (by repeat (first | (with_reducible first | exact HB.out | apply below_alloc | apply pw_below_drewN | apply below_drew1) | exact HB.out))); rintro e w8 ⟨rfl, hb⟩; refine ⟨_, rfl, ?_⟩; have n0_ := Aside0.mk (Kd.R_below (by (with_reducible repeat (first | apply Kd.R_alloc | apply Kd.R_drewN | apply Kd.R_drew)); exact HO_3.out) hb); have n1_ := Aside0.mk (below_step (by repeat (first | (with_reducible first | exact HB.out | apply below_alloc | apply pw_below_drewN | apply below_drew1) | exact HB.out)) hb); clear HO_3; clear HB; have HO_3 := n0_; have HB := n1_; clear n0_ n1_; (try clear hb); (try clear hb2); (try clear hk); (try clear hi)) | ((with_reducible refine gate_builtin (b := .append) (xs := #[.tmp 25, .tmp 34]) rfl ?_); at_builtin; refine Kd.R_append k63 (w0 := w) w.heap.size rfl (.tmp 25) (.tmp 34) 60 63 (.agg #[(.int .i64 0), (.int .i64 0), (.int .i64 0), (.bool false)]) 32 rfl Tryd.underlying60 info63 rfl (by decide) (by omega) u3 x3_1 (⟨wrap64 (t244), x4_1, wrap64 (x4_1 + t245), (t245 == 1)⟩ : S63) [.int .i64 (wrap64 (t244)), .int .i64 x4_1, .int .i64 (wrap64 (x4_1 + t245)), .bool (t245 == 1)] (fun _ => True) (fun _ => False) rfl rfl ?aP (fun _ hk => hk.elim) ?aF ?aO ?aB ?aS ?aL ?_; (case aP => exact k63_mkM _ _ _ (⟨wrap64 (t244), x4_1, wrap64 (x4_1 + t245), (t245 == 1)⟩ : S63)); (case aB => exact (by repeat (first | (with_reducible first | exact HB.out | apply below_alloc | apply pw_below_drewN | apply below_drew1) | exact HB.out))); (case aF => exact (fun _ _ => trivial)); (case aO => exact (by (with_reducible repeat (first | apply Kd.R_alloc | apply Kd.R_drewN | apply Kd.R_drew)); exact HO_3.out)); (case aS => exact (below_size (by repeat (first | (with_reducible first | exact HB.out | apply below_alloc | apply pw_below_drewN | apply below_drew1) | exact HB.out)))); (case aL => have := LMc7.out; omega); intro v247 w9 ho hb hg hat; rw [← Ny246.out] at ho; have n0_ := Aside0.mk (hb); have n1_ := Aside0.mk (ho); clear HB; clear HO_3; have HB := n0_; have HO248 := n1_; clear n0_ n1_; clear ho hb hg hat))
        go_roundg k1
        case measure => have := HK1.out; omega
        case rel => exact ⟨(y246), (wrap64 (x4_1 + t245)), (by first | rfl | (simp; done) | (simp [*]; done)), H', ⟨by have := HK1.out; omega⟩, ⟨by (with_reducible repeat (first | apply Kd.R_alloc | apply Kd.R_drewN | apply Kd.R_drew)); exact HO248.out⟩, ⟨by repeat (first | (with_reducible first | exact HB.out | apply below_alloc | apply pw_below_drewN | apply below_drew1) | exact HB.out)⟩⟩
       ·rw [if_neg c7] at H
        exact absurd H (by simp)
      ·rw [if_neg c6] at H
       have c6b0 : (t244 == 65533) = false := beq_eq_false_iff_ne.mpr c6
       have c6b1 : (t244 != 65533) = true := bne_iff_ne.mpr c6
       by_cases c10 : x3_1.length < 4398046511104
       ·rw [if_pos c10] at H
        have LMc10 := Aside0.mk c10
        clear c10
        obtain ⟨y249, hy249⟩ : ∃ y_ : List (S63), y_ = (x3_1 ++ [(⟨wrap64 (t244), x4_1, wrap64 (x4_1 + t245), false⟩ : S63)]) := ⟨_, rfl⟩
        replace H : (impl_read.l0 k1 a0 y249 (wrap64 (x4_1 + t245))) = some r := by first | (rw [hy249]; with_reducible exact H) | (have H2_ := (Option.bind_some _ _).symm.trans H; rw [hy249]; with_reducible exact H2_) | (have H2_ := (Option.bind_some _ _).symm.trans H; with_reducible exact H2_) | with_reducible exact H | (rw [hy249]; exact H) | exact H
        have Ny249 := Aside0.mk hy249
        clear hy249
        have H' := Aside0.mk H
        clear H
        go_wp2_with (first | ((with_reducible refine gate_callee (f := 76) rfl ?_); refine goesL_ (some 16) rfl rfl Tryd.func76 (by kernel_rfl) rfl #[.string (a0.extract (x4_1 : Int).toNat a0.size)] rfl (by (try simp only [List.map_toArray, List.map_cons, List.map_nil]); first | done | rfl | (simp only [List.length_drop, List.length_take]; rfl)) ?_; (with_reducible refine (utf8_DecodeRuneInString.calls (a0.extract (x4_1 : Int).toNat a0.size) t244 t245 _ ?side1 A5.out).mono ?_); (case side1 => first | exact HGL.out | exact GL_below HGL.out (by repeat (first | (with_reducible first | exact HB.out | apply below_alloc | apply pw_below_drewN | apply below_drew1) | exact HB.out))); rintro e w11 ⟨rfl, hb⟩; refine ⟨_, rfl, ?_⟩; have n0_ := Aside0.mk (Kd.R_below (by (with_reducible repeat (first | apply Kd.R_alloc | apply Kd.R_drewN | apply Kd.R_drew)); exact HO_3.out) hb); have n1_ := Aside0.mk (below_step (by repeat (first | (with_reducible first | exact HB.out | apply below_alloc | apply pw_below_drewN | apply below_drew1) | exact HB.out)) hb); clear HO_3; clear HB; have HO_3 := n0_; have HB := n1_; clear n0_ n1_; (try clear hb); (try clear hb2); (try clear hk); (try clear hi)) | ((with_reducible refine gate_builtin (b := .append) (xs := #[.tmp 25, .tmp 34]) rfl ?_); at_builtin; refine Kd.R_append k63 (w0 := w) w.heap.size rfl (.tmp 25) (.tmp 34) 60 63 (.agg #[(.int .i64 0), (.int .i64 0), (.int .i64 0), (.bool false)]) 32 rfl Tryd.underlying60 info63 rfl (by decide) (by omega) u3 x3_1 (⟨wrap64 (t244), x4_1, wrap64 (x4_1 + t245), false⟩ : S63) [.int .i64 (wrap64 (t244)), .int .i64 x4_1, .int .i64 (wrap64 (x4_1 + t245)), .bool false] (fun _ => True) (fun _ => False) rfl rfl ?aP (fun _ hk => hk.elim) ?aF ?aO ?aB ?aS ?aL ?_; (case aP => exact k63_mkM _ _ _ (⟨wrap64 (t244), x4_1, wrap64 (x4_1 + t245), false⟩ : S63)); (case aB => exact (by repeat (first | (with_reducible first | exact HB.out | apply below_alloc | apply pw_below_drewN | apply below_drew1) | exact HB.out))); (case aF => exact (fun _ _ => trivial)); (case aO => exact (by (with_reducible repeat (first | apply Kd.R_alloc | apply Kd.R_drewN | apply Kd.R_drew)); exact HO_3.out)); (case aS => exact (below_size (by repeat (first | (with_reducible first | exact HB.out | apply below_alloc | apply pw_below_drewN | apply below_drew1) | exact HB.out)))); (case aL => have := LMc10.out; omega); intro v250 w12 ho hb hg hat; rw [← Ny249.out] at ho; have n0_ := Aside0.mk (hb); have n1_ := Aside0.mk (ho); clear HB; clear HO_3; have HB := n0_; have HO251 := n1_; clear n0_ n1_; clear ho hb hg hat))
        go_roundg k1
        case measure => have := HK1.out; omega
        case rel => exact ⟨(y249), (wrap64 (x4_1 + t245)), (by first | rfl | (simp; done) | (simp [*]; done)), H', ⟨by have := HK1.out; omega⟩, ⟨by (with_reducible repeat (first | apply Kd.R_alloc | apply Kd.R_drewN | apply Kd.R_drew)); exact HO251.out⟩, ⟨by repeat (first | (with_reducible first | exact HB.out | apply below_alloc | apply pw_below_drewN | apply below_drew1) | exact HB.out)⟩⟩
       ·rw [if_neg c10] at H
        exact absurd H (by simp)
     ·rw [if_neg c4] at H
      exact absurd H (by simp)
    ·rw [if_neg c3] at H
     exact absurd H (by simp)
   ·rw [if_neg c2] at H
    have c2b0 : decide (x4_1 < (a0.size : Int)) = false := decide_eq_false c2
    clear c2
    obtain rfl := Option.some.inj H
    go_wp2
    go_ret
    exact ⟨_, by first | rfl | (simp [errW_none, errW_some] <;> rfl) | (simp [*, errW_none, errW_some] <;> rfl), by (with_reducible repeat (first | apply Kd.R_alloc | apply Kd.R_drewN | apply Kd.R_drew)); exact HO_3.out, by repeat (first | (with_reducible first | exact HB.out | apply below_alloc | apply pw_below_drewN | apply below_drew1) | exact HB.out)⟩

/-! ### impl_MarkClass: function 51 -/
def impl_MarkClass.f (a0 : Int) : Option (Int) := if a0 = 1584 then (some 9) else (if a0 = 1585 then (some 7) else ((impl_in.f a0 4096 4159).bind fun t252 => (if t252 = true then (if a0 < 4112 then (some 230) else (if a0 < 4128 then (some 220) else (if a0 < 4136 then (some 202) else (if a0 < 4144 then (some 1) else (if a0 < 4152 then (some 232) else (some 0)))))) else (some 0))))
set_option maxHeartbeats 8000000 in
set_option maxRecDepth 100000 in
theorem impl_MarkClass.calls (a0 : Int) (r : Int) (w : World) (h : impl_MarkClass.f a0 = some r) :
  Calls Tryd.prog 51 #[.int .i64 a0] w fun e w' => e = .returned (.int .i64 r) ∧ Drawn0 w w' := by
 have H : (if a0 = 1584 then (some 9) else (if a0 = 1585 then (some 7) else ((impl_in.f a0 4096 4159).bind fun t252 => (if t252 = true then (if a0 < 4112 then (some 230) else (if a0 < 4128 then (some 220) else (if a0 < 4136 then (some 202) else (if a0 < 4144 then (some 1) else (if a0 < 4152 then (some 232) else (some 0)))))) else (some 0))))) = some r := h
 clear h
 by_cases c2 : a0 = 1584
 ·rw [if_pos c2] at H
  have c2b0 : (a0 == 1584) = true := beq_iff_eq.mpr c2
  have c2b1 : (a0 != 1584) = false := bne_eq_false_iff_eq.mpr c2
  clear c2
  obtain rfl := Option.some.inj H
  go_enter Tryd.func51, Tryd.ntmps51
  go_wp2
  go_ret
  exact ⟨by first | rfl | (simp; done) | (simp [*]; done), by repeat (first | exact Drawn0.refl _ | apply Drawn0.step)⟩
 ·rw [if_neg c2] at H
  have c2b0 : (a0 == 1584) = false := beq_eq_false_iff_ne.mpr c2
  have c2b1 : (a0 != 1584) = true := bne_iff_ne.mpr c2
  by_cases c3 : a0 = 1585
  ·rw [if_pos c3] at H
   have c3b0 : (a0 == 1585) = true := beq_iff_eq.mpr c3
   have c3b1 : (a0 != 1585) = false := bne_eq_false_iff_eq.mpr c3
   clear c3
   obtain rfl := Option.some.inj H
   go_enter Tryd.func51, Tryd.ntmps51
   go_wp2
   go_ret
   exact ⟨by first | rfl | (simp; done) | (simp [*]; done), by repeat (first | exact Drawn0.refl _ | apply Drawn0.step)⟩
  ·rw [if_neg c3] at H
   have c3b0 : (a0 == 1585) = false := beq_eq_false_iff_ne.mpr c3
   have c3b1 : (a0 != 1585) = true := bne_iff_ne.mpr c3
   replace H := Option.bind_eq_some_iff.mp H
   obtain ⟨t252, A40, H⟩ := H
   replace H : (if t252 = true then (if a0 < 4112 then (some 230) else (if a0 < 4128 then (some 220) else (if a0 < 4136 then (some 202) else (if a0 < 4144 then (some 1) else (if a0 < 4152 then (some 232) else (some 0)))))) else (some 0)) = some r := H
   have A4 := Aside0.mk A40
   clear A40
   by_cases c5 : t252 = true
   ·subst c5
    have H1 : (if a0 < 4112 then (some 230) else (if a0 < 4128 then (some 220) else (if a0 < 4136 then (some 202) else (if a0 < 4144 then (some 1) else (if a0 < 4152 then (some 232) else (some 0)))))) = some r := by rw [if_pos rfl] at H; exact H
    clear H
    have H := H1
    clear H1
    by_cases c6 : a0 < 4112
    ·rw [if_pos c6] at H
     have c6b0 : decide (a0 < 4112) = true := decide_eq_true c6
     clear c6
     obtain rfl := Option.some.inj H
     go_enter Tryd.func51, Tryd.ntmps51
     go_wp2_with (first | ((with_reducible refine gate_callee (f := 67) rfl ?_); refine goesL_ (some 11) rfl rfl Tryd.func67 (by kernel_rfl) rfl #[.int .i64 a0, .int .i64 4096, .int .i64 4159] rfl (by (try simp only [List.map_toArray, List.map_cons, List.map_nil]); first | done | rfl | (simp only [List.length_drop, List.length_take]; rfl)) ?_; (with_reducible refine (impl_in.calls a0 4096 4159 true _ A4.out).mono ?_); rintro e w' ⟨rfl, ⟨nd, rfl⟩⟩; refine ⟨_, rfl, ?_⟩))
     go_ret
     exact ⟨by first | rfl | (simp; done) | (simp [*]; done), by repeat (first | exact Drawn0.refl _ | apply Drawn0.step)⟩
    ·rw [if_neg c6] at H
     have c6b0 : decide (a0 < 4112) = false := decide_eq_false c6
     clear c6
     by_cases c7 : a0 < 4128
     ·rw [if_pos c7] at H
      have c7b0 : decide (a0 < 4128) = true := decide_eq_true c7
      clear c7
      obtain rfl := Option.some.inj H
      go_enter Tryd.func51, Tryd.ntmps51
      go_wp2_with (first | ((with_reducible refine gate_callee (f := 67) rfl ?_); refine goesL_ (some 11) rfl rfl Tryd.func67 (by kernel_rfl) rfl #[.int .i64 a0, .int .i64 4096, .int .i64 4159] rfl (by (try simp only [List.map_toArray, List.map_cons, List.map_nil]); first | done | rfl | (simp only [List.length_drop, List.length_take]; rfl)) ?_; (with_reducible refine (impl_in.calls a0 4096 4159 true _ A4.out).mono ?_); rintro e w' ⟨rfl, ⟨nd, rfl⟩⟩; refine ⟨_, rfl, ?_⟩))
      go_ret
      exact ⟨by first | rfl | (simp; done) | (simp [*]; done), by repeat (first | exact Drawn0.refl _ | apply Drawn0.step)⟩
     ·rw [if_neg c7] at H
      have c7b0 : decide (a0 < 4128) = false := decide_eq_false c7
      clear c7
      by_cases c8 : a0 < 4136
      ·rw [if_pos c8] at H
       have c8b0 : decide (a0 < 4136) = true := decide_eq_true c8
       clear c8
       obtain rfl := Option.some.inj H
       go_enter Tryd.func51, Tryd.ntmps51
       go_wp2_with (first | ((with_reducible refine gate_callee (f := 67) rfl ?_); refine goesL_ (some 11) rfl rfl Tryd.func67 (by kernel_rfl) rfl #[.int .i64 a0, .int .i64 4096, .int .i64 4159] rfl (by (try simp only [List.map_toArray, List.map_cons, List.map_nil]); first | done | rfl | (simp only [List.length_drop, List.length_take]; rfl)) ?_; (with_reducible refine (impl_in.calls a0 4096 4159 true _ A4.out).mono ?_); rintro e w' ⟨rfl, ⟨nd, rfl⟩⟩; refine ⟨_, rfl, ?_⟩))
       go_ret
       exact ⟨by first | rfl | (simp; done) | (simp [*]; done), by repeat (first | exact Drawn0.refl _ | apply Drawn0.step)⟩
      ·rw [if_neg c8] at H
       have c8b0 : decide (a0 < 4136) = false := decide_eq_false c8
       clear c8
       by_cases c9 : a0 < 4144
       ·rw [if_pos c9] at H
        have c9b0 : decide (a0 < 4144) = true := decide_eq_true c9
        clear c9
        obtain rfl := Option.some.inj H
        go_enter Tryd.func51, Tryd.ntmps51
        go_wp2_with (first | ((with_reducible refine gate_callee (f := 67) rfl ?_); refine goesL_ (some 11) rfl rfl Tryd.func67 (by kernel_rfl) rfl #[.int .i64 a0, .int .i64 4096, .int .i64 4159] rfl (by (try simp only [List.map_toArray, List.map_cons, List.map_nil]); first | done | rfl | (simp only [List.length_drop, List.length_take]; rfl)) ?_; (with_reducible refine (impl_in.calls a0 4096 4159 true _ A4.out).mono ?_); rintro e w' ⟨rfl, ⟨nd, rfl⟩⟩; refine ⟨_, rfl, ?_⟩))
        go_ret
        exact ⟨by first | rfl | (simp; done) | (simp [*]; done), by repeat (first | exact Drawn0.refl _ | apply Drawn0.step)⟩
       ·rw [if_neg c9] at H
        have c9b0 : decide (a0 < 4144) = false := decide_eq_false c9
        clear c9
        by_cases c10 : a0 < 4152
        ·rw [if_pos c10] at H
         have c10b0 : decide (a0 < 4152) = true := decide_eq_true c10
         clear c10
         obtain rfl := Option.some.inj H
         go_enter Tryd.func51, Tryd.ntmps51
         go_wp2_with (first | ((with_reducible refine gate_callee (f := 67) rfl ?_); refine goesL_ (some 11) rfl rfl Tryd.func67 (by kernel_rfl) rfl #[.int .i64 a0, .int .i64 4096, .int .i64 4159] rfl (by (try simp only [List.map_toArray, List.map_cons, List.map_nil]); first | done | rfl | (simp only [List.length_drop, List.length_take]; rfl)) ?_; (with_reducible refine (impl_in.calls a0 4096 4159 true _ A4.out).mono ?_); rintro e w' ⟨rfl, ⟨nd, rfl⟩⟩; refine ⟨_, rfl, ?_⟩))
         go_ret
         exact ⟨by first | rfl | (simp; done) | (simp [*]; done), by repeat (first | exact Drawn0.refl _ | apply Drawn0.step)⟩
        ·rw [if_neg c10] at H
         have c10b0 : decide (a0 < 4152) = false := decide_eq_false c10
         clear c10
         obtain rfl := Option.some.inj H
         go_enter Tryd.func51, Tryd.ntmps51
         go_wp2_with (first | ((with_reducible refine gate_callee (f := 67) rfl ?_); refine goesL_ (some 11) rfl rfl Tryd.func67 (by kernel_rfl) rfl #[.int .i64 a0, .int .i64 4096, .int .i64 4159] rfl (by (try simp only [List.map_toArray, List.map_cons, List.map_nil]); first | done | rfl | (simp only [List.length_drop, List.length_take]; rfl)) ?_; (with_reducible refine (impl_in.calls a0 4096 4159 true _ A4.out).mono ?_); rintro e w' ⟨rfl, ⟨nd, rfl⟩⟩; refine ⟨_, rfl, ?_⟩))
         go_ret
         exact ⟨by first | rfl | (simp; done) | (simp [*]; done), by repeat (first | exact Drawn0.refl _ | apply Drawn0.step)⟩
   ·replace c5 := Bool.eq_false_iff.mpr c5
    subst c5
    have H1 : (some 0) = some r := by rw [if_neg (show ¬ (false = true) by decide)] at H; exact H
    clear H
    have H := H1
    clear H1
    obtain rfl := Option.some.inj H
    go_enter Tryd.func51, Tryd.ntmps51
    go_wp2_with (first | ((with_reducible refine gate_callee (f := 67) rfl ?_); refine goesL_ (some 11) rfl rfl Tryd.func67 (by kernel_rfl) rfl #[.int .i64 a0, .int .i64 4096, .int .i64 4159] rfl (by (try simp only [List.map_toArray, List.map_cons, List.map_nil]); first | done | rfl | (simp only [List.length_drop, List.length_take]; rfl)) ?_; (with_reducible refine (impl_in.calls a0 4096 4159 false _ A4.out).mono ?_); rintro e w' ⟨rfl, ⟨nd, rfl⟩⟩; refine ⟨_, rfl, ?_⟩))
    go_ret
    exact ⟨by first | rfl | (simp; done) | (simp [*]; done), by repeat (first | exact Drawn0.refl _ | apply Drawn0.step)⟩

/-! ### slices_Equal_int64_int64: function 52 -/
def slices_Equal_int64_int64.l0 : Nat → List Int → List Int → Int → Int → Option (Bool)
 | 0, _, _, _, _ => none
 | k + 1, x0, x1, x12, x13 => if x13 < x12 then (if 0 ≤ x13 then (if x13 < (x0.length : Int) then (if x13 < (x1.length : Int) then (if (rd x0 x13) = (rd x1 x13) then (slices_Equal_int64_int64.l0 k x0 x1 x12 (wrap64 (x13 + 1))) else (some false)) else (none)) else (none)) else (none)) else (some true)
def slices_Equal_int64_int64.f (k : Nat) (l0 : List Int) (l1 : List Int) : Option (Bool) := if (l0.length : Int) = (l1.length : Int) then (slices_Equal_int64_int64.l0 k l0 l1 (l0.length : Int) 0) else (some false)
set_option maxHeartbeats 8000000 in
set_option maxRecDepth 100000 in
theorem slices_Equal_int64_int64.calls (k : Nat) (A0 : Option Addr) (c0 : Nat) (l0 : List Int) (A1 : Option Addr) (c1 : Nat) (l1 : List Int) (r : Bool) (w : World) (hr0 : Kd.C (Kd.int .i64) w A0 l0.length l0) (hc0 : l0.length ≤ c0) (hr1 : Kd.C (Kd.int .i64) w A1 l1.length l1) (hc1 : l1.length ≤ c1) (h : slices_Equal_int64_int64.f k l0 l1 = some r) :
  Calls Tryd.prog 52 #[.slice A0 l0.length c0, .slice A1 l1.length c1] w fun e w' => e = .returned (.bool r) ∧ Drawn0 w w' := by
 have HR0 := Aside0.mk hr0
 have HC0 := Aside0.mk hc0
 clear hr0 hc0
 have HR1 := Aside0.mk hr1
 have HC1 := Aside0.mk hc1
 clear hr1 hc1
 have H : (if (l0.length : Int) = (l1.length : Int) then (slices_Equal_int64_int64.l0 k l0 l1 (l0.length : Int) 0) else (some false)) = some r := h
 clear h
 by_cases c3 : (l0.length : Int) = (l1.length : Int)
 ·rw [if_pos c3] at H
  have c3b0 : ((l0.length : Int) == (l1.length : Int)) = true := beq_iff_eq.mpr c3
  have c3b1 : ((l0.length : Int) != (l1.length : Int)) = false := bne_eq_false_iff_eq.mpr c3
  have c3b2 : (l0.length == l1.length) = true := by first | simpa using c3 | (simp at c3 ⊢; omega)
  clear c3
  have H' := Aside0.mk H
  clear H
  go_enter Tryd.func52, Tryd.ntmps52
  go_wp2
  repeat (go_quiet (fail); try go_wp2)
  go_loopg [13] k (fun kq v13 w' => ∃ (x13_1 : Int), v13 = .int .i64 x13_1 ∧ Aside0 (slices_Equal_int64_int64.l0 kq l0 l1 (l0.length : Int) x13_1 = some r) ∧ Aside0 (kq ≤ k) ∧ Drawn0 w w')
  case atStart => exact ⟨(0), (by first | rfl | (simp; done) | (simp [*]; done)), H', ⟨Nat.le_refl _⟩, by repeat (first | exact Drawn0.refl _ | apply Drawn0.step)⟩
  case round =>
   clear H'
   try clear c1
   try clear p2
   try clear c3
   try clear c3b0
   try clear c3b1
   try clear c3b2
   obtain ⟨x13_1, rfl, HA, HK1, ⟨m1, rfl⟩⟩ := hrel
   cases gk with
   | zero => exact absurd HA.out (by simp [slices_Equal_int64_int64.l0])
   | succ k1 =>
    have H := HA.out
    clear HA
    simp only [slices_Equal_int64_int64.l0] at H
    by_cases c4 : x13_1 < (l0.length : Int)
    ·rw [if_pos c4] at H
     have c4b0 : decide (x13_1 < (l0.length : Int)) = true := decide_eq_true c4
     clear c4
     by_cases c5 : 0 ≤ x13_1
     ·rw [if_pos c5] at H
      have c5b0 : decide (0 ≤ x13_1) = true := decide_eq_true c5
      clear c5
      by_cases c6 : x13_1 < (l0.length : Int)
      ·rw [if_pos c6] at H
       have c6b0 : decide (x13_1 < (l0.length : Int)) = true := decide_eq_true c6
       clear c6
       by_cases c7 : x13_1 < (l1.length : Int)
       ·rw [if_pos c7] at H
        have c7b0 : decide (x13_1 < (l1.length : Int)) = true := decide_eq_true c7
        clear c7
        by_cases c8 : (rd l0 x13_1) = (rd l1 x13_1)
        ·rw [if_pos c8] at H
         have c8b0 : ((rd l0 x13_1) == (rd l1 x13_1)) = true := beq_iff_eq.mpr c8
         have c8b1 : ((rd l0 x13_1) != (rd l1 x13_1)) = false := bne_eq_false_iff_eq.mpr c8
         clear c8
         have H' := Aside0.mk H
         clear H
         have p253 : 0 ≤ (x13_1 : Int) := of_decide_eq_true (by first | (with_reducible assumption) | assumption)
         have q253 : x13_1 < (l0.length : Int) := of_decide_eq_true (by first | (with_reducible assumption) | assumption)
         obtain ⟨ad253, e253, hx253_0⟩ := Kd.at_int HR0.out x13_1 p253 q253
         cases e253
         replace p253 := eq_true p253
         replace q253 := eq_true q253
         have p254 : 0 ≤ (x13_1 : Int) := of_decide_eq_true (by first | (with_reducible assumption) | assumption)
         have q254 : x13_1 < (l1.length : Int) := of_decide_eq_true (by first | (with_reducible assumption) | assumption)
         obtain ⟨ad254, e254, hx254_0⟩ := Kd.at_int HR1.out x13_1 p254 q254
         cases e254
         replace p254 := eq_true p254
         replace q254 := eq_true q254
         go_wp2
         repeat (go_quiet (fail); try go_wp2)
         go_roundg k1
         case measure => have := HK1.out; omega
         case rel => exact ⟨(wrap64 (x13_1 + 1)), (by first | rfl | (simp; done) | (simp [*]; done)), H', ⟨by have := HK1.out; omega⟩, by repeat (first | exact Drawn0.refl _ | apply Drawn0.step)⟩
        ·rw [if_neg c8] at H
         have c8b0 : ((rd l0 x13_1) == (rd l1 x13_1)) = false := beq_eq_false_iff_ne.mpr c8
         have c8b1 : ((rd l0 x13_1) != (rd l1 x13_1)) = true := bne_iff_ne.mpr c8
         obtain rfl := Option.some.inj H
         have p253 : 0 ≤ (x13_1 : Int) := of_decide_eq_true (by first | (with_reducible assumption) | assumption)
         have q253 : x13_1 < (l0.length : Int) := of_decide_eq_true (by first | (with_reducible assumption) | assumption)
         obtain ⟨ad253, e253, hx253_0⟩ := Kd.at_int HR0.out x13_1 p253 q253
         cases e253
         replace p253 := eq_true p253
         replace q253 := eq_true q253
         have p254 : 0 ≤ (x13_1 : Int) := of_decide_eq_true (by first | (with_reducible assumption) | assumption)
         have q254 : x13_1 < (l1.length : Int) := of_decide_eq_true (by first | (with_reducible assumption) | assumption)
         obtain ⟨ad254, e254, hx254_0⟩ := Kd.at_int HR1.out x13_1 p254 q254
         cases e254
         replace p254 := eq_true p254
         replace q254 := eq_true q254
         go_wp2
         repeat (go_quiet (fail); try go_wp2)
         go_ret
         exact ⟨by first | rfl | (simp; done) | (simp [*]; done), by repeat (first | exact Drawn0.refl _ | apply Drawn0.step)⟩
       ·rw [if_neg c7] at H
        exact absurd H (by simp)
      ·rw [if_neg c6] at H
       exact absurd H (by simp)
     ·rw [if_neg c5] at H
      exact absurd H (by simp)
    ·rw [if_neg c4] at H
     have c4b0 : decide (x13_1 < (l0.length : Int)) = false := decide_eq_false c4
     clear c4
     obtain rfl := Option.some.inj H
     go_wp2
     repeat (go_quiet (fail); try go_wp2)
     go_ret
     exact ⟨by first | rfl | (simp; done) | (simp [*]; done), by repeat (first | exact Drawn0.refl _ | apply Drawn0.step)⟩
 ·rw [if_neg c3] at H
  have c3b0 : ((l0.length : Int) == (l1.length : Int)) = false := beq_eq_false_iff_ne.mpr c3
  have c3b1 : ((l0.length : Int) != (l1.length : Int)) = true := bne_iff_ne.mpr c3
  have c3b2 : (l0.length == l1.length) = false := by first | simpa using c3 | (simp at c3 ⊢; omega)
  obtain rfl := Option.some.inj H
  go_enter Tryd.func52, Tryd.ntmps52
  go_wp2
  repeat (go_quiet (fail); try go_wp2)
  go_ret
  exact ⟨by first | rfl | (simp; done) | (simp [*]; done), by repeat (first | exact Drawn0.refl _ | apply Drawn0.step)⟩

/-! ### impl_letter: function 100 -/
def impl_letter.f (a0 : Int) : Option (Int) := if a0 < 26 then (some (wrap64 (65 + a0))) else (some (wrap64 ((wrap64 (97 + a0)) - 26)))
set_option maxHeartbeats 8000000 in
set_option maxRecDepth 100000 in
theorem impl_letter.calls (a0 : Int) (r : Int) (w : World) (h : impl_letter.f a0 = some r) :
  Calls Tryd.prog 100 #[.int .i64 a0] w fun e w' => e = .returned (.int .i64 r) ∧ Drawn0 w w' := by
 have H : (if a0 < 26 then (some (wrap64 (65 + a0))) else (some (wrap64 ((wrap64 (97 + a0)) - 26)))) = some r := h
 clear h
 by_cases c2 : a0 < 26
 ·rw [if_pos c2] at H
  have c2b0 : decide (a0 < 26) = true := decide_eq_true c2
  clear c2
  obtain rfl := Option.some.inj H
  go_enter Tryd.func100, Tryd.ntmps100
  go_wp2
  go_ret
  exact ⟨by first | rfl | (simp; done) | (simp [*]; done), by repeat (first | exact Drawn0.refl _ | apply Drawn0.step)⟩
 ·rw [if_neg c2] at H
  have c2b0 : decide (a0 < 26) = false := decide_eq_false c2
  clear c2
  obtain rfl := Option.some.inj H
  go_enter Tryd.func100, Tryd.ntmps100
  go_wp2
  go_ret
  exact ⟨by first | rfl | (simp; done) | (simp [*]; done), by repeat (first | exact Drawn0.refl _ | apply Drawn0.step)⟩

/-! ### impl_parts: function 90 -/
mutual
def impl_parts.j0 : Nat → Int → Bool → Bool → Option (List Int)
 | 0, _, _, _ => none
 | k + 1, x0, x1, x8 => if x8 = true then (if (wrap64 (Int.tdiv (wrap64 (x0 - 8192)) 512)) = 0 then ((impl_letter.f (wrap64 (Int.tdiv (Int.tmod (wrap64 (x0 - 8192)) 512) 8))).bind fun t256 => (some (([t256, wrap64 (4096 + (Int.tmod (Int.tmod (wrap64 (x0 - 8192)) 512) 8))] : List Int)))) else (if (wrap64 (Int.tdiv (wrap64 (x0 - 8192)) 512)) = 1 then ((impl_letter.f (wrap64 (Int.tdiv (Int.tmod (wrap64 (x0 - 8192)) 512) 8))).bind fun t260 => (some (([t260, wrap64 (4112 + (Int.tmod (Int.tmod (wrap64 (x0 - 8192)) 512) 8))] : List Int)))) else (some (([wrap64 (8704 + (Int.tmod (wrap64 (x0 - 8192)) 512)), 4096] : List Int))))) else ((impl_in.f x0 9728 9753).bind fun t267 => (if t267 = true then (some (([wrap64 ((wrap64 (65 + x0)) - 9728)] : List Int))) else ((impl_in.f x0 12288 23459).bind fun t271 => (if t271 = true then (if (Int.tmod (wrap64 (x0 - 12288)) 28) > 0 then (some (([wrap64 (x0 - (Int.tmod (wrap64 (x0 - 12288)) 28)), wrap64 (1856 + (Int.tmod (wrap64 (x0 - 12288)) 28))] : List Int))) else (some (([wrap64 (1792 + (wrap64 (Int.tdiv (wrap64 (Int.tdiv (wrap64 (x0 - 12288)) 28)) 21))), wrap64 (1824 + (Int.tmod (wrap64 (Int.tdiv (wrap64 (x0 - 12288)) 28)) 21))] : List Int)))) else (if x1 = true then ((impl_in.f x0 9984 10009).bind fun t278 => (if t278 = true then (some (([wrap64 ((wrap64 (65 + x0)) - 9984)] : List Int))) else ((impl_in.f x0 10016 10025).bind fun t282 => (if t282 = true then (some (([wrap64 ((wrap64 (48 + x0)) - 10016)] : List Int))) else (if x0 = 8064 then (impl_parts.j1 k x0 true) else (impl_parts.j1 k x0 (x0 == 160))))))) else (some ([] : List Int)))))))
def impl_parts.j1 : Nat → Int → Bool → Option (List Int)
 | 0, _, _ => none
 | k + 1, x0, x92 => if x92 = true then (some (([32] : List Int))) else ((impl_in.f x0 10032 10035).bind fun t289 => (if t289 = true then ((some (([(([102, 102] : List Int)), (([102, 105] : List Int)), (([102, 108] : List Int)), (([115, 116] : List Int))] : List (List Int)) : List (List Int))).bind fun y302 => (if 0 ≤ (wrap64 (x0 - 10032)) then (if (wrap64 (x0 - 10032)) < (y302.length : Int) then (some (rd_L4 y302 (wrap64 (x0 - 10032)))) else (none)) else (none))) else (some ([] : List Int))))
end
def impl_parts.f (k : Nat) (a0 : Int) (a1 : Bool) : Option (List Int) := (impl_in.f a0 8192 9631).bind fun t255 => (if t255 = true then (impl_parts.j0 k a0 a1 (decide ((Int.tmod (wrap64 (a0 - 8192)) 512) < 416))) else (impl_parts.j0 k a0 a1 false))
theorem rd4_ne {y : List (List Int)} {i : Int} (hy : y = (([(([102, 102] : List Int)), (([102, 105] : List Int)), (([102, 108] : List Int)), (([115, 116] : List Int))] : List (List Int)))) (h0 : 0 ≤ i) (h1 : i < (y.length : Int)) : ¬ rd_L4 y i = [] := by
 subst hy
 have h2 : i = 0 ∨ i = 1 ∨ i = 2 ∨ i = 3 := by simp at h1; omega
 rcases h2 with rfl | rfl | rfl | rfl <;> decide

set_option maxHeartbeats 8000000 in
set_option maxRecDepth 100000 in
theorem impl_parts.calls_nil (k : Nat) (a0 : Int) (a1 : Bool) (r : List Int) (w : World) (h : impl_parts.f k a0 a1 = some r) :
  Calls Tryd.prog 90 #[.int .i64 a0, .bool a1] w fun e w' => ∃ v0_ : Value, e = .returned (v0_) ∧ (r = [] → v0_ = .slice none 0 0) ∧ Kd.V (Kd.int .i64) 2 w' w.heap.size (fun k_ => (w.heap.size ≤ k_)) v0_ r ∧ Below w.heap.size w w' := by
 have HB := Aside0.mk (Below.refl w.heap.size w)
 have H : ((impl_in.f a0 8192 9631).bind fun t255 => (if t255 = true then (impl_parts.j0 k a0 a1 (decide ((Int.tmod (wrap64 (a0 - 8192)) 512) < 416))) else (impl_parts.j0 k a0 a1 false))) = some r := h
 clear h
 have HC3 := Aside0.mk H
 clear H
 go_enter Tryd.func90, Tryd.ntmps90
 go_upto_region 1 with (fail)
 go_cut [8] (fun v8 wc => ∃ (kq : Nat) (x8_2 : Bool), v8 = .bool x8_2 ∧ Aside0 (impl_parts.j0 kq a0 a1 x8_2 = some r) ∧ Aside0 (kq ≤ k) ∧ Aside0 (Below w.heap.size w wc))
 case first =>
  as_aux_lemma =>
   have H := HC3.out
   clear HC3
   replace H := Option.bind_eq_some_iff.mp H
   obtain ⟨t255, A40, H⟩ := H
   replace H : (if t255 = true then (impl_parts.j0 k a0 a1 (decide ((Int.tmod (wrap64 (a0 - 8192)) 512) < 416))) else (impl_parts.j0 k a0 a1 false)) = some r := H
   have A4 := Aside0.mk A40
   clear A40
   by_cases c5 : t255 = true
   ·subst c5
    have H1 : (impl_parts.j0 k a0 a1 (decide ((Int.tmod (wrap64 (a0 - 8192)) 512) < 416))) = some r := by rw [if_pos rfl] at H; exact H
    clear H
    have H := H1
    clear H1
    have H' := Aside0.mk H
    clear H
    go_wp2_with (first | ((with_reducible refine gate_callee (f := 67) rfl ?_); refine goesL_ (some 10) rfl rfl Tryd.func67 (by kernel_rfl) rfl #[.int .i64 a0, .int .i64 8192, .int .i64 9631] rfl (by (try simp only [List.map_toArray, List.map_cons, List.map_nil]); first | done | rfl | (simp only [List.length_drop, List.length_take]; rfl)) ?_; (with_reducible refine (impl_in.calls a0 8192 9631 true _ A4.out).mono ?_); rintro e w' ⟨rfl, ⟨nd, rfl⟩⟩; refine ⟨_, rfl, ?_⟩))
    go_meet
    case rel => exact ⟨_, (decide ((Int.tmod (wrap64 (a0 - 8192)) 512) < 416)), (by first | rfl | (simp; done) | (simp [*]; done)), H', ⟨by first | omega | exact Nat.le_refl _⟩, ⟨by repeat (first | (with_reducible first | exact HB.out | apply below_alloc | apply pw_below_drewN | apply below_drew1) | exact HB.out)⟩⟩
   ·replace c5 := Bool.eq_false_iff.mpr c5
    subst c5
    have H1 : (impl_parts.j0 k a0 a1 false) = some r := by rw [if_neg (show ¬ (false = true) by decide)] at H; exact H
    clear H
    have H := H1
    clear H1
    have H' := Aside0.mk H
    clear H
    go_wp2_with (first | ((with_reducible refine gate_callee (f := 67) rfl ?_); refine goesL_ (some 10) rfl rfl Tryd.func67 (by kernel_rfl) rfl #[.int .i64 a0, .int .i64 8192, .int .i64 9631] rfl (by (try simp only [List.map_toArray, List.map_cons, List.map_nil]); first | done | rfl | (simp only [List.length_drop, List.length_take]; rfl)) ?_; (with_reducible refine (impl_in.calls a0 8192 9631 false _ A4.out).mono ?_); rintro e w' ⟨rfl, ⟨nd, rfl⟩⟩; refine ⟨_, rfl, ?_⟩))
    go_meet
    case rel => exact ⟨_, (false), (by first | rfl | (simp; done) | (simp [*]; done)), H', ⟨by first | omega | exact Nat.le_refl _⟩, ⟨by repeat (first | (with_reducible first | exact HB.out | apply below_alloc | apply pw_below_drewN | apply below_drew1) | exact HB.out)⟩⟩
 case rest =>
  as_aux_lemma =>
   clear HC3
   try clear p2
   try clear c5
   obtain ⟨kq, x8_2, rfl, HA, HJ2, HB⟩ := hcut
   cases kq with
   | zero => exact absurd HA.out (by simp [impl_parts.j0])
   | succ kj2 =>
    have H := HA.out
    clear HA
    simp only [impl_parts.j0] at H
    by_cases c6 : x8_2 = true
    ·subst c6
     have H1 : (if (wrap64 (Int.tdiv (wrap64 (a0 - 8192)) 512)) = 0 then ((impl_letter.f (wrap64 (Int.tdiv (Int.tmod (wrap64 (a0 - 8192)) 512) 8))).bind fun t256 => (some (([t256, wrap64 (4096 + (Int.tmod (Int.tmod (wrap64 (a0 - 8192)) 512) 8))] : List Int)))) else (if (wrap64 (Int.tdiv (wrap64 (a0 - 8192)) 512)) = 1 then ((impl_letter.f (wrap64 (Int.tdiv (Int.tmod (wrap64 (a0 - 8192)) 512) 8))).bind fun t260 => (some (([t260, wrap64 (4112 + (Int.tmod (Int.tmod (wrap64 (a0 - 8192)) 512) 8))] : List Int)))) else (some (([wrap64 (8704 + (Int.tmod (wrap64 (a0 - 8192)) 512)), 4096] : List Int))))) = some r := by rw [if_pos rfl] at H; exact H
     clear H
     have H := H1
     clear H1
     by_cases c7 : (wrap64 (Int.tdiv (wrap64 (a0 - 8192)) 512)) = 0
     ·rw [if_pos c7] at H
      have c7b0 : ((wrap64 (Int.tdiv (wrap64 (a0 - 8192)) 512)) == 0) = true := beq_iff_eq.mpr c7
      have c7b1 : ((wrap64 (Int.tdiv (wrap64 (a0 - 8192)) 512)) != 0) = false := bne_eq_false_iff_eq.mpr c7
      clear c7
      replace H := Option.bind_eq_some_iff.mp H
      obtain ⟨t256, A80, H⟩ := H
      replace H : (some (([t256, wrap64 (4096 + (Int.tmod (Int.tmod (wrap64 (a0 - 8192)) 512) 8))] : List Int))) = some r := H
      have A8 := Aside0.mk A80
      clear A80
      obtain ⟨y257, hy257⟩ : ∃ y_ : List Int, y_ = (([t256, wrap64 (4096 + (Int.tmod (Int.tmod (wrap64 (a0 - 8192)) 512) 8))] : List Int)) := ⟨_, rfl⟩
      replace H : (some y257) = some r := by first | (rw [hy257]; with_reducible exact H) | (have H2_ := (Option.bind_some _ _).symm.trans H; rw [hy257]; with_reducible exact H2_) | (have H2_ := (Option.bind_some _ _).symm.trans H; with_reducible exact H2_) | with_reducible exact H | (rw [hy257]; exact H) | exact H
      have Ny257 := Aside0.mk hy257
      clear hy257
      obtain rfl := Option.some.inj H
      go_wp2_with (first | ((with_reducible refine gate_callee (f := 100) rfl ?_); refine goesL_ (some 27) rfl rfl Tryd.func100 (by kernel_rfl) rfl #[.int .i64 (wrap64 (Int.tdiv (Int.tmod (wrap64 (a0 - 8192)) 512) 8))] rfl (by (try simp only [List.map_toArray, List.map_cons, List.map_nil]); first | done | rfl | (simp only [List.length_drop, List.length_take]; rfl)) ?_; (with_reducible refine (impl_letter.calls (wrap64 (Int.tdiv (Int.tmod (wrap64 (a0 - 8192)) 512) 8)) t256 _ A8.out).mono ?_); rintro e w' ⟨rfl, ⟨nd, rfl⟩⟩; refine ⟨_, rfl, ?_⟩) | ((with_reducible refine gate_dst (N := 31) rfl ?_); refine Kd.R_lit (Kd.int .i64) _ 2 ?hg (N := 31) ?hd (xs := ([t256, wrap64 (4096 + (Int.tmod (Int.tmod (wrap64 (a0 - 8192)) 512) 8))] : List Int)) (inner := [.int .i64 t256, .int .i64 (wrap64 (4096 + (Int.tmod (Int.tmod (wrap64 (a0 - 8192)) 512) 8)))]) (ok := fun _ => True) (okp := fun _ => True) ?hr ?hp (fun _ hk => hk) trivial (Below.refl _ _) (Nat.le_refl _) (by simp) ?_; (case hd => rfl); (case hg => rfl); (case hr => first | (go_simp; done) | (go_simp; rfl)); (case hp => exact (Reps.one (show Kd.M (Kd.int .i64) _ _ _ t256 [.int .i64 t256] from rfl) (Reps.one (show Kd.M (Kd.int .i64) _ _ _ (wrap64 (4096 + (Int.tmod (Int.tmod (wrap64 (a0 - 8192)) 512) 8))) [.int .i64 (wrap64 (4096 + (Int.tmod (Int.tmod (wrap64 (a0 - 8192)) 512) 8)))] from rfl) (Reps.none _ _)))); intro v258 w9 ho10 hb hg_ hnew_; clear hg_ hnew_; (first | rw [← Ny257.out] at ho10 | (simp only [Int.reduceToNat] at ho10; rw [← Ny257.out] at ho10)); have n0_ := Aside0.mk (Kd.R_lower (Kd.R_newM (M := fun k_ => (w.heap.size ≤ k_)) ho10 (below_size (by repeat (first | (with_reducible first | exact HB.out | apply below_alloc | apply pw_below_drewN | apply below_drew1) | exact HB.out))) (fun k_ h_ => h_)) (below_size (by repeat (first | (with_reducible first | exact HB.out | apply below_alloc | apply pw_below_drewN | apply below_drew1) | exact HB.out)))); have n1_ := Aside0.mk (below_step (by repeat (first | (with_reducible first | exact HB.out | apply below_alloc | apply pw_below_drewN | apply below_drew1) | exact HB.out)) hb); clear HB; have HO259 := n0_; have HB := n1_; clear n0_ n1_; clear hb ho10))
      go_ret
      exact ⟨_, by first | rfl | (simp [errW_none, errW_some] <;> rfl) | (simp [*, errW_none, errW_some] <;> rfl), (fun hr_ => by first | (have hr2_ := hr_; rw [Ny257.out] at hr2_; exact absurd hr2_ (by simp))), Kd.R_V (by (with_reducible repeat (first | apply Kd.R_alloc | apply Kd.R_drewN | apply Kd.R_drew)); exact Kd.R_mono HO259.out (fun _ hk => hk.1)), by repeat (first | (with_reducible first | exact HB.out | apply below_alloc | apply pw_below_drewN | apply below_drew1) | exact HB.out)⟩
     ·rw [if_neg c7] at H
      have c7b0 : ((wrap64 (Int.tdiv (wrap64 (a0 - 8192)) 512)) == 0) = false := beq_eq_false_iff_ne.mpr c7
      have c7b1 : ((wrap64 (Int.tdiv (wrap64 (a0 - 8192)) 512)) != 0) = true := bne_iff_ne.mpr c7
      by_cases c11 : (wrap64 (Int.tdiv (wrap64 (a0 - 8192)) 512)) = 1
      ·rw [if_pos c11] at H
       have c11b0 : ((wrap64 (Int.tdiv (wrap64 (a0 - 8192)) 512)) == 1) = true := beq_iff_eq.mpr c11
       have c11b1 : ((wrap64 (Int.tdiv (wrap64 (a0 - 8192)) 512)) != 1) = false := bne_eq_false_iff_eq.mpr c11
       clear c11
       replace H := Option.bind_eq_some_iff.mp H
       obtain ⟨t260, A120, H⟩ := H
       replace H : (some (([t260, wrap64 (4112 + (Int.tmod (Int.tmod (wrap64 (a0 - 8192)) 512) 8))] : List Int))) = some r := H
       have A12 := Aside0.mk A120
       clear A120
       obtain ⟨y261, hy261⟩ : ∃ y_ : List Int, y_ = (([t260, wrap64 (4112 + (Int.tmod (Int.tmod (wrap64 (a0 - 8192)) 512) 8))] : List Int)) := ⟨_, rfl⟩
       replace H : (some y261) = some r := by first | (rw [hy261]; with_reducible exact H) | (have H2_ := (Option.bind_some _ _).symm.trans H; rw [hy261]; with_reducible exact H2_) | (have H2_ := (Option.bind_some _ _).symm.trans H; with_reducible exact H2_) | with_reducible exact H | (rw [hy261]; exact H) | exact H
       have Ny261 := Aside0.mk hy261
       clear hy261
       obtain rfl := Option.some.inj H
       go_wp2_with (first | ((with_reducible refine gate_callee (f := 100) rfl ?_); refine goesL_ (some 36) rfl rfl Tryd.func100 (by kernel_rfl) rfl #[.int .i64 (wrap64 (Int.tdiv (Int.tmod (wrap64 (a0 - 8192)) 512) 8))] rfl (by (try simp only [List.map_toArray, List.map_cons, List.map_nil]); first | done | rfl | (simp only [List.length_drop, List.length_take]; rfl)) ?_; (with_reducible refine (impl_letter.calls (wrap64 (Int.tdiv (Int.tmod (wrap64 (a0 - 8192)) 512) 8)) t260 _ A12.out).mono ?_); rintro e w' ⟨rfl, ⟨nd, rfl⟩⟩; refine ⟨_, rfl, ?_⟩) | ((with_reducible refine gate_dst (N := 40) rfl ?_); refine Kd.R_lit (Kd.int .i64) _ 2 ?hg (N := 40) ?hd (xs := ([t260, wrap64 (4112 + (Int.tmod (Int.tmod (wrap64 (a0 - 8192)) 512) 8))] : List Int)) (inner := [.int .i64 t260, .int .i64 (wrap64 (4112 + (Int.tmod (Int.tmod (wrap64 (a0 - 8192)) 512) 8)))]) (ok := fun _ => True) (okp := fun _ => True) ?hr ?hp (fun _ hk => hk) trivial (Below.refl _ _) (Nat.le_refl _) (by simp) ?_; (case hd => rfl); (case hg => rfl); (case hr => first | (go_simp; done) | (go_simp; rfl)); (case hp => exact (Reps.one (show Kd.M (Kd.int .i64) _ _ _ t260 [.int .i64 t260] from rfl) (Reps.one (show Kd.M (Kd.int .i64) _ _ _ (wrap64 (4112 + (Int.tmod (Int.tmod (wrap64 (a0 - 8192)) 512) 8))) [.int .i64 (wrap64 (4112 + (Int.tmod (Int.tmod (wrap64 (a0 - 8192)) 512) 8)))] from rfl) (Reps.none _ _)))); intro v262 w13 ho14 hb hg_ hnew_; clear hg_ hnew_; (first | rw [← Ny261.out] at ho14 | (simp only [Int.reduceToNat] at ho14; rw [← Ny261.out] at ho14)); have n0_ := Aside0.mk (Kd.R_lower (Kd.R_newM (M := fun k_ => (w.heap.size ≤ k_)) ho14 (below_size (by repeat (first | (with_reducible first | exact HB.out | apply below_alloc | apply pw_below_drewN | apply below_drew1) | exact HB.out))) (fun k_ h_ => h_)) (below_size (by repeat (first | (with_reducible first | exact HB.out | apply below_alloc | apply pw_below_drewN | apply below_drew1) | exact HB.out)))); have n1_ := Aside0.mk (below_step (by repeat (first | (with_reducible first | exact HB.out | apply below_alloc | apply pw_below_drewN | apply below_drew1) | exact HB.out)) hb); clear HB; have HO263 := n0_; have HB := n1_; clear n0_ n1_; clear hb ho14))
       go_ret
       exact ⟨_, by first | rfl | (simp [errW_none, errW_some] <;> rfl) | (simp [*, errW_none, errW_some] <;> rfl), (fun hr_ => by first | (have hr2_ := hr_; rw [Ny261.out] at hr2_; exact absurd hr2_ (by simp))), Kd.R_V (by (with_reducible repeat (first | apply Kd.R_alloc | apply Kd.R_drewN | apply Kd.R_drew)); exact Kd.R_mono HO263.out (fun _ hk => hk.1)), by repeat (first | (with_reducible first | exact HB.out | apply below_alloc | apply pw_below_drewN | apply below_drew1) | exact HB.out)⟩
      ·rw [if_neg c11] at H
       have c11b0 : ((wrap64 (Int.tdiv (wrap64 (a0 - 8192)) 512)) == 1) = false := beq_eq_false_iff_ne.mpr c11
       have c11b1 : ((wrap64 (Int.tdiv (wrap64 (a0 - 8192)) 512)) != 1) = true := bne_iff_ne.mpr c11
       obtain ⟨y264, hy264⟩ : ∃ y_ : List Int, y_ = (([wrap64 (8704 + (Int.tmod (wrap64 (a0 - 8192)) 512)), 4096] : List Int)) := ⟨_, rfl⟩
       replace H : (some y264) = some r := by first | (rw [hy264]; with_reducible exact H) | (have H2_ := (Option.bind_some _ _).symm.trans H; rw [hy264]; with_reducible exact H2_) | (have H2_ := (Option.bind_some _ _).symm.trans H; with_reducible exact H2_) | with_reducible exact H | (rw [hy264]; exact H) | exact H
       have Ny264 := Aside0.mk hy264
       clear hy264
       obtain rfl := Option.some.inj H
       go_wp2_with (first | ((with_reducible refine gate_dst (N := 43) rfl ?_); refine Kd.R_lit (Kd.int .i64) _ 2 ?hg (N := 43) ?hd (xs := ([wrap64 (8704 + (Int.tmod (wrap64 (a0 - 8192)) 512)), 4096] : List Int)) (inner := [.int .i64 (wrap64 (8704 + (Int.tmod (wrap64 (a0 - 8192)) 512))), .int .i64 4096]) (ok := fun _ => True) (okp := fun _ => True) ?hr ?hp (fun _ hk => hk) trivial (Below.refl _ _) (Nat.le_refl _) (by simp) ?_; (case hd => rfl); (case hg => rfl); (case hr => first | (go_simp; done) | (go_simp; rfl)); (case hp => exact (Reps.one (show Kd.M (Kd.int .i64) _ _ _ (wrap64 (8704 + (Int.tmod (wrap64 (a0 - 8192)) 512))) [.int .i64 (wrap64 (8704 + (Int.tmod (wrap64 (a0 - 8192)) 512)))] from rfl) (Reps.one (show Kd.M (Kd.int .i64) _ _ _ 4096 [.int .i64 4096] from rfl) (Reps.none _ _)))); intro v265 w15 ho16 hb hg_ hnew_; clear hg_ hnew_; (first | rw [← Ny264.out] at ho16 | (simp only [Int.reduceToNat] at ho16; rw [← Ny264.out] at ho16)); have n0_ := Aside0.mk (Kd.R_lower (Kd.R_newM (M := fun k_ => (w.heap.size ≤ k_)) ho16 (below_size (by repeat (first | (with_reducible first | exact HB.out | apply below_alloc | apply pw_below_drewN | apply below_drew1) | exact HB.out))) (fun k_ h_ => h_)) (below_size (by repeat (first | (with_reducible first | exact HB.out | apply below_alloc | apply pw_below_drewN | apply below_drew1) | exact HB.out)))); have n1_ := Aside0.mk (below_step (by repeat (first | (with_reducible first | exact HB.out | apply below_alloc | apply pw_below_drewN | apply below_drew1) | exact HB.out)) hb); clear HB; have HO266 := n0_; have HB := n1_; clear n0_ n1_; clear hb ho16))
       go_ret
       exact ⟨_, by first | rfl | (simp [errW_none, errW_some] <;> rfl) | (simp [*, errW_none, errW_some] <;> rfl), (fun hr_ => by first | (have hr2_ := hr_; rw [Ny264.out] at hr2_; exact absurd hr2_ (by simp))), Kd.R_V (by (with_reducible repeat (first | apply Kd.R_alloc | apply Kd.R_drewN | apply Kd.R_drew)); exact Kd.R_mono HO266.out (fun _ hk => hk.1)), by repeat (first | (with_reducible first | exact HB.out | apply below_alloc | apply pw_below_drewN | apply below_drew1) | exact HB.out)⟩
    ·replace c6 := Bool.eq_false_iff.mpr c6
     subst c6
     have H1 : ((impl_in.f a0 9728 9753).bind fun t267 => (if t267 = true then (some (([wrap64 ((wrap64 (65 + a0)) - 9728)] : List Int))) else ((impl_in.f a0 12288 23459).bind fun t271 => (if t271 = true then (if (Int.tmod (wrap64 (a0 - 12288)) 28) > 0 then (some (([wrap64 (a0 - (Int.tmod (wrap64 (a0 - 12288)) 28)), wrap64 (1856 + (Int.tmod (wrap64 (a0 - 12288)) 28))] : List Int))) else (some (([wrap64 (1792 + (wrap64 (Int.tdiv (wrap64 (Int.tdiv (wrap64 (a0 - 12288)) 28)) 21))), wrap64 (1824 + (Int.tmod (wrap64 (Int.tdiv (wrap64 (a0 - 12288)) 28)) 21))] : List Int)))) else (if a1 = true then ((impl_in.f a0 9984 10009).bind fun t278 => (if t278 = true then (some (([wrap64 ((wrap64 (65 + a0)) - 9984)] : List Int))) else ((impl_in.f a0 10016 10025).bind fun t282 => (if t282 = true then (some (([wrap64 ((wrap64 (48 + a0)) - 10016)] : List Int))) else (if a0 = 8064 then (impl_parts.j1 kj2 a0 true) else (impl_parts.j1 kj2 a0 (a0 == 160))))))) else (some ([] : List Int))))))) = some r := by rw [if_neg (show ¬ (false = true) by decide)] at H; exact H
     clear H
     have H := H1
     clear H1
     replace H := Option.bind_eq_some_iff.mp H
     obtain ⟨t267, A170, H⟩ := H
     replace H : (if t267 = true then (some (([wrap64 ((wrap64 (65 + a0)) - 9728)] : List Int))) else ((impl_in.f a0 12288 23459).bind fun t271 => (if t271 = true then (if (Int.tmod (wrap64 (a0 - 12288)) 28) > 0 then (some (([wrap64 (a0 - (Int.tmod (wrap64 (a0 - 12288)) 28)), wrap64 (1856 + (Int.tmod (wrap64 (a0 - 12288)) 28))] : List Int))) else (some (([wrap64 (1792 + (wrap64 (Int.tdiv (wrap64 (Int.tdiv (wrap64 (a0 - 12288)) 28)) 21))), wrap64 (1824 + (Int.tmod (wrap64 (Int.tdiv (wrap64 (a0 - 12288)) 28)) 21))] : List Int)))) else (if a1 = true then ((impl_in.f a0 9984 10009).bind fun t278 => (if t278 = true then (some (([wrap64 ((wrap64 (65 + a0)) - 9984)] : List Int))) else ((impl_in.f a0 10016 10025).bind fun t282 => (if t282 = true then (some (([wrap64 ((wrap64 (48 + a0)) - 10016)] : List Int))) else (if a0 = 8064 then (impl_parts.j1 kj2 a0 true) else (impl_parts.j1 kj2 a0 (a0 == 160))))))) else (some ([] : List Int)))))) = some r := H
     have A17 := Aside0.mk A170
     clear A170
     by_cases c18 : t267 = true
     ·subst c18
      have H1 : (some (([wrap64 ((wrap64 (65 + a0)) - 9728)] : List Int))) = some r := by rw [if_pos rfl] at H; exact H
      clear H
      have H := H1
      clear H1
      obtain ⟨y268, hy268⟩ : ∃ y_ : List Int, y_ = (([wrap64 ((wrap64 (65 + a0)) - 9728)] : List Int)) := ⟨_, rfl⟩
      replace H : (some y268) = some r := by first | (rw [hy268]; with_reducible exact H) | (have H2_ := (Option.bind_some _ _).symm.trans H; rw [hy268]; with_reducible exact H2_) | (have H2_ := (Option.bind_some _ _).symm.trans H; with_reducible exact H2_) | with_reducible exact H | (rw [hy268]; exact H) | exact H
      have Ny268 := Aside0.mk hy268
      clear hy268
      obtain rfl := Option.some.inj H
      go_wp2_with (first | ((with_reducible refine gate_callee (f := 67) rfl ?_); refine goesL_ (some 46) rfl rfl Tryd.func67 (by kernel_rfl) rfl #[.int .i64 a0, .int .i64 9728, .int .i64 9753] rfl (by (try simp only [List.map_toArray, List.map_cons, List.map_nil]); first | done | rfl | (simp only [List.length_drop, List.length_take]; rfl)) ?_; (with_reducible refine (impl_in.calls a0 9728 9753 true _ A17.out).mono ?_); rintro e w' ⟨rfl, ⟨nd, rfl⟩⟩; refine ⟨_, rfl, ?_⟩) | ((with_reducible refine gate_dst (N := 50) rfl ?_); refine Kd.R_lit (Kd.int .i64) _ 2 ?hg (N := 50) ?hd (xs := ([wrap64 ((wrap64 (65 + a0)) - 9728)] : List Int)) (inner := [.int .i64 (wrap64 ((wrap64 (65 + a0)) - 9728))]) (ok := fun _ => True) (okp := fun _ => True) ?hr ?hp (fun _ hk => hk) trivial (Below.refl _ _) (Nat.le_refl _) (by simp) ?_; (case hd => rfl); (case hg => rfl); (case hr => first | (go_simp; done) | (go_simp; rfl)); (case hp => exact (Reps.one (show Kd.M (Kd.int .i64) _ _ _ (wrap64 ((wrap64 (65 + a0)) - 9728)) [.int .i64 (wrap64 ((wrap64 (65 + a0)) - 9728))] from rfl) (Reps.none _ _))); intro v269 w19 ho20 hb hg_ hnew_; clear hg_ hnew_; (first | rw [← Ny268.out] at ho20 | (simp only [Int.reduceToNat] at ho20; rw [← Ny268.out] at ho20)); have n0_ := Aside0.mk (Kd.R_lower (Kd.R_newM (M := fun k_ => (w.heap.size ≤ k_)) ho20 (below_size (by repeat (first | (with_reducible first | exact HB.out | apply below_alloc | apply pw_below_drewN | apply below_drew1) | exact HB.out))) (fun k_ h_ => h_)) (below_size (by repeat (first | (with_reducible first | exact HB.out | apply below_alloc | apply pw_below_drewN | apply below_drew1) | exact HB.out)))); have n1_ := Aside0.mk (below_step (by repeat (first | (with_reducible first | exact HB.out | apply below_alloc | apply pw_below_drewN | apply below_drew1) | exact HB.out)) hb); clear HB; have HO270 := n0_; have HB := n1_; clear n0_ n1_; clear hb ho20))
      go_ret
      exact ⟨_, by first | rfl | (simp [errW_none, errW_some] <;> rfl) | (simp [*, errW_none, errW_some] <;> rfl), (fun hr_ => by first | (have hr2_ := hr_; rw [Ny268.out] at hr2_; exact absurd hr2_ (by simp))), Kd.R_V (by (with_reducible repeat (first | apply Kd.R_alloc | apply Kd.R_drewN | apply Kd.R_drew)); exact Kd.R_mono HO270.out (fun _ hk => hk.1)), by repeat (first | (with_reducible first | exact HB.out | apply below_alloc | apply pw_below_drewN | apply below_drew1) | exact HB.out)⟩
     ·replace c18 := Bool.eq_false_iff.mpr c18
      subst c18
      have H1 : ((impl_in.f a0 12288 23459).bind fun t271 => (if t271 = true then (if (Int.tmod (wrap64 (a0 - 12288)) 28) > 0 then (some (([wrap64 (a0 - (Int.tmod (wrap64 (a0 - 12288)) 28)), wrap64 (1856 + (Int.tmod (wrap64 (a0 - 12288)) 28))] : List Int))) else (some (([wrap64 (1792 + (wrap64 (Int.tdiv (wrap64 (Int.tdiv (wrap64 (a0 - 12288)) 28)) 21))), wrap64 (1824 + (Int.tmod (wrap64 (Int.tdiv (wrap64 (a0 - 12288)) 28)) 21))] : List Int)))) else (if a1 = true then ((impl_in.f a0 9984 10009).bind fun t278 => (if t278 = true then (some (([wrap64 ((wrap64 (65 + a0)) - 9984)] : List Int))) else ((impl_in.f a0 10016 10025).bind fun t282 => (if t282 = true then (some (([wrap64 ((wrap64 (48 + a0)) - 10016)] : List Int))) else (if a0 = 8064 then (impl_parts.j1 kj2 a0 true) else (impl_parts.j1 kj2 a0 (a0 == 160))))))) else (some ([] : List Int))))) = some r := by rw [if_neg (show ¬ (false = true) by decide)] at H; exact H
      clear H
      have H := H1
      clear H1
      replace H := Option.bind_eq_some_iff.mp H
      obtain ⟨t271, A210, H⟩ := H
      replace H : (if t271 = true then (if (Int.tmod (wrap64 (a0 - 12288)) 28) > 0 then (some (([wrap64 (a0 - (Int.tmod (wrap64 (a0 - 12288)) 28)), wrap64 (1856 + (Int.tmod (wrap64 (a0 - 12288)) 28))] : List Int))) else (some (([wrap64 (1792 + (wrap64 (Int.tdiv (wrap64 (Int.tdiv (wrap64 (a0 - 12288)) 28)) 21))), wrap64 (1824 + (Int.tmod (wrap64 (Int.tdiv (wrap64 (a0 - 12288)) 28)) 21))] : List Int)))) else (if a1 = true then ((impl_in.f a0 9984 10009).bind fun t278 => (if t278 = true then (some (([wrap64 ((wrap64 (65 + a0)) - 9984)] : List Int))) else ((impl_in.f a0 10016 10025).bind fun t282 => (if t282 = true then (some (([wrap64 ((wrap64 (48 + a0)) - 10016)] : List Int))) else (if a0 = 8064 then (impl_parts.j1 kj2 a0 true) else (impl_parts.j1 kj2 a0 (a0 == 160))))))) else (some ([] : List Int)))) = some r := H
      have A21 := Aside0.mk A210
      clear A210
      by_cases c22 : t271 = true
      ·subst c22
       have H1 : (if (Int.tmod (wrap64 (a0 - 12288)) 28) > 0 then (some (([wrap64 (a0 - (Int.tmod (wrap64 (a0 - 12288)) 28)), wrap64 (1856 + (Int.tmod (wrap64 (a0 - 12288)) 28))] : List Int))) else (some (([wrap64 (1792 + (wrap64 (Int.tdiv (wrap64 (Int.tdiv (wrap64 (a0 - 12288)) 28)) 21))), wrap64 (1824 + (Int.tmod (wrap64 (Int.tdiv (wrap64 (a0 - 12288)) 28)) 21))] : List Int)))) = some r := by rw [if_pos rfl] at H; exact H
       clear H
       have H := H1
       clear H1
       by_cases c23 : (Int.tmod (wrap64 (a0 - 12288)) 28) > 0
       ·rw [if_pos c23] at H
        have c23b0 : decide (0 < (Int.tmod (wrap64 (a0 - 12288)) 28)) = true := decide_eq_true c23
        clear c23
        obtain ⟨y272, hy272⟩ : ∃ y_ : List Int, y_ = (([wrap64 (a0 - (Int.tmod (wrap64 (a0 - 12288)) 28)), wrap64 (1856 + (Int.tmod (wrap64 (a0 - 12288)) 28))] : List Int)) := ⟨_, rfl⟩
        replace H : (some y272) = some r := by first | (rw [hy272]; with_reducible exact H) | (have H2_ := (Option.bind_some _ _).symm.trans H; rw [hy272]; with_reducible exact H2_) | (have H2_ := (Option.bind_some _ _).symm.trans H; with_reducible exact H2_) | with_reducible exact H | (rw [hy272]; exact H) | exact H
        have Ny272 := Aside0.mk hy272
        clear hy272
        obtain rfl := Option.some.inj H
        go_wp2_with (first | ((with_reducible refine gate_callee (f := 67) rfl ?_); refine goesL_ (some 46) rfl rfl Tryd.func67 (by kernel_rfl) rfl #[.int .i64 a0, .int .i64 9728, .int .i64 9753] rfl (by (try simp only [List.map_toArray, List.map_cons, List.map_nil]); first | done | rfl | (simp only [List.length_drop, List.length_take]; rfl)) ?_; (with_reducible refine (impl_in.calls a0 9728 9753 false _ A17.out).mono ?_); rintro e w' ⟨rfl, ⟨nd, rfl⟩⟩; refine ⟨_, rfl, ?_⟩) | ((with_reducible refine gate_callee (f := 67) rfl ?_); refine goesL_ (some 53) rfl rfl Tryd.func67 (by kernel_rfl) rfl #[.int .i64 a0, .int .i64 12288, .int .i64 23459] rfl (by (try simp only [List.map_toArray, List.map_cons, List.map_nil]); first | done | rfl | (simp only [List.length_drop, List.length_take]; rfl)) ?_; (with_reducible refine (impl_in.calls a0 12288 23459 true _ A21.out).mono ?_); rintro e w' ⟨rfl, ⟨nd, rfl⟩⟩; refine ⟨_, rfl, ?_⟩) | ((with_reducible refine gate_dst (N := 65) rfl ?_); refine Kd.R_lit (Kd.int .i64) _ 2 ?hg (N := 65) ?hd (xs := ([wrap64 (a0 - (Int.tmod (wrap64 (a0 - 12288)) 28)), wrap64 (1856 + (Int.tmod (wrap64 (a0 - 12288)) 28))] : List Int)) (inner := [.int .i64 (wrap64 (a0 - (Int.tmod (wrap64 (a0 - 12288)) 28))), .int .i64 (wrap64 (1856 + (Int.tmod (wrap64 (a0 - 12288)) 28)))]) (ok := fun _ => True) (okp := fun _ => True) ?hr ?hp (fun _ hk => hk) trivial (Below.refl _ _) (Nat.le_refl _) (by simp) ?_; (case hd => rfl); (case hg => rfl); (case hr => first | (go_simp; done) | (go_simp; rfl)); (case hp => exact (Reps.one (show Kd.M (Kd.int .i64) _ _ _ (wrap64 (a0 - (Int.tmod (wrap64 (a0 - 12288)) 28))) [.int .i64 (wrap64 (a0 - (Int.tmod (wrap64 (a0 - 12288)) 28)))] from rfl) (Reps.one (show Kd.M (Kd.int .i64) _ _ _ (wrap64 (1856 + (Int.tmod (wrap64 (a0 - 12288)) 28))) [.int .i64 (wrap64 (1856 + (Int.tmod (wrap64 (a0 - 12288)) 28)))] from rfl) (Reps.none _ _)))); intro v273 w24 ho25 hb hg_ hnew_; clear hg_ hnew_; (first | rw [← Ny272.out] at ho25 | (simp only [Int.reduceToNat] at ho25; rw [← Ny272.out] at ho25)); have n0_ := Aside0.mk (Kd.R_lower (Kd.R_newM (M := fun k_ => (w.heap.size ≤ k_)) ho25 (below_size (by repeat (first | (with_reducible first | exact HB.out | apply below_alloc | apply pw_below_drewN | apply below_drew1) | exact HB.out))) (fun k_ h_ => h_)) (below_size (by repeat (first | (with_reducible first | exact HB.out | apply below_alloc | apply pw_below_drewN | apply below_drew1) | exact HB.out)))); have n1_ := Aside0.mk (below_step (by repeat (first | (with_reducible first | exact HB.out | apply below_alloc | apply pw_below_drewN | apply below_drew1) | exact HB.out)) hb); clear HB; have HO274 := n0_; have HB := n1_; clear n0_ n1_; clear hb ho25))
        go_ret
        exact ⟨_, by first | rfl | (simp [errW_none, errW_some] <;> rfl) | (simp [*, errW_none, errW_some] <;> rfl), (fun hr_ => by first | (have hr2_ := hr_; rw [Ny272.out] at hr2_; exact absurd hr2_ (by simp))), Kd.R_V (by (with_reducible repeat (first | apply Kd.R_alloc | apply Kd.R_drewN | apply Kd.R_drew)); exact Kd.R_mono HO274.out (fun _ hk => hk.1)), by repeat (first | (with_reducible first | exact HB.out | apply below_alloc | apply pw_below_drewN | apply below_drew1) | exact HB.out)⟩
       ·rw [if_neg c23] at H
        have c23b0 : decide (0 < (Int.tmod (wrap64 (a0 - 12288)) 28)) = false := decide_eq_false c23
        clear c23
        obtain ⟨y275, hy275⟩ : ∃ y_ : List Int, y_ = (([wrap64 (1792 + (wrap64 (Int.tdiv (wrap64 (Int.tdiv (wrap64 (a0 - 12288)) 28)) 21))), wrap64 (1824 + (Int.tmod (wrap64 (Int.tdiv (wrap64 (a0 - 12288)) 28)) 21))] : List Int)) := ⟨_, rfl⟩
        replace H : (some y275) = some r := by first | (rw [hy275]; with_reducible exact H) | (have H2_ := (Option.bind_some _ _).symm.trans H; rw [hy275]; with_reducible exact H2_) | (have H2_ := (Option.bind_some _ _).symm.trans H; with_reducible exact H2_) | with_reducible exact H | (rw [hy275]; exact H) | exact H
        have Ny275 := Aside0.mk hy275
        clear hy275
        obtain rfl := Option.some.inj H
        go_wp2_with (first | ((with_reducible refine gate_callee (f := 67) rfl ?_); refine goesL_ (some 46) rfl rfl Tryd.func67 (by kernel_rfl) rfl #[.int .i64 a0, .int .i64 9728, .int .i64 9753] rfl (by (try simp only [List.map_toArray, List.map_cons, List.map_nil]); first | done | rfl | (simp only [List.length_drop, List.length_take]; rfl)) ?_; (with_reducible refine (impl_in.calls a0 9728 9753 false _ A17.out).mono ?_); rintro e w' ⟨rfl, ⟨nd, rfl⟩⟩; refine ⟨_, rfl, ?_⟩) | ((with_reducible refine gate_callee (f := 67) rfl ?_); refine goesL_ (some 53) rfl rfl Tryd.func67 (by kernel_rfl) rfl #[.int .i64 a0, .int .i64 12288, .int .i64 23459] rfl (by (try simp only [List.map_toArray, List.map_cons, List.map_nil]); first | done | rfl | (simp only [List.length_drop, List.length_take]; rfl)) ?_; (with_reducible refine (impl_in.calls a0 12288 23459 true _ A21.out).mono ?_); rintro e w' ⟨rfl, ⟨nd, rfl⟩⟩; refine ⟨_, rfl, ?_⟩) | ((with_reducible refine gate_dst (N := 74) rfl ?_); refine Kd.R_lit (Kd.int .i64) _ 2 ?hg (N := 74) ?hd (xs := ([wrap64 (1792 + (wrap64 (Int.tdiv (wrap64 (Int.tdiv (wrap64 (a0 - 12288)) 28)) 21))), wrap64 (1824 + (Int.tmod (wrap64 (Int.tdiv (wrap64 (a0 - 12288)) 28)) 21))] : List Int)) (inner := [.int .i64 (wrap64 (1792 + (wrap64 (Int.tdiv (wrap64 (Int.tdiv (wrap64 (a0 - 12288)) 28)) 21)))), .int .i64 (wrap64 (1824 + (Int.tmod (wrap64 (Int.tdiv (wrap64 (a0 - 12288)) 28)) 21)))]) (ok := fun _ => True) (okp := fun _ => True) ?hr ?hp (fun _ hk => hk) trivial (Below.refl _ _) (Nat.le_refl _) (by simp) ?_; (case hd => rfl); (case hg => rfl); (case hr => first | (go_simp; done) | (go_simp; rfl)); (case hp => exact (Reps.one (show Kd.M (Kd.int .i64) _ _ _ (wrap64 (1792 + (wrap64 (Int.tdiv (wrap64 (Int.tdiv (wrap64 (a0 - 12288)) 28)) 21)))) [.int .i64 (wrap64 (1792 + (wrap64 (Int.tdiv (wrap64 (Int.tdiv (wrap64 (a0 - 12288)) 28)) 21))))] from rfl) (Reps.one (show Kd.M (Kd.int .i64) _ _ _ (wrap64 (1824 + (Int.tmod (wrap64 (Int.tdiv (wrap64 (a0 - 12288)) 28)) 21))) [.int .i64 (wrap64 (1824 + (Int.tmod (wrap64 (Int.tdiv (wrap64 (a0 - 12288)) 28)) 21)))] from rfl) (Reps.none _ _)))); intro v276 w26 ho27 hb hg_ hnew_; clear hg_ hnew_; (first | rw [← Ny275.out] at ho27 | (simp only [Int.reduceToNat] at ho27; rw [← Ny275.out] at ho27)); have n0_ := Aside0.mk (Kd.R_lower (Kd.R_newM (M := fun k_ => (w.heap.size ≤ k_)) ho27 (below_size (by repeat (first | (with_reducible first | exact HB.out | apply below_alloc | apply pw_below_drewN | apply below_drew1) | exact HB.out))) (fun k_ h_ => h_)) (below_size (by repeat (first | (with_reducible first | exact HB.out | apply below_alloc | apply pw_below_drewN | apply below_drew1) | exact HB.out)))); have n1_ := Aside0.mk (below_step (by repeat (first | (with_reducible first | exact HB.out | apply below_alloc | apply pw_below_drewN | apply below_drew1) | exact HB.out)) hb); clear HB; have HO277 := n0_; have HB := n1_; clear n0_ n1_; clear hb ho27))
        go_ret
        exact ⟨_, by first | rfl | (simp [errW_none, errW_some] <;> rfl) | (simp [*, errW_none, errW_some] <;> rfl), (fun hr_ => by first | (have hr2_ := hr_; rw [Ny275.out] at hr2_; exact absurd hr2_ (by simp))), Kd.R_V (by (with_reducible repeat (first | apply Kd.R_alloc | apply Kd.R_drewN | apply Kd.R_drew)); exact Kd.R_mono HO277.out (fun _ hk => hk.1)), by repeat (first | (with_reducible first | exact HB.out | apply below_alloc | apply pw_below_drewN | apply below_drew1) | exact HB.out)⟩
      ·replace c22 := Bool.eq_false_iff.mpr c22
       subst c22
       have H1 : (if a1 = true then ((impl_in.f a0 9984 10009).bind fun t278 => (if t278 = true then (some (([wrap64 ((wrap64 (65 + a0)) - 9984)] : List Int))) else ((impl_in.f a0 10016 10025).bind fun t282 => (if t282 = true then (some (([wrap64 ((wrap64 (48 + a0)) - 10016)] : List Int))) else (if a0 = 8064 then (impl_parts.j1 kj2 a0 true) else (impl_parts.j1 kj2 a0 (a0 == 160))))))) else (some ([] : List Int))) = some r := by rw [if_neg (show ¬ (false = true) by decide)] at H; exact H
       clear H
       have H := H1
       clear H1
       by_cases c28 : a1 = true
       ·subst c28
        have H1 : ((impl_in.f a0 9984 10009).bind fun t278 => (if t278 = true then (some (([wrap64 ((wrap64 (65 + a0)) - 9984)] : List Int))) else ((impl_in.f a0 10016 10025).bind fun t282 => (if t282 = true then (some (([wrap64 ((wrap64 (48 + a0)) - 10016)] : List Int))) else (if a0 = 8064 then (impl_parts.j1 kj2 a0 true) else (impl_parts.j1 kj2 a0 (a0 == 160))))))) = some r := by rw [if_pos rfl] at H; exact H
        clear H
        have H := H1
        clear H1
        replace H := Option.bind_eq_some_iff.mp H
        obtain ⟨t278, A290, H⟩ := H
        replace H : (if t278 = true then (some (([wrap64 ((wrap64 (65 + a0)) - 9984)] : List Int))) else ((impl_in.f a0 10016 10025).bind fun t282 => (if t282 = true then (some (([wrap64 ((wrap64 (48 + a0)) - 10016)] : List Int))) else (if a0 = 8064 then (impl_parts.j1 kj2 a0 true) else (impl_parts.j1 kj2 a0 (a0 == 160)))))) = some r := H
        have A29 := Aside0.mk A290
        clear A290
        by_cases c30 : t278 = true
        ·subst c30
         have H1 : (some (([wrap64 ((wrap64 (65 + a0)) - 9984)] : List Int))) = some r := by rw [if_pos rfl] at H; exact H
         clear H
         have H := H1
         clear H1
         obtain ⟨y279, hy279⟩ : ∃ y_ : List Int, y_ = (([wrap64 ((wrap64 (65 + a0)) - 9984)] : List Int)) := ⟨_, rfl⟩
         replace H : (some y279) = some r := by first | (rw [hy279]; with_reducible exact H) | (have H2_ := (Option.bind_some _ _).symm.trans H; rw [hy279]; with_reducible exact H2_) | (have H2_ := (Option.bind_some _ _).symm.trans H; with_reducible exact H2_) | with_reducible exact H | (rw [hy279]; exact H) | exact H
         have Ny279 := Aside0.mk hy279
         clear hy279
         obtain rfl := Option.some.inj H
         go_wp2_with (first | ((with_reducible refine gate_callee (f := 67) rfl ?_); refine goesL_ (some 46) rfl rfl Tryd.func67 (by kernel_rfl) rfl #[.int .i64 a0, .int .i64 9728, .int .i64 9753] rfl (by (try simp only [List.map_toArray, List.map_cons, List.map_nil]); first | done | rfl | (simp only [List.length_drop, List.length_take]; rfl)) ?_; (with_reducible refine (impl_in.calls a0 9728 9753 false _ A17.out).mono ?_); rintro e w' ⟨rfl, ⟨nd, rfl⟩⟩; refine ⟨_, rfl, ?_⟩) | ((with_reducible refine gate_callee (f := 67) rfl ?_); refine goesL_ (some 53) rfl rfl Tryd.func67 (by kernel_rfl) rfl #[.int .i64 a0, .int .i64 12288, .int .i64 23459] rfl (by (try simp only [List.map_toArray, List.map_cons, List.map_nil]); first | done | rfl | (simp only [List.length_drop, List.length_take]; rfl)) ?_; (with_reducible refine (impl_in.calls a0 12288 23459 false _ A21.out).mono ?_); rintro e w' ⟨rfl, ⟨nd, rfl⟩⟩; refine ⟨_, rfl, ?_⟩) | ((with_reducible refine gate_callee (f := 67) rfl ?_); refine goesL_ (some 80) rfl rfl Tryd.func67 (by kernel_rfl) rfl #[.int .i64 a0, .int .i64 9984, .int .i64 10009] rfl (by (try simp only [List.map_toArray, List.map_cons, List.map_nil]); first | done | rfl | (simp only [List.length_drop, List.length_take]; rfl)) ?_; (with_reducible refine (impl_in.calls a0 9984 10009 true _ A29.out).mono ?_); rintro e w' ⟨rfl, ⟨nd, rfl⟩⟩; refine ⟨_, rfl, ?_⟩) | ((with_reducible refine gate_dst (N := 84) rfl ?_); refine Kd.R_lit (Kd.int .i64) _ 2 ?hg (N := 84) ?hd (xs := ([wrap64 ((wrap64 (65 + a0)) - 9984)] : List Int)) (inner := [.int .i64 (wrap64 ((wrap64 (65 + a0)) - 9984))]) (ok := fun _ => True) (okp := fun _ => True) ?hr ?hp (fun _ hk => hk) trivial (Below.refl _ _) (Nat.le_refl _) (by simp) ?_; (case hd => rfl); (case hg => rfl); (case hr => first | (go_simp; done) | (go_simp; rfl)); (case hp => exact (Reps.one (show Kd.M (Kd.int .i64) _ _ _ (wrap64 ((wrap64 (65 + a0)) - 9984)) [.int .i64 (wrap64 ((wrap64 (65 + a0)) - 9984))] from rfl) (Reps.none _ _))); intro v280 w31 ho32 hb hg_ hnew_; clear hg_ hnew_; (first | rw [← Ny279.out] at ho32 | (simp only [Int.reduceToNat] at ho32; rw [← Ny279.out] at ho32)); have n0_ := Aside0.mk (Kd.R_lower (Kd.R_newM (M := fun k_ => (w.heap.size ≤ k_)) ho32 (below_size (by repeat (first | (with_reducible first | exact HB.out | apply below_alloc | apply pw_below_drewN | apply below_drew1) | exact HB.out))) (fun k_ h_ => h_)) (below_size (by repeat (first | (with_reducible first | exact HB.out | apply below_alloc | apply pw_below_drewN | apply below_drew1) | exact HB.out)))); have n1_ := Aside0.mk (below_step (by repeat (first | (with_reducible first | exact HB.out | apply below_alloc | apply pw_below_drewN | apply below_drew1) | exact HB.out)) hb); clear HB; have HO281 := n0_; have HB := n1_; clear n0_ n1_; clear hb ho32))
         go_ret
         exact ⟨_, by first | rfl | (simp [errW_none, errW_some] <;> rfl) | (simp [*, errW_none, errW_some] <;> rfl), (fun hr_ => by first | (have hr2_ := hr_; rw [Ny279.out] at hr2_; exact absurd hr2_ (by simp))), Kd.R_V (by (with_reducible repeat (first | apply Kd.R_alloc | apply Kd.R_drewN | apply Kd.R_drew)); exact Kd.R_mono HO281.out (fun _ hk => hk.1)), by repeat (first | (with_reducible first | exact HB.out | apply below_alloc | apply pw_below_drewN | apply below_drew1) | exact HB.out)⟩
        ·replace c30 := Bool.eq_false_iff.mpr c30
         subst c30
         have H1 : ((impl_in.f a0 10016 10025).bind fun t282 => (if t282 = true then (some (([wrap64 ((wrap64 (48 + a0)) - 10016)] : List Int))) else (if a0 = 8064 then (impl_parts.j1 kj2 a0 true) else (impl_parts.j1 kj2 a0 (a0 == 160))))) = some r := by rw [if_neg (show ¬ (false = true) by decide)] at H; exact H
         clear H
         have H := H1
         clear H1
         replace H := Option.bind_eq_some_iff.mp H
         obtain ⟨t282, A330, H⟩ := H
         replace H : (if t282 = true then (some (([wrap64 ((wrap64 (48 + a0)) - 10016)] : List Int))) else (if a0 = 8064 then (impl_parts.j1 kj2 a0 true) else (impl_parts.j1 kj2 a0 (a0 == 160)))) = some r := H
         have A33 := Aside0.mk A330
         clear A330
         by_cases c34 : t282 = true
         ·subst c34
          have H1 : (some (([wrap64 ((wrap64 (48 + a0)) - 10016)] : List Int))) = some r := by rw [if_pos rfl] at H; exact H
          clear H
          have H := H1
          clear H1
          obtain ⟨y283, hy283⟩ : ∃ y_ : List Int, y_ = (([wrap64 ((wrap64 (48 + a0)) - 10016)] : List Int)) := ⟨_, rfl⟩
          replace H : (some y283) = some r := by first | (rw [hy283]; with_reducible exact H) | (have H2_ := (Option.bind_some _ _).symm.trans H; rw [hy283]; with_reducible exact H2_) | (have H2_ := (Option.bind_some _ _).symm.trans H; with_reducible exact H2_) | with_reducible exact H | (rw [hy283]; exact H) | exact H
          have Ny283 := Aside0.mk hy283
          clear hy283
          obtain rfl := Option.some.inj H
          go_wp2_with (first | ((with_reducible refine gate_callee (f := 67) rfl ?_); refine goesL_ (some 46) rfl rfl Tryd.func67 (by kernel_rfl) rfl #[.int .i64 a0, .int .i64 9728, .int .i64 9753] rfl (by (try simp only [List.map_toArray, List.map_cons, List.map_nil]); first | done | rfl | (simp only [List.length_drop, List.length_take]; rfl)) ?_; (with_reducible refine (impl_in.calls a0 9728 9753 false _ A17.out).mono ?_); rintro e w' ⟨rfl, ⟨nd, rfl⟩⟩; refine ⟨_, rfl, ?_⟩) | ((with_reducible refine gate_callee (f := 67) rfl ?_); refine goesL_ (some 53) rfl rfl Tryd.func67 (by kernel_rfl) rfl #[.int .i64 a0, .int .i64 12288, .int .i64 23459] rfl (by (try simp only [List.map_toArray, List.map_cons, List.map_nil]); first | done | rfl | (simp only [List.length_drop, List.length_take]; rfl)) ?_; (with_reducible refine (impl_in.calls a0 12288 23459 false _ A21.out).mono ?_); rintro e w' ⟨rfl, ⟨nd, rfl⟩⟩; refine ⟨_, rfl, ?_⟩) | ((with_reducible refine gate_callee (f := 67) rfl ?_); refine goesL_ (some 80) rfl rfl Tryd.func67 (by kernel_rfl) rfl #[.int .i64 a0, .int .i64 9984, .int .i64 10009] rfl (by (try simp only [List.map_toArray, List.map_cons, List.map_nil]); first | done | rfl | (simp only [List.length_drop, List.length_take]; rfl)) ?_; (with_reducible refine (impl_in.calls a0 9984 10009 false _ A29.out).mono ?_); rintro e w' ⟨rfl, ⟨nd, rfl⟩⟩; refine ⟨_, rfl, ?_⟩) | ((with_reducible refine gate_callee (f := 67) rfl ?_); refine goesL_ (some 87) rfl rfl Tryd.func67 (by kernel_rfl) rfl #[.int .i64 a0, .int .i64 10016, .int .i64 10025] rfl (by (try simp only [List.map_toArray, List.map_cons, List.map_nil]); first | done | rfl | (simp only [List.length_drop, List.length_take]; rfl)) ?_; (with_reducible refine (impl_in.calls a0 10016 10025 true _ A33.out).mono ?_); rintro e w' ⟨rfl, ⟨nd, rfl⟩⟩; refine ⟨_, rfl, ?_⟩) | ((with_reducible refine gate_dst (N := 91) rfl ?_); refine Kd.R_lit (Kd.int .i64) _ 2 ?hg (N := 91) ?hd (xs := ([wrap64 ((wrap64 (48 + a0)) - 10016)] : List Int)) (inner := [.int .i64 (wrap64 ((wrap64 (48 + a0)) - 10016))]) (ok := fun _ => True) (okp := fun _ => True) ?hr ?hp (fun _ hk => hk) trivial (Below.refl _ _) (Nat.le_refl _) (by simp) ?_; (case hd => rfl); (case hg => rfl); (case hr => first | (go_simp; done) | (go_simp; rfl)); (case hp => exact (Reps.one (show Kd.M (Kd.int .i64) _ _ _ (wrap64 ((wrap64 (48 + a0)) - 10016)) [.int .i64 (wrap64 ((wrap64 (48 + a0)) - 10016))] from rfl) (Reps.none _ _))); intro v284 w35 ho36 hb hg_ hnew_; clear hg_ hnew_; (first | rw [← Ny283.out] at ho36 | (simp only [Int.reduceToNat] at ho36; rw [← Ny283.out] at ho36)); have n0_ := Aside0.mk (Kd.R_lower (Kd.R_newM (M := fun k_ => (w.heap.size ≤ k_)) ho36 (below_size (by repeat (first | (with_reducible first | exact HB.out | apply below_alloc | apply pw_below_drewN | apply below_drew1) | exact HB.out))) (fun k_ h_ => h_)) (below_size (by repeat (first | (with_reducible first | exact HB.out | apply below_alloc | apply pw_below_drewN | apply below_drew1) | exact HB.out)))); have n1_ := Aside0.mk (below_step (by repeat (first | (with_reducible first | exact HB.out | apply below_alloc | apply pw_below_drewN | apply below_drew1) | exact HB.out)) hb); clear HB; have HO285 := n0_; have HB := n1_; clear n0_ n1_; clear hb ho36))
          go_ret
          exact ⟨_, by first | rfl | (simp [errW_none, errW_some] <;> rfl) | (simp [*, errW_none, errW_some] <;> rfl), (fun hr_ => by first | (have hr2_ := hr_; rw [Ny283.out] at hr2_; exact absurd hr2_ (by simp))), Kd.R_V (by (with_reducible repeat (first | apply Kd.R_alloc | apply Kd.R_drewN | apply Kd.R_drew)); exact Kd.R_mono HO285.out (fun _ hk => hk.1)), by repeat (first | (with_reducible first | exact HB.out | apply below_alloc | apply pw_below_drewN | apply below_drew1) | exact HB.out)⟩
         ·replace c34 := Bool.eq_false_iff.mpr c34
          subst c34
          have H1 : (if a0 = 8064 then (impl_parts.j1 kj2 a0 true) else (impl_parts.j1 kj2 a0 (a0 == 160))) = some r := by rw [if_neg (show ¬ (false = true) by decide)] at H; exact H
          clear H
          have H := H1
          clear H1
          have HC37 := Aside0.mk H
          clear H
          go_upto_region 22 with (first | ((with_reducible refine gate_callee (f := 67) rfl ?_); refine goesL_ (some 46) rfl rfl Tryd.func67 (by kernel_rfl) rfl #[.int .i64 a0, .int .i64 9728, .int .i64 9753] rfl (by (try simp only [List.map_toArray, List.map_cons, List.map_nil]); first | done | rfl | (simp only [List.length_drop, List.length_take]; rfl)) ?_; (with_reducible refine (impl_in.calls a0 9728 9753 false _ A17.out).mono ?_); rintro e w' ⟨rfl, ⟨nd, rfl⟩⟩; refine ⟨_, rfl, ?_⟩) | ((with_reducible refine gate_callee (f := 67) rfl ?_); refine goesL_ (some 53) rfl rfl Tryd.func67 (by kernel_rfl) rfl #[.int .i64 a0, .int .i64 12288, .int .i64 23459] rfl (by (try simp only [List.map_toArray, List.map_cons, List.map_nil]); first | done | rfl | (simp only [List.length_drop, List.length_take]; rfl)) ?_; (with_reducible refine (impl_in.calls a0 12288 23459 false _ A21.out).mono ?_); rintro e w' ⟨rfl, ⟨nd, rfl⟩⟩; refine ⟨_, rfl, ?_⟩) | ((with_reducible refine gate_callee (f := 67) rfl ?_); refine goesL_ (some 80) rfl rfl Tryd.func67 (by kernel_rfl) rfl #[.int .i64 a0, .int .i64 9984, .int .i64 10009] rfl (by (try simp only [List.map_toArray, List.map_cons, List.map_nil]); first | done | rfl | (simp only [List.length_drop, List.length_take]; rfl)) ?_; (with_reducible refine (impl_in.calls a0 9984 10009 false _ A29.out).mono ?_); rintro e w' ⟨rfl, ⟨nd, rfl⟩⟩; refine ⟨_, rfl, ?_⟩) | ((with_reducible refine gate_callee (f := 67) rfl ?_); refine goesL_ (some 87) rfl rfl Tryd.func67 (by kernel_rfl) rfl #[.int .i64 a0, .int .i64 10016, .int .i64 10025] rfl (by (try simp only [List.map_toArray, List.map_cons, List.map_nil]); first | done | rfl | (simp only [List.length_drop, List.length_take]; rfl)) ?_; (with_reducible refine (impl_in.calls a0 10016 10025 false _ A33.out).mono ?_); rintro e w' ⟨rfl, ⟨nd, rfl⟩⟩; refine ⟨_, rfl, ?_⟩))
          (try simp only [Act.put, List.setIfInBounds_toArray, List.set_cons_zero, List.set_cons_succ])
          go_cut [92] (fun v92 wc => ∃ (kq : Nat) (x92_36 : Bool), v92 = .bool x92_36 ∧ Aside0 (impl_parts.j1 kq a0 x92_36 = some r) ∧ Aside0 (kq ≤ kj2) ∧ Aside0 (Below w.heap.size w wc))
          case first =>
           as_aux_lemma =>
            have H := HC37.out
            clear HC37
            by_cases c38 : a0 = 8064
            ·rw [if_pos c38] at H
             have c38b0 : (a0 == 8064) = true := beq_iff_eq.mpr c38
             have c38b1 : (a0 != 8064) = false := bne_eq_false_iff_eq.mpr c38
             clear c38
             (first | rw [c38b0] | (simp only [i64_w, i32_w]; rw [c38b0]) | skip)
             have H' := Aside0.mk H
             clear H
             go_wp2
             go_meet
             case rel => exact ⟨_, (true), (by first | rfl | (simp; done) | (simp [*]; done)), H', ⟨by have := HJ2.out; first | omega | exact Nat.le_refl _⟩, ⟨by repeat (first | (with_reducible first | exact HB.out | apply below_alloc | apply pw_below_drewN | apply below_drew1) | exact HB.out)⟩⟩
            ·rw [if_neg c38] at H
             have c38b0 : (a0 == 8064) = false := beq_eq_false_iff_ne.mpr c38
             have c38b1 : (a0 != 8064) = true := bne_iff_ne.mpr c38
             (first | rw [c38b0] | (simp only [i64_w, i32_w]; rw [c38b0]) | skip)
             have H' := Aside0.mk H
             clear H
             go_wp2
             go_meet
             case rel => exact ⟨_, ((a0 == 160)), (by first | rfl | (simp; done) | (simp [*]; done)), H', ⟨by have := HJ2.out; first | omega | exact Nat.le_refl _⟩, ⟨by repeat (first | (with_reducible first | exact HB.out | apply below_alloc | apply pw_below_drewN | apply below_drew1) | exact HB.out)⟩⟩
          case rest =>
           as_aux_lemma =>
            clear HC37
            try clear c1
            try clear c2
            try clear p2
            try clear c3
            try clear c5
            try clear c6
            try clear p6
            try clear c7
            try clear c7b0
            try clear c7b1
            try clear c9
            try clear c10
            try clear c11
            try clear c11b0
            try clear c11b1
            try clear c18
            try clear c22
            try clear c23
            try clear c23b0
            try clear c28
            try clear c30
            try clear c34
            try clear c38
            try clear c38b0
            try clear c38b1
            try clear p2
            obtain ⟨kq, x92_36, rfl, HA, HJ36, HB⟩ := hcut
            cases kq with
            | zero => exact absurd HA.out (by simp [impl_parts.j1])
            | succ kj36 =>
             have H := HA.out
             clear HA
             simp only [impl_parts.j1] at H
             by_cases c39 : x92_36 = true
             ·subst c39
              have H1 : (some (([32] : List Int))) = some r := by rw [if_pos rfl] at H; exact H
              clear H
              have H := H1
              clear H1
              obtain ⟨y286, hy286⟩ : ∃ y_ : List Int, y_ = (([32] : List Int)) := ⟨_, rfl⟩
              replace H : (some y286) = some r := by first | (rw [hy286]; with_reducible exact H) | (have H2_ := (Option.bind_some _ _).symm.trans H; rw [hy286]; with_reducible exact H2_) | (have H2_ := (Option.bind_some _ _).symm.trans H; with_reducible exact H2_) | with_reducible exact H | (rw [hy286]; exact H) | exact H
              have Ny286 := Aside0.mk hy286
              clear hy286
              obtain rfl := Option.some.inj H
              go_wp2_with (first | ((with_reducible refine gate_dst (N := 99) rfl ?_); refine Kd.R_lit (Kd.int .i64) _ 2 ?hg (N := 99) ?hd (xs := ([32] : List Int)) (inner := [.int .i64 32]) (ok := fun _ => True) (okp := fun _ => True) ?hr ?hp (fun _ hk => hk) trivial (Below.refl _ _) (Nat.le_refl _) (by simp) ?_; (case hd => rfl); (case hg => rfl); (case hr => first | (go_simp; done) | (go_simp; rfl)); (case hp => exact (Reps.one (show Kd.M (Kd.int .i64) _ _ _ 32 [.int .i64 32] from rfl) (Reps.none _ _))); intro v287 w40 ho41 hb hg_ hnew_; clear hg_ hnew_; (first | rw [← Ny286.out] at ho41 | (simp only [Int.reduceToNat] at ho41; rw [← Ny286.out] at ho41)); have n0_ := Aside0.mk (Kd.R_lower (Kd.R_newM (M := fun k_ => (w.heap.size ≤ k_)) ho41 (below_size (by repeat (first | (with_reducible first | exact HB.out | apply below_alloc | apply pw_below_drewN | apply below_drew1) | exact HB.out))) (fun k_ h_ => h_)) (below_size (by repeat (first | (with_reducible first | exact HB.out | apply below_alloc | apply pw_below_drewN | apply below_drew1) | exact HB.out)))); have n1_ := Aside0.mk (below_step (by repeat (first | (with_reducible first | exact HB.out | apply below_alloc | apply pw_below_drewN | apply below_drew1) | exact HB.out)) hb); clear HB; have HO288 := n0_; have HB := n1_; clear n0_ n1_; clear hb ho41))
              go_ret
              exact ⟨_, by first | rfl | (simp [errW_none, errW_some] <;> rfl) | (simp [*, errW_none, errW_some] <;> rfl), (fun hr_ => by first | (have hr2_ := hr_; rw [Ny286.out] at hr2_; exact absurd hr2_ (by simp))), Kd.R_V (by (with_reducible repeat (first | apply Kd.R_alloc | apply Kd.R_drewN | apply Kd.R_drew)); exact Kd.R_mono HO288.out (fun _ hk => hk.1)), by repeat (first | (with_reducible first | exact HB.out | apply below_alloc | apply pw_below_drewN | apply below_drew1) | exact HB.out)⟩
             ·replace c39 := Bool.eq_false_iff.mpr c39
              subst c39
              have H1 : ((impl_in.f a0 10032 10035).bind fun t289 => (if t289 = true then ((some (([(([102, 102] : List Int)), (([102, 105] : List Int)), (([102, 108] : List Int)), (([115, 116] : List Int))] : List (List Int)) : List (List Int))).bind fun y302 => (if 0 ≤ (wrap64 (a0 - 10032)) then (if (wrap64 (a0 - 10032)) < (y302.length : Int) then (some (rd_L4 y302 (wrap64 (a0 - 10032)))) else (none)) else (none))) else (some ([] : List Int)))) = some r := by rw [if_neg (show ¬ (false = true) by decide)] at H; exact H
              clear H
              have H := H1
              clear H1
              replace H := Option.bind_eq_some_iff.mp H
              obtain ⟨t289, A420, H⟩ := H
              replace H : (if t289 = true then ((some (([(([102, 102] : List Int)), (([102, 105] : List Int)), (([102, 108] : List Int)), (([115, 116] : List Int))] : List (List Int)) : List (List Int))).bind fun y302 => (if 0 ≤ (wrap64 (a0 - 10032)) then (if (wrap64 (a0 - 10032)) < (y302.length : Int) then (some (rd_L4 y302 (wrap64 (a0 - 10032)))) else (none)) else (none))) else (some ([] : List Int))) = some r := H
              have A42 := Aside0.mk A420
              clear A420
              by_cases c43 : t289 = true
              ·subst c43
               have H1 : ((some (([(([102, 102] : List Int)), (([102, 105] : List Int)), (([102, 108] : List Int)), (([115, 116] : List Int))] : List (List Int)) : List (List Int))).bind fun y302 => (if 0 ≤ (wrap64 (a0 - 10032)) then (if (wrap64 (a0 - 10032)) < (y302.length : Int) then (some (rd_L4 y302 (wrap64 (a0 - 10032)))) else (none)) else (none))) = some r := by rw [if_pos rfl] at H; exact H
               clear H
               have H := H1
               clear H1
               obtain ⟨y290, hy290⟩ : ∃ y_ : List Int, y_ = (([102, 102] : List Int)) := ⟨_, rfl⟩
               replace H : ((some (([y290, (([102, 105] : List Int)), (([102, 108] : List Int)), (([115, 116] : List Int))] : List (List Int)) : List (List Int))).bind fun y302 => (if 0 ≤ (wrap64 (a0 - 10032)) then (if (wrap64 (a0 - 10032)) < (y302.length : Int) then (some (rd_L4 y302 (wrap64 (a0 - 10032)))) else (none)) else (none))) = some r := by first | (rw [hy290]; with_reducible exact H) | (have H2_ := (Option.bind_some _ _).symm.trans H; rw [hy290]; with_reducible exact H2_) | (have H2_ := (Option.bind_some _ _).symm.trans H; with_reducible exact H2_) | with_reducible exact H | (rw [hy290]; exact H) | exact H
               have Ny290 := Aside0.mk hy290
               clear hy290
               obtain ⟨y293, hy293⟩ : ∃ y_ : List Int, y_ = (([102, 105] : List Int)) := ⟨_, rfl⟩
               replace H : ((some (([y290, y293, (([102, 108] : List Int)), (([115, 116] : List Int))] : List (List Int)) : List (List Int))).bind fun y302 => (if 0 ≤ (wrap64 (a0 - 10032)) then (if (wrap64 (a0 - 10032)) < (y302.length : Int) then (some (rd_L4 y302 (wrap64 (a0 - 10032)))) else (none)) else (none))) = some r := by first | (rw [hy293]; with_reducible exact H) | (have H2_ := (Option.bind_some _ _).symm.trans H; rw [hy293]; with_reducible exact H2_) | (have H2_ := (Option.bind_some _ _).symm.trans H; with_reducible exact H2_) | with_reducible exact H | (rw [hy293]; exact H) | exact H
               have Ny293 := Aside0.mk hy293
               clear hy293
               obtain ⟨y296, hy296⟩ : ∃ y_ : List Int, y_ = (([102, 108] : List Int)) := ⟨_, rfl⟩
               replace H : ((some (([y290, y293, y296, (([115, 116] : List Int))] : List (List Int)) : List (List Int))).bind fun y302 => (if 0 ≤ (wrap64 (a0 - 10032)) then (if (wrap64 (a0 - 10032)) < (y302.length : Int) then (some (rd_L4 y302 (wrap64 (a0 - 10032)))) else (none)) else (none))) = some r := by first | (rw [hy296]; with_reducible exact H) | (have H2_ := (Option.bind_some _ _).symm.trans H; rw [hy296]; with_reducible exact H2_) | (have H2_ := (Option.bind_some _ _).symm.trans H; with_reducible exact H2_) | with_reducible exact H | (rw [hy296]; exact H) | exact H
               have Ny296 := Aside0.mk hy296
               clear hy296
               obtain ⟨y299, hy299⟩ : ∃ y_ : List Int, y_ = (([115, 116] : List Int)) := ⟨_, rfl⟩
               replace H : ((some (([y290, y293, y296, y299] : List (List Int)) : List (List Int))).bind fun y302 => (if 0 ≤ (wrap64 (a0 - 10032)) then (if (wrap64 (a0 - 10032)) < (y302.length : Int) then (some (rd_L4 y302 (wrap64 (a0 - 10032)))) else (none)) else (none))) = some r := by first | (rw [hy299]; with_reducible exact H) | (have H2_ := (Option.bind_some _ _).symm.trans H; rw [hy299]; with_reducible exact H2_) | (have H2_ := (Option.bind_some _ _).symm.trans H; with_reducible exact H2_) | with_reducible exact H | (rw [hy299]; exact H) | exact H
               have Ny299 := Aside0.mk hy299
               clear hy299
               obtain ⟨y302, hy302⟩ : ∃ y_ : List (List Int), y_ = (([y290, y293, y296, y299] : List (List Int))) := ⟨_, rfl⟩
               replace H : (if 0 ≤ (wrap64 (a0 - 10032)) then (if (wrap64 (a0 - 10032)) < (y302.length : Int) then (some (rd_L4 y302 (wrap64 (a0 - 10032)))) else (none)) else (none)) = some r := by first | (rw [hy302]; with_reducible exact H) | (have H2_ := (Option.bind_some _ _).symm.trans H; rw [hy302]; with_reducible exact H2_) | (have H2_ := (Option.bind_some _ _).symm.trans H; with_reducible exact H2_) | with_reducible exact H | (rw [hy302]; exact H) | exact H
               have Ny302 := Aside0.mk hy302
               clear hy302
               obtain ⟨ji44, hji44⟩ : ∃ j_ : Int, (wrap64 (a0 - 10032)) = j_ := ⟨_, rfl⟩
               replace H : (if 0 ≤ (ji44) then (if (ji44) < (y302.length : Int) then (some (rd_L4 y302 (ji44))) else (none)) else (none)) = some r := by first | (rw [hji44] at H; exact H) | (simp only [hji44] at H ⊢; exact H)
               (try rw [hji44] at A42)
               have hji44w : (IntKind.i64.wrap (a0 - 10032)) = ji44 := (i64_w _).trans hji44
               by_cases c45 : 0 ≤ (ji44)
               ·rw [if_pos c45] at H
                have c45b0 : decide (0 ≤ (ji44)) = true := decide_eq_true c45
                clear c45
                by_cases c46 : (ji44) < (y302.length : Int)
                ·rw [if_pos c46] at H
                 have c46b0 : decide ((ji44) < (y302.length : Int)) = true := decide_eq_true c46
                 clear c46
                 obtain rfl := Option.some.inj H
                 go_wp2_with (first | ((with_reducible refine gate_callee (f := 67) rfl ?_); refine goesL_ (some 102) rfl rfl Tryd.func67 (by kernel_rfl) rfl #[.int .i64 a0, .int .i64 10032, .int .i64 10035] rfl (by (try simp only [List.map_toArray, List.map_cons, List.map_nil]); first | done | rfl | (simp only [List.length_drop, List.length_take]; rfl)) ?_; (with_reducible refine (impl_in.calls a0 10032 10035 true _ A42.out).mono ?_); rintro e w' ⟨rfl, ⟨nd, rfl⟩⟩; refine ⟨_, rfl, ?_⟩) | ((with_reducible refine gate_dst (N := 103) rfl ?_); refine Kd.R_lit (Kd.int .i64) _ 2 ?hg (N := 103) ?hd (xs := ([102, 102] : List Int)) (inner := [.int .i64 102, .int .i64 102]) (ok := fun _ => True) (okp := fun _ => True) ?hr ?hp (fun _ hk => hk) trivial (Below.refl _ _) (Nat.le_refl _) (by simp) ?_; (case hd => rfl); (case hg => rfl); (case hr => first | (go_simp; done) | (go_simp; rfl)); (case hp => exact (Reps.one (show Kd.M (Kd.int .i64) _ _ _ 102 [.int .i64 102] from rfl) (Reps.one (show Kd.M (Kd.int .i64) _ _ _ 102 [.int .i64 102] from rfl) (Reps.none _ _)))); intro v291 w47 ho48 hb hg_ hnew_; clear hg_ hnew_; (first | rw [← Ny290.out] at ho48 | (simp only [Int.reduceToNat] at ho48; rw [← Ny290.out] at ho48)); have n0_ := Aside0.mk (Kd.R_lower (Kd.R_newM (M := fun k_ => (w.heap.size ≤ k_)) ho48 (below_size (by repeat (first | (with_reducible first | exact HB.out | apply below_alloc | apply pw_below_drewN | apply below_drew1) | exact HB.out))) (fun k_ h_ => h_)) (below_size (by repeat (first | (with_reducible first | exact HB.out | apply below_alloc | apply pw_below_drewN | apply below_drew1) | exact HB.out)))); have n1_ := Aside0.mk (below_step (by repeat (first | (with_reducible first | exact HB.out | apply below_alloc | apply pw_below_drewN | apply below_drew1) | exact HB.out)) hb); clear HB; have HO292 := n0_; have HB := n1_; clear n0_ n1_; clear hb ho48) | ((with_reducible refine gate_dst (N := 104) rfl ?_); refine Kd.R_lit (Kd.int .i64) _ 2 ?hg (N := 104) ?hd (xs := ([102, 105] : List Int)) (inner := [.int .i64 102, .int .i64 105]) (ok := fun _ => True) (okp := fun _ => True) ?hr ?hp (fun _ hk => hk) trivial (Below.refl _ _) (Nat.le_refl _) (by simp) ?_; (case hd => rfl); (case hg => rfl); (case hr => first | (go_simp; done) | (go_simp; rfl)); (case hp => exact (Reps.one (show Kd.M (Kd.int .i64) _ _ _ 102 [.int .i64 102] from rfl) (Reps.one (show Kd.M (Kd.int .i64) _ _ _ 105 [.int .i64 105] from rfl) (Reps.none _ _)))); intro v294 w49 ho50 hb hg_ hnew_; clear hg_ hnew_; (first | rw [← Ny293.out] at ho50 | (simp only [Int.reduceToNat] at ho50; rw [← Ny293.out] at ho50)); have n0_ := Aside0.mk (Kd.R_elder' (by (with_reducible repeat (first | apply Kd.R_alloc | apply Kd.R_drewN | apply Kd.R_drew)); exact HO292.out) (Kd.R_base ho50) hb); have n1_ := Aside0.mk (Kd.R_lower (Kd.R_new' (Kd.R_newM (M := fun k_ => (w.heap.size ≤ k_)) ho50 (below_size (by repeat (first | (with_reducible first | exact HB.out | apply below_alloc | apply pw_below_drewN | apply below_drew1) | exact HB.out))) (fun k_ h_ => h_)) (Kd.R_lt (by (with_reducible repeat (first | apply Kd.R_alloc | apply Kd.R_drewN | apply Kd.R_drew)); exact HO292.out))) (below_size (by repeat (first | (with_reducible first | exact HB.out | apply below_alloc | apply pw_below_drewN | apply below_drew1) | exact HB.out)))); have n2_ := Aside0.mk (below_step (by repeat (first | (with_reducible first | exact HB.out | apply below_alloc | apply pw_below_drewN | apply below_drew1) | exact HB.out)) hb); clear HO292; clear HB; have HO292 := n0_; have HO295 := n1_; have HB := n2_; clear n0_ n1_ n2_; clear hb ho50) | ((with_reducible refine gate_dst (N := 105) rfl ?_); refine Kd.R_lit (Kd.int .i64) _ 2 ?hg (N := 105) ?hd (xs := ([102, 108] : List Int)) (inner := [.int .i64 102, .int .i64 108]) (ok := fun _ => True) (okp := fun _ => True) ?hr ?hp (fun _ hk => hk) trivial (Below.refl _ _) (Nat.le_refl _) (by simp) ?_; (case hd => rfl); (case hg => rfl); (case hr => first | (go_simp; done) | (go_simp; rfl)); (case hp => exact (Reps.one (show Kd.M (Kd.int .i64) _ _ _ 102 [.int .i64 102] from rfl) (Reps.one (show Kd.M (Kd.int .i64) _ _ _ 108 [.int .i64 108] from rfl) (Reps.none _ _)))); intro v297 w51 ho52 hb hg_ hnew_; clear hg_ hnew_; (first | rw [← Ny296.out] at ho52 | (simp only [Int.reduceToNat] at ho52; rw [← Ny296.out] at ho52)); have n0_ := Aside0.mk (Kd.R_elder' (by (with_reducible repeat (first | apply Kd.R_alloc | apply Kd.R_drewN | apply Kd.R_drew)); exact HO292.out) (Kd.R_base ho52) hb); have n1_ := Aside0.mk (Kd.R_elder' (by (with_reducible repeat (first | apply Kd.R_alloc | apply Kd.R_drewN | apply Kd.R_drew)); exact HO295.out) (Kd.R_base ho52) hb); have n2_ := Aside0.mk (Kd.R_lower (Kd.R_new' (Kd.R_new' (Kd.R_newM (M := fun k_ => (w.heap.size ≤ k_)) ho52 (below_size (by repeat (first | (with_reducible first | exact HB.out | apply below_alloc | apply pw_below_drewN | apply below_drew1) | exact HB.out))) (fun k_ h_ => h_)) (Kd.R_lt (by (with_reducible repeat (first | apply Kd.R_alloc | apply Kd.R_drewN | apply Kd.R_drew)); exact HO292.out))) (Kd.R_lt (by (with_reducible repeat (first | apply Kd.R_alloc | apply Kd.R_drewN | apply Kd.R_drew)); exact HO295.out))) (below_size (by repeat (first | (with_reducible first | exact HB.out | apply below_alloc | apply pw_below_drewN | apply below_drew1) | exact HB.out)))); have n3_ := Aside0.mk (below_step (by repeat (first | (with_reducible first | exact HB.out | apply below_alloc | apply pw_below_drewN | apply below_drew1) | exact HB.out)) hb); clear HO292; clear HO295; clear HB; have HO292 := n0_; have HO295 := n1_; have HO298 := n2_; have HB := n3_; clear n0_ n1_ n2_ n3_; clear hb ho52) | ((with_reducible refine gate_dst (N := 106) rfl ?_); refine Kd.R_lit (Kd.int .i64) _ 2 ?hg (N := 106) ?hd (xs := ([115, 116] : List Int)) (inner := [.int .i64 115, .int .i64 116]) (ok := fun _ => True) (okp := fun _ => True) ?hr ?hp (fun _ hk => hk) trivial (Below.refl _ _) (Nat.le_refl _) (by simp) ?_; (case hd => rfl); (case hg => rfl); (case hr => first | (go_simp; done) | (go_simp; rfl)); (case hp => exact (Reps.one (show Kd.M (Kd.int .i64) _ _ _ 115 [.int .i64 115] from rfl) (Reps.one (show Kd.M (Kd.int .i64) _ _ _ 116 [.int .i64 116] from rfl) (Reps.none _ _)))); intro v300 w53 ho54 hb hg_ hnew_; clear hg_ hnew_; (first | rw [← Ny299.out] at ho54 | (simp only [Int.reduceToNat] at ho54; rw [← Ny299.out] at ho54)); have n0_ := Aside0.mk (Kd.R_elder' (by (with_reducible repeat (first | apply Kd.R_alloc | apply Kd.R_drewN | apply Kd.R_drew)); exact HO292.out) (Kd.R_base ho54) hb); have n1_ := Aside0.mk (Kd.R_elder' (by (with_reducible repeat (first | apply Kd.R_alloc | apply Kd.R_drewN | apply Kd.R_drew)); exact HO295.out) (Kd.R_base ho54) hb); have n2_ := Aside0.mk (Kd.R_elder' (by (with_reducible repeat (first | apply Kd.R_alloc | apply Kd.R_drewN | apply Kd.R_drew)); exact HO298.out) (Kd.R_base ho54) hb); have n3_ := Aside0.mk (Kd.R_lower (Kd.R_new' (Kd.R_new' (Kd.R_new' (Kd.R_newM (M := fun k_ => (w.heap.size ≤ k_)) ho54 (below_size (by repeat (first | (with_reducible first | exact HB.out | apply below_alloc | apply pw_below_drewN | apply below_drew1) | exact HB.out))) (fun k_ h_ => h_)) (Kd.R_lt (by (with_reducible repeat (first | apply Kd.R_alloc | apply Kd.R_drewN | apply Kd.R_drew)); exact HO292.out))) (Kd.R_lt (by (with_reducible repeat (first | apply Kd.R_alloc | apply Kd.R_drewN | apply Kd.R_drew)); exact HO295.out))) (Kd.R_lt (by (with_reducible repeat (first | apply Kd.R_alloc | apply Kd.R_drewN | apply Kd.R_drew)); exact HO298.out))) (below_size (by repeat (first | (with_reducible first | exact HB.out | apply below_alloc | apply pw_below_drewN | apply below_drew1) | exact HB.out)))); have n4_ := Aside0.mk (below_step (by repeat (first | (with_reducible first | exact HB.out | apply below_alloc | apply pw_below_drewN | apply below_drew1) | exact HB.out)) hb); clear HO292; clear HO295; clear HO298; clear HB; have HO292 := n0_; have HO295 := n1_; have HO298 := n2_; have HO301 := n3_; have HB := n4_; clear n0_ n1_ n2_ n3_ n4_; clear hb ho54; obtain ⟨Ao55, co55, eo55⟩ := Kd.R_slice HO292.out; subst eo55; obtain ⟨Ao56, co56, eo56⟩ := Kd.R_slice HO295.out; subst eo56; obtain ⟨Ao57, co57, eo57⟩ := Kd.R_slice HO298.out; subst eo57; obtain ⟨Ao58, co58, eo58⟩ := Kd.R_slice HO301.out; subst eo58) | ((with_reducible refine gate_dst (N := 107) rfl ?_); refine Kd.N_lit (Kd.slice 2 (Kd.int .i64)) _ 58 ?hg (N' := 107) ?hd (xs := ([y290, y293, y296, y299] : List (List Int))) (inner := [.slice Ao55 y290.length co55, .slice Ao56 y293.length co56, .slice Ao57 y296.length co57, .slice Ao58 y299.length co58]) (ok := (fun k_ => (w.heap.size ≤ k_))) (okp := (fun k_ => (w.heap.size ≤ k_))) ?hr ?hp (fun _ hk => hk) ((show ∀ k_, w53.heap.size ≤ k_ → (fun k_ => (w.heap.size ≤ k_)) k_ from fun k_ hk => (Nat.le_trans (below_size (by repeat (first | (with_reducible first | exact HB.out | apply below_alloc | apply pw_below_drewN | apply below_drew1) | exact HB.out))) hk)) _ (Nat.le_refl _)) (Below.refl _ _) (Nat.le_refl _) (by simp) ?_; (case hd => rfl); (case hg => rfl); (case hr => first | (go_simp; done) | (go_simp; rfl)); (case hp => exact (Reps.one (show Kd.FK (Kd.slice 2 (Kd.int .i64)) _ _ y290 [.slice Ao55 y290.length co55] from (Kd.FK_slice_mk (Kd.R_reads' (Kd.R_mono (ok' := (fun k_ => (w.heap.size ≤ k_))) (HO292.out) (fun k_ hk => hk.1.1.1.1))).2.1 (Kd.R_F (Kd.R_mono (ok' := (fun k_ => (w.heap.size ≤ k_))) (HO292.out) (fun k_ hk => hk.1.1.1.1))))) (Reps.one (show Kd.FK (Kd.slice 2 (Kd.int .i64)) _ _ y293 [.slice Ao56 y293.length co56] from (Kd.FK_slice_mk (Kd.R_reads' (Kd.R_mono (ok' := (fun k_ => (w.heap.size ≤ k_))) (HO295.out) (fun k_ hk => hk.1.1.1.1))).2.1 (Kd.R_F (Kd.R_mono (ok' := (fun k_ => (w.heap.size ≤ k_))) (HO295.out) (fun k_ hk => hk.1.1.1.1))))) (Reps.one (show Kd.FK (Kd.slice 2 (Kd.int .i64)) _ _ y296 [.slice Ao57 y296.length co57] from (Kd.FK_slice_mk (Kd.R_reads' (Kd.R_mono (ok' := (fun k_ => (w.heap.size ≤ k_))) (HO298.out) (fun k_ hk => hk.1.1.1.1))).2.1 (Kd.R_F (Kd.R_mono (ok' := (fun k_ => (w.heap.size ≤ k_))) (HO298.out) (fun k_ hk => hk.1.1.1.1))))) (Reps.one (show Kd.FK (Kd.slice 2 (Kd.int .i64)) _ _ y299 [.slice Ao58 y299.length co58] from (Kd.FK_slice_mk (Kd.R_reads' (Kd.R_mono (ok' := (fun k_ => (w.heap.size ≤ k_))) (HO301.out) (fun k_ hk => hk.1.1.1.1))).2.1 (Kd.R_F (Kd.R_mono (ok' := (fun k_ => (w.heap.size ≤ k_))) (HO301.out) (fun k_ hk => hk.1.1.1.1))))) (Reps.none _ _)))))); intro v303 w59 ho60 hb hg_ hnew_; clear hg_ hnew_; (first | rw [← Ny302.out] at ho60 | (simp only [Int.reduceToNat] at ho60; rw [← Ny302.out] at ho60)); have n0_ := Aside0.mk (Kd.N_lower ho60 (below_size (by repeat (first | (with_reducible first | exact HB.out | apply below_alloc | apply pw_below_drewN | apply below_drew1) | exact HB.out)))); have n1_ := Aside0.mk (below_step (by repeat (first | (with_reducible first | exact HB.out | apply below_alloc | apply pw_below_drewN | apply below_drew1) | exact HB.out)) hb); clear HB; clear HO292; clear HO295; clear HO298; clear HO301; have HO304 := n0_; have HB := n1_; clear n0_ n1_; clear hb ho60; obtain ⟨Ao61, co61, eo61⟩ := Kd.N_slice HO304.out; subst eo61; have p305 : 0 ≤ ((ji44) : Int) := of_decide_eq_true (by first | (with_reducible assumption) | assumption); have q305 : (ji44) < (y302.length : Int) := of_decide_eq_true (by first | (with_reducible assumption) | assumption); obtain ⟨ad305, A305_0, c305_0, e305, hx305_0, hl305_0, hi305_0⟩ := at_L4 (Kd.N_reads' HO304.out).2.2 (ji44) p305 q305; cases e305; obtain ⟨ce305, hce305, hMe305, hcc305⟩ := Kd.N_get HO304.out [] (ji44) p305 (by first | exact q305 | exact of_decide_eq_true (by first | (with_reducible assumption) | assumption) | (have e_ := (Kd.N_reads' HO304.out).1; omega)); obtain ⟨ua305_0, uc305_0, rfl, ul305_0, ge305_0⟩ := Kd.FK_slice_open hMe305; have hv305_0 := hcc305 0 _ rfl; rw [Nat.add_zero, show ((Kd.slice 2 (Kd.int .i64))).sz = 1 from rfl, Nat.mul_one] at hv305_0; replace hv305_0 := Option.some.inj (hv305_0.symm.trans hx305_0); injection hv305_0 with hva_ hvn_ hvc_; rw [hva_] at ge305_0; rw [hvc_] at ul305_0; have HL305_0 := Aside0.mk (show Kd.V (Kd.int .i64) 2 _ w.heap.size _ _ (rd_L4 y302 (ji44)) from Kd.V_mk ul305_0 ge305_0); clear hva_ hvn_ hvc_ ge305_0 ul305_0; clear hcc305 hce305; have HR305_0 := Aside0.mk hi305_0; have HC305_0 := Aside0.mk hl305_0; clear hi305_0 hl305_0; replace p305 := eq_true p305; replace q305 := eq_true q305))
                 go_ret
                 exact ⟨_, by first | rfl | (simp [errW_none, errW_some] <;> rfl) | (simp only [← hji44]; first | rfl | (simp [errW_none, errW_some] <;> rfl)) | (simp [*, errW_none, errW_some] <;> rfl), (fun hr_ => by first | (exact absurd hr_ (rd4_ne (by rw [Ny302.out, Ny290.out, Ny293.out, Ny296.out, Ny299.out]) (of_decide_eq_true (by assumption)) (of_decide_eq_true (by assumption)))) | (have hr2_ := hr_; rw [Ny302.out] at hr2_; exact absurd hr2_ (by simp))), by (with_reducible repeat (first | apply Kd.V_alloc | apply Kd.V_drewN | apply Kd.V_drew)); exact Kd.V_mono HL305_0.out (fun _ hk => hk.1), by repeat (first | (with_reducible first | exact HB.out | apply below_alloc | apply pw_below_drewN | apply below_drew1) | exact HB.out)⟩
                ·rw [if_neg c46] at H
                 exact absurd H (by simp)
               ·rw [if_neg c45] at H
                exact absurd H (by simp)
              ·replace c43 := Bool.eq_false_iff.mpr c43
               subst c43
               have H1 : (some ([] : List Int)) = some r := by rw [if_neg (show ¬ (false = true) by decide)] at H; exact H
               clear H
               have H := H1
               clear H1
               obtain rfl := Option.some.inj H
               go_wp2_with (first | ((with_reducible refine gate_callee (f := 67) rfl ?_); refine goesL_ (some 102) rfl rfl Tryd.func67 (by kernel_rfl) rfl #[.int .i64 a0, .int .i64 10032, .int .i64 10035] rfl (by (try simp only [List.map_toArray, List.map_cons, List.map_nil]); first | done | rfl | (simp only [List.length_drop, List.length_take]; rfl)) ?_; (with_reducible refine (impl_in.calls a0 10032 10035 false _ A42.out).mono ?_); rintro e w' ⟨rfl, ⟨nd, rfl⟩⟩; refine ⟨_, rfl, ?_⟩))
               go_ret
               exact ⟨.slice none 0 0, by first | rfl | (simp [errW_none, errW_some] <;> rfl) | (simp [*, errW_none, errW_some] <;> rfl), (by intros; rfl), Kd.R_V (Kd.R_nil _ _ _ w.heap.size _), by repeat (first | (with_reducible first | exact HB.out | apply below_alloc | apply pw_below_drewN | apply below_drew1) | exact HB.out)⟩
       ·replace c28 := Bool.eq_false_iff.mpr c28
        subst c28
        have H1 : (some ([] : List Int)) = some r := by rw [if_neg (show ¬ (false = true) by decide)] at H; exact H
        clear H
        have H := H1
        clear H1
        obtain rfl := Option.some.inj H
        go_wp2_with (first | ((with_reducible refine gate_callee (f := 67) rfl ?_); refine goesL_ (some 46) rfl rfl Tryd.func67 (by kernel_rfl) rfl #[.int .i64 a0, .int .i64 9728, .int .i64 9753] rfl (by (try simp only [List.map_toArray, List.map_cons, List.map_nil]); first | done | rfl | (simp only [List.length_drop, List.length_take]; rfl)) ?_; (with_reducible refine (impl_in.calls a0 9728 9753 false _ A17.out).mono ?_); rintro e w' ⟨rfl, ⟨nd, rfl⟩⟩; refine ⟨_, rfl, ?_⟩) | ((with_reducible refine gate_callee (f := 67) rfl ?_); refine goesL_ (some 53) rfl rfl Tryd.func67 (by kernel_rfl) rfl #[.int .i64 a0, .int .i64 12288, .int .i64 23459] rfl (by (try simp only [List.map_toArray, List.map_cons, List.map_nil]); first | done | rfl | (simp only [List.length_drop, List.length_take]; rfl)) ?_; (with_reducible refine (impl_in.calls a0 12288 23459 false _ A21.out).mono ?_); rintro e w' ⟨rfl, ⟨nd, rfl⟩⟩; refine ⟨_, rfl, ?_⟩))
        go_ret
        exact ⟨.slice none 0 0, by first | rfl | (simp [errW_none, errW_some] <;> rfl) | (simp [*, errW_none, errW_some] <;> rfl), (by intros; rfl), Kd.R_V (Kd.R_nil _ _ _ w.heap.size _), by repeat (first | (with_reducible first | exact HB.out | apply below_alloc | apply pw_below_drewN | apply below_drew1) | exact HB.out)⟩

end Go.Proofs.YtnbedmihgnjdpaaDoor.PFnExactQuickCheck

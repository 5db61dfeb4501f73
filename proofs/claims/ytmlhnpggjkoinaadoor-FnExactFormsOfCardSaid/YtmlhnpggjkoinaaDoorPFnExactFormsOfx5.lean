-- Written by a program of this session (wip/tools/myprint.py) that runs the kit's print with hooks of its own. Lean checks it.
import Derived.Test.YtmlhnpggjkoinaaDoorPFnExactFormsOfx0
import Derived.Test.YtmlhnpggjkoinaaDoorPFnExactFormsOfx4
namespace Go.Proofs.YtmlhnpggjkoinaaDoor.PFnExactFormsOf
open Go.RowKit Go.Proofs.YtmlhnpggjkoinaaDoorW.PrintWords Go.Proofs.YtmlhnpggjkoinaaDoorW.PrintLast Go.Proofs.YtmlhnpggjkoinaaDoorW.PrintMore
attribute [local go_sem] max2_int min2_int max_two min_two max_three min_three max_four min_four   -- for this text's walks alone
set_option linter.unusedVariables false
set_option linter.unusedSimpArgs false

/-! ### impl_formsOf_1: function 103 -/
def impl_formsOf_1.f (a0 : Int) (a1 : Int) (l2 : List Int) (l3 : List Int) : Option (List Int) := if 0 ≤ a0 then (if a0 < (l2.length : Int) then ((impl_in.f (rd l2 a0) 1280 1311).bind fun t203 => (if t203 = true then (if a0 < (l3.length : Int) then (if (rd l3 a0) = 3 then ((some (l3.set (a0 : Int).toNat 2 : List Int)).bind fun y205 => (if 0 ≤ a1 then (if a1 < (l2.length : Int) then ((impl_in.f (rd l2 a1) 1280 1311).bind fun t207 => (if t207 = true then (if a1 < (l3.length : Int) then (some (y205.set (a1 : Int).toNat 3)) else (none)) else (some y205))) else (none)) else (none))) else ((some (l3.set (a0 : Int).toNat 1 : List Int)).bind fun y209 => (if 0 ≤ a1 then (if a1 < (l2.length : Int) then ((impl_in.f (rd l2 a1) 1280 1311).bind fun t211 => (if t211 = true then (if a1 < (l3.length : Int) then (some (y209.set (a1 : Int).toNat 3)) else (none)) else (some y209))) else (none)) else (none)))) else (none)) else (if 0 ≤ a1 then (if a1 < (l2.length : Int) then ((impl_in.f (rd l2 a1) 1280 1311).bind fun t214 => (if t214 = true then (if a1 < (l3.length : Int) then (some (l3.set (a1 : Int).toNat 3)) else (none)) else (some l3))) else (none)) else (none)))) else (none)) else (none)
set_option maxHeartbeats 8000000 in
set_option maxRecDepth 100000 in
theorem impl_formsOf_1.calls (a0 : Int) (a1 : Int) (A2 : Option Addr) (c2 : Nat) (l2 : List Int) (P3_ : Nat → Prop) (u9000_ : Value) (l3 : List Int) (r : List Int) (g2_ g3_ : Nat) (w0 w : World) (hB : Below w0.heap.size w0 w) (hr2 : ∀ W_, Kept w W_ (fun k_ => P3_ k_) → Kd.C (Kd.int .i64) W_ A2 l2.length l2) (hc2 : l2.length ≤ c2) (ho3 : Kd.R (Kd.int .i64) 2 w w0.heap.size P3_ u9000_ l3) (hg2_ : ∀ W_, Kept w W_ (fun k_ => P3_ k_) → W_.cell? ⟨g2_, 0, none⟩ = some (.slice A2 l2.length c2)) (hg3_ : ∀ W_, Kept w W_ (fun k_ => P3_ k_) → W_.cell? ⟨g3_, 0, none⟩ = some (u9000_)) (h : impl_formsOf_1.f a0 a1 l2 l3 = some r) :
    Calls Tryd.prog 103 #[.int .i64 a0, .int .i64 a1, .pointer (some ⟨g2_, 0, none⟩), .pointer (some ⟨g3_, 0, none⟩)] w fun e w' => e = .returned (.tuple #[]) ∧ Kd.R (Kd.int .i64) 2 w' w0.heap.size (fun k_ => (P3_ k_ ∨ w.heap.size ≤ k_)) u9000_ r ∧ Below w0.heap.size w0 w' ∧ Kept w w' (fun k_ => P3_ k_) := by
  have HR2 := Aside0.mk hr2
  have HC2 := Aside0.mk hc2
  clear hr2 hc2
  have HO3 := Aside0.mk (show Kd.R (Kd.int .i64) 2 w w0.heap.size (fun k_ => (P3_ k_ ∨ w.heap.size ≤ k_)) u9000_ l3 from Kd.R_mono ho3 (fun k_ hk => (.inl hk)))
  have HK := Aside0.mk (Kept.refl w (fun k_ => P3_ k_))
  have hcg2_ := hg2_ _ HK.out
  have hcg3_ := hg3_ _ HK.out
  have HW0 := Aside0.mk hB.size
  have HB := Aside0.mk hB
  clear hB
  have H : (if 0 ≤ a0 then (if a0 < (l2.length : Int) then ((impl_in.f (rd l2 a0) 1280 1311).bind fun t203 => (if t203 = true then (if a0 < (l3.length : Int) then (if (rd l3 a0) = 3 then ((some (l3.set (a0 : Int).toNat 2 : List Int)).bind fun y205 => (if 0 ≤ a1 then (if a1 < (l2.length : Int) then ((impl_in.f (rd l2 a1) 1280 1311).bind fun t207 => (if t207 = true then (if a1 < (l3.length : Int) then (some (y205.set (a1 : Int).toNat 3)) else (none)) else (some y205))) else (none)) else (none))) else ((some (l3.set (a0 : Int).toNat 1 : List Int)).bind fun y209 => (if 0 ≤ a1 then (if a1 < (l2.length : Int) then ((impl_in.f (rd l2 a1) 1280 1311).bind fun t211 => (if t211 = true then (if a1 < (l3.length : Int) then (some (y209.set (a1 : Int).toNat 3)) else (none)) else (some y209))) else (none)) else (none)))) else (none)) else (if 0 ≤ a1 then (if a1 < (l2.length : Int) then ((impl_in.f (rd l2 a1) 1280 1311).bind fun t214 => (if t214 = true then (if a1 < (l3.length : Int) then (some (l3.set (a1 : Int).toNat 3)) else (none)) else (some l3))) else (none)) else (none)))) else (none)) else (none)) = some r := h
  clear h
  by_cases c5 : 0 ≤ a0
  · rw [if_pos c5] at H
    have c5b0 : decide (0 ≤ a0) = true := decide_eq_true c5
    clear c5
    by_cases c6 : a0 < (l2.length : Int)
    · rw [if_pos c6] at H
      have c6b0 : decide (a0 < (l2.length : Int)) = true := decide_eq_true c6
      clear c6
      replace H := Option.bind_eq_some_iff.mp H
      obtain ⟨t203, A70, H⟩ := H
      replace H : (if t203 = true then (if a0 < (l3.length : Int) then (if (rd l3 a0) = 3 then ((some (l3.set (a0 : Int).toNat 2 : List Int)).bind fun y205 => (if 0 ≤ a1 then (if a1 < (l2.length : Int) then ((impl_in.f (rd l2 a1) 1280 1311).bind fun t207 => (if t207 = true then (if a1 < (l3.length : Int) then (some (y205.set (a1 : Int).toNat 3)) else (none)) else (some y205))) else (none)) else (none))) else ((some (l3.set (a0 : Int).toNat 1 : List Int)).bind fun y209 => (if 0 ≤ a1 then (if a1 < (l2.length : Int) then ((impl_in.f (rd l2 a1) 1280 1311).bind fun t211 => (if t211 = true then (if a1 < (l3.length : Int) then (some (y209.set (a1 : Int).toNat 3)) else (none)) else (some y209))) else (none)) else (none)))) else (none)) else (if 0 ≤ a1 then (if a1 < (l2.length : Int) then ((impl_in.f (rd l2 a1) 1280 1311).bind fun t214 => (if t214 = true then (if a1 < (l3.length : Int) then (some (l3.set (a1 : Int).toNat 3)) else (none)) else (some l3))) else (none)) else (none))) = some r := H
      have A7 := Aside0.mk A70
      clear A70
      by_cases c8 : t203 = true
      · subst c8
        have H1 : (if a0 < (l3.length : Int) then (if (rd l3 a0) = 3 then ((some (l3.set (a0 : Int).toNat 2 : List Int)).bind fun y205 => (if 0 ≤ a1 then (if a1 < (l2.length : Int) then ((impl_in.f (rd l2 a1) 1280 1311).bind fun t207 => (if t207 = true then (if a1 < (l3.length : Int) then (some (y205.set (a1 : Int).toNat 3)) else (none)) else (some y205))) else (none)) else (none))) else ((some (l3.set (a0 : Int).toNat 1 : List Int)).bind fun y209 => (if 0 ≤ a1 then (if a1 < (l2.length : Int) then ((impl_in.f (rd l2 a1) 1280 1311).bind fun t211 => (if t211 = true then (if a1 < (l3.length : Int) then (some (y209.set (a1 : Int).toNat 3)) else (none)) else (some y209))) else (none)) else (none)))) else (none)) = some r := by rw [if_pos rfl] at H; exact H
        clear H
        have H := H1
        clear H1
        by_cases c9 : a0 < (l3.length : Int)
        · rw [if_pos c9] at H
          have c9b0 : decide (a0 < (l3.length : Int)) = true := decide_eq_true c9
          clear c9
          by_cases c10 : (rd l3 a0) = 3
          · rw [if_pos c10] at H
            have c10b0 : ((rd l3 a0) == 3) = true := beq_iff_eq.mpr c10
            have c10b1 : ((rd l3 a0) != 3) = false := bne_eq_false_iff_eq.mpr c10
            clear c10
            obtain ⟨y205, hy205⟩ : ∃ y_ : List Int, y_ = (l3.set (a0 : Int).toNat 2) := ⟨_, rfl⟩
            replace H : (if 0 ≤ a1 then (if a1 < (l2.length : Int) then ((impl_in.f (rd l2 a1) 1280 1311).bind fun t207 => (if t207 = true then (if a1 < (l3.length : Int) then (some (y205.set (a1 : Int).toNat 3)) else (none)) else (some y205))) else (none)) else (none)) = some r := by first | (rw [hy205]; with_reducible exact H) | (have H2_ := (Option.bind_some _ _).symm.trans H; rw [hy205]; with_reducible exact H2_) | (have H2_ := (Option.bind_some _ _).symm.trans H; with_reducible exact H2_) | with_reducible exact H | (rw [hy205]; exact H) | exact H
            have Ny205 := Aside0.mk hy205
            clear hy205
            by_cases c12 : 0 ≤ a1
            · rw [if_pos c12] at H
              have c12b0 : decide (0 ≤ a1) = true := decide_eq_true c12
              clear c12
              by_cases c13 : a1 < (l2.length : Int)
              · rw [if_pos c13] at H
                have c13b0 : decide (a1 < (l2.length : Int)) = true := decide_eq_true c13
                clear c13
                replace H := Option.bind_eq_some_iff.mp H
                obtain ⟨t207, A140, H⟩ := H
                replace H : (if t207 = true then (if a1 < (l3.length : Int) then (some (y205.set (a1 : Int).toNat 3)) else (none)) else (some y205)) = some r := H
                have A14 := Aside0.mk A140
                clear A140
                by_cases c15 : t207 = true
                · subst c15
                  have H1 : (if a1 < (l3.length : Int) then (some (y205.set (a1 : Int).toNat 3)) else (none)) = some r := by rw [if_pos rfl] at H; exact H
                  clear H
                  have H := H1
                  clear H1
                  by_cases c16 : a1 < (l3.length : Int)
                  · rw [if_pos c16] at H
                    have c16b0 : decide (a1 < (l3.length : Int)) = true := decide_eq_true c16
                    clear c16
                    obtain ⟨y208, hy208⟩ : ∃ y_ : List Int, y_ = (y205.set (a1 : Int).toNat 3) := ⟨_, rfl⟩
                    replace H : (some y208) = some r := by first | (rw [hy208]; with_reducible exact H) | (have H2_ := (Option.bind_some _ _).symm.trans H; rw [hy208]; with_reducible exact H2_) | (have H2_ := (Option.bind_some _ _).symm.trans H; with_reducible exact H2_) | with_reducible exact H | (rw [hy208]; exact H) | exact H
                    have Ny208 := Aside0.mk hy208
                    clear hy208
                    obtain rfl := Option.some.inj H
                    have p202 : 0 ≤ (a0 : Int) := of_decide_eq_true (by first | (with_reducible assumption) | assumption)
                    have q202 : a0 < (l2.length : Int) := of_decide_eq_true (by first | (with_reducible assumption) | assumption)
                    obtain ⟨ad202, e202, hx202_0⟩ := Kd.at_int (Kd.C_kept_now HR2.out HK.out) a0 p202 q202
                    cases e202
                    replace p202 := eq_true p202
                    replace q202 := eq_true q202
                    go_enter Tryd.func103, Tryd.ntmps103
                    go_wp2_with (first | ((with_reducible refine gate_callee (f := 99) rfl ?_); refine goesL_ (some 10) rfl rfl Tryd.func99 (by kernel_rfl) rfl #[.int .i64 (rd l2 a0), .int .i64 1280, .int .i64 1311] rfl (by (try simp only [List.map_toArray, List.map_cons, List.map_nil]); first | done | rfl | (simp only [List.length_drop, List.length_take]; rfl)) ?_; (with_reducible refine (impl_in.calls (rd l2 a0) 1280 1311 true _ A7.out).mono ?_); rintro e w' ⟨rfl, ⟨nd1_, rfl⟩⟩; refine ⟨_, rfl, ?_⟩; obtain ⟨Ao18, co18, eo18⟩ := Kd.R_slice HO3.out; subst eo18; have p204 : 0 ≤ (a0 : Int) := of_decide_eq_true (by first | (with_reducible assumption) | assumption); have q204 : a0 < (l3.length : Int) := of_decide_eq_true (by first | (with_reducible assumption) | assumption); obtain ⟨ad204, e204, hx204_0⟩ := Kd.at_int (Kd.R_reads' HO3.out).2.2 a0 p204 q204; cases e204; replace p204 := eq_true p204; replace q204 := eq_true q204; have p11 : 0 ≤ (a0 : Int) := of_decide_eq_true (by first | (with_reducible assumption) | assumption); have q11 : (a0 : Int) < ((l3.length : Int) : Int) := of_decide_eq_true (by first | (with_reducible assumption) | assumption); obtain ⟨go11, co11, eo11, gb11, gl11, cl11, HG11⟩ := Kd.R_form HO3.out (by omega); (first | cases eo11 | (injection eo11 with ea_ en_ ec_; (first | subst ea_ | (injection ea_ with ea_; subst ea_)); subst ec_; clear en_)); have GB11 := Aside0.mk gb11; have GG11 := Aside0.mk HG11; clear gb11 gl11 HG11; have HMgo11 := Aside0.mk (show (P3_ go11 ∨ w.heap.size ≤ go11) from (HO3.out.1 _ rfl)); (first | simp only [add_plain] at hx204_0 | skip); obtain ⟨hx11_0, hf11_0⟩ := Kd.R_celln 0 HO3.out (a0 : Int) p11 q11; replace p11 := eq_true p11; replace q11 := eq_true q11; obtain ⟨hy19_, hz19_⟩ := Kd.R_celln 0 HO3.out (a0 : Int) (of_decide_eq_true (by first | (with_reducible assumption) | assumption)) (of_decide_eq_true (by first | (with_reducible assumption) | assumption)); have HP19 := Kd.R_putg (Kd.R_drewN HO3.out (nd1_)) (a0 : Int) 2) | ((with_reducible refine gate_store (t := 2) (p := 18) rfl ?_); refine store_event (t := 2) (p := 18) (v := ?vo_w20) (w1 := ((World.drewN w (nd1_)).setCell ⟨go11, (a0 : Int).toNat, none⟩ (.int .i64 2))) ?hg ?ho ?hn ?hr ?_; (case ho => rfl); (case hg => rfl); (case hn => rfl); (case hr => first | (go_simp; done) | (go_simp; rfl)); intro w20 hw; have hg : (World.drewN w (nd1_)).grownBy w20 (some go11) := (by rw [hw]; exact HP19.2); have hp_ : Kd.R (Kd.int .i64) 2 w20 w0.heap.size (fun k_ => (P3_ k_ ∨ w.heap.size ≤ k_)) (.slice (some ⟨go11, 0, none⟩) l3.length co18) y205 := (by rw [hw, Ny205.out]; exact HP19.1); clear HP19; have n0_ := Aside0.mk (hp_); have n1_ := Aside0.mk ((by rw [hw]; exact below_set (by apply pw_below_drewN; exact HB.out) GB11.out : Below w0.heap.size w0 w20)); have n2_ := Aside0.mk (Kept.of_grown (S := (fun k_ => P3_ k_)) hg (by repeat (first | (with_reducible first | exact HK.out | apply Kept.alloc | apply Kept.drewN | apply Kept.drew) | exact HK.out)) (fun k_ e_ => (HO3.out.1 k_ e_))); clear HO3; clear HB; clear HK; have HO3 := n0_; have HB := n1_; have HK := n2_; have hcg2_ := hg2_ _ HK.out; have hcg3_ := hg3_ _ HK.out; clear n0_ n1_ n2_; clear hg hw hp_; have p206 : 0 ≤ (a1 : Int) := of_decide_eq_true (by first | (with_reducible assumption) | assumption); have q206 : a1 < (l2.length : Int) := of_decide_eq_true (by first | (with_reducible assumption) | assumption); obtain ⟨ad206, e206, hx206_0⟩ := Kd.at_int (Kd.C_kept_now HR2.out HK.out) a1 p206 q206; obtain rfl : ad202 = ad206 := (by injection e206); replace p206 := eq_true p206; replace q206 := eq_true q206) | ((with_reducible refine gate_callee (f := 99) rfl ?_); refine goesL_ (some 26) rfl rfl Tryd.func99 (by kernel_rfl) rfl #[.int .i64 (rd l2 a1), .int .i64 1280, .int .i64 1311] rfl (by (try simp only [List.map_toArray, List.map_cons, List.map_nil]); first | done | rfl | (simp only [List.length_drop, List.length_take]; rfl)) ?_; (with_reducible refine (impl_in.calls (rd l2 a1) 1280 1311 true _ A14.out).mono ?_); rintro e w' ⟨rfl, ⟨nd2_, rfl⟩⟩; refine ⟨_, rfl, ?_⟩; have p17 : 0 ≤ (a1 : Int) := of_decide_eq_true (by first | (with_reducible assumption) | assumption); have q17 : (a1 : Int) < ((l3.length : Int) : Int) := of_decide_eq_true (by first | (with_reducible assumption) | assumption); obtain ⟨hx17_0, hf17_0⟩ := Kd.R_celln 0 HO3.out (a1 : Int) p17 q17; replace p17 := eq_true p17; replace q17 := eq_true q17; obtain ⟨hy21_, hz21_⟩ := Kd.R_celln 0 HO3.out (a1 : Int) (of_decide_eq_true (by first | (with_reducible assumption) | assumption)) (of_decide_eq_true (by first | (with_reducible assumption) | assumption)); have HP21 := Kd.R_putg (Kd.R_drewN HO3.out (nd2_)) (a1 : Int) 3) | ((with_reducible refine gate_store (t := 2) (p := 29) rfl ?_); refine store_event (t := 2) (p := 29) (v := ?vo_w22) (w1 := ((World.drewN w20 (nd2_)).setCell ⟨go11, (a1 : Int).toNat, none⟩ (.int .i64 3))) ?hg ?ho ?hn ?hr ?_; (case ho => rfl); (case hg => rfl); (case hn => rfl); (case hr => first | (go_simp; done) | (go_simp; rfl)); intro w22 hw; have hg : (World.drewN w20 (nd2_)).grownBy w22 (some go11) := (by rw [hw]; exact HP21.2); have hp_ : Kd.R (Kd.int .i64) 2 w22 w0.heap.size (fun k_ => (P3_ k_ ∨ w.heap.size ≤ k_)) (.slice (some ⟨go11, 0, none⟩) l3.length co18) y208 := (by rw [hw, Ny208.out]; exact HP21.1); clear HP21; have n0_ := Aside0.mk (hp_); have n1_ := Aside0.mk ((by rw [hw]; exact below_set (by apply pw_below_drewN; exact HB.out) GB11.out : Below w0.heap.size w0 w22)); have n2_ := Aside0.mk (Kept.of_grown (S := (fun k_ => P3_ k_)) hg (by repeat (first | (with_reducible first | exact HK.out | apply Kept.alloc | apply Kept.drewN | apply Kept.drew) | exact HK.out)) (fun k_ e_ => (HO3.out.1 k_ e_))); clear HO3; clear HB; clear HK; have HO3 := n0_; have HB := n1_; have HK := n2_; have hcg2_ := hg2_ _ HK.out; have hcg3_ := hg3_ _ HK.out; clear n0_ n1_ n2_; clear hg hw hp_))
                    first | go_end0 | ((try simp only [Exit.inBlock, Exit.then]); refine bodyPost_ret (results_none rfl _ _ _) rfl ?_)
                    exact ⟨by first | rfl | (simp [errW_none, errW_some] <;> rfl) | (simp [*, errW_none, errW_some] <;> rfl), by (with_reducible repeat (first | apply Kd.R_alloc | apply Kd.R_drewN | apply Kd.R_drew)); exact HO3.out, by repeat (first | (with_reducible first | exact HB.out | apply below_alloc | apply pw_below_drewN | apply below_drew1) | exact HB.out), by repeat (first | (with_reducible first | exact HK.out | apply Kept.alloc | apply Kept.drewN | apply Kept.drew) | exact HK.out)⟩
                  · rw [if_neg c16] at H
                    exact absurd H (by simp)
                · replace c15 := Bool.eq_false_iff.mpr c15
                  subst c15
                  have H1 : (some y205) = some r := by rw [if_neg (show ¬ (false = true) by decide)] at H; exact H
                  clear H
                  have H := H1
                  clear H1
                  obtain rfl := Option.some.inj H
                  have p202 : 0 ≤ (a0 : Int) := of_decide_eq_true (by first | (with_reducible assumption) | assumption)
                  have q202 : a0 < (l2.length : Int) := of_decide_eq_true (by first | (with_reducible assumption) | assumption)
                  obtain ⟨ad202, e202, hx202_0⟩ := Kd.at_int (Kd.C_kept_now HR2.out HK.out) a0 p202 q202
                  cases e202
                  replace p202 := eq_true p202
                  replace q202 := eq_true q202
                  go_enter Tryd.func103, Tryd.ntmps103
                  go_wp2_with (first | ((with_reducible refine gate_callee (f := 99) rfl ?_); refine goesL_ (some 10) rfl rfl Tryd.func99 (by kernel_rfl) rfl #[.int .i64 (rd l2 a0), .int .i64 1280, .int .i64 1311] rfl (by (try simp only [List.map_toArray, List.map_cons, List.map_nil]); first | done | rfl | (simp only [List.length_drop, List.length_take]; rfl)) ?_; (with_reducible refine (impl_in.calls (rd l2 a0) 1280 1311 true _ A7.out).mono ?_); rintro e w' ⟨rfl, ⟨nd1_, rfl⟩⟩; refine ⟨_, rfl, ?_⟩; obtain ⟨Ao23, co23, eo23⟩ := Kd.R_slice HO3.out; subst eo23; have p204 : 0 ≤ (a0 : Int) := of_decide_eq_true (by first | (with_reducible assumption) | assumption); have q204 : a0 < (l3.length : Int) := of_decide_eq_true (by first | (with_reducible assumption) | assumption); obtain ⟨ad204, e204, hx204_0⟩ := Kd.at_int (Kd.R_reads' HO3.out).2.2 a0 p204 q204; cases e204; replace p204 := eq_true p204; replace q204 := eq_true q204; have p11 : 0 ≤ (a0 : Int) := of_decide_eq_true (by first | (with_reducible assumption) | assumption); have q11 : (a0 : Int) < ((l3.length : Int) : Int) := of_decide_eq_true (by first | (with_reducible assumption) | assumption); obtain ⟨go11, co11, eo11, gb11, gl11, cl11, HG11⟩ := Kd.R_form HO3.out (by omega); (first | cases eo11 | (injection eo11 with ea_ en_ ec_; (first | subst ea_ | (injection ea_ with ea_; subst ea_)); subst ec_; clear en_)); have GB11 := Aside0.mk gb11; have GG11 := Aside0.mk HG11; clear gb11 gl11 HG11; have HMgo11 := Aside0.mk (show (P3_ go11 ∨ w.heap.size ≤ go11) from (HO3.out.1 _ rfl)); (first | simp only [add_plain] at hx204_0 | skip); obtain ⟨hx11_0, hf11_0⟩ := Kd.R_celln 0 HO3.out (a0 : Int) p11 q11; replace p11 := eq_true p11; replace q11 := eq_true q11; obtain ⟨hy24_, hz24_⟩ := Kd.R_celln 0 HO3.out (a0 : Int) (of_decide_eq_true (by first | (with_reducible assumption) | assumption)) (of_decide_eq_true (by first | (with_reducible assumption) | assumption)); have HP24 := Kd.R_putg (Kd.R_drewN HO3.out (nd1_)) (a0 : Int) 2) | ((with_reducible refine gate_store (t := 2) (p := 18) rfl ?_); refine store_event (t := 2) (p := 18) (v := ?vo_w25) (w1 := ((World.drewN w (nd1_)).setCell ⟨go11, (a0 : Int).toNat, none⟩ (.int .i64 2))) ?hg ?ho ?hn ?hr ?_; (case ho => rfl); (case hg => rfl); (case hn => rfl); (case hr => first | (go_simp; done) | (go_simp; rfl)); intro w25 hw; have hg : (World.drewN w (nd1_)).grownBy w25 (some go11) := (by rw [hw]; exact HP24.2); have hp_ : Kd.R (Kd.int .i64) 2 w25 w0.heap.size (fun k_ => (P3_ k_ ∨ w.heap.size ≤ k_)) (.slice (some ⟨go11, 0, none⟩) l3.length co23) y205 := (by rw [hw, Ny205.out]; exact HP24.1); clear HP24; have n0_ := Aside0.mk (hp_); have n1_ := Aside0.mk ((by rw [hw]; exact below_set (by apply pw_below_drewN; exact HB.out) GB11.out : Below w0.heap.size w0 w25)); have n2_ := Aside0.mk (Kept.of_grown (S := (fun k_ => P3_ k_)) hg (by repeat (first | (with_reducible first | exact HK.out | apply Kept.alloc | apply Kept.drewN | apply Kept.drew) | exact HK.out)) (fun k_ e_ => (HO3.out.1 k_ e_))); clear HO3; clear HB; clear HK; have HO3 := n0_; have HB := n1_; have HK := n2_; have hcg2_ := hg2_ _ HK.out; have hcg3_ := hg3_ _ HK.out; clear n0_ n1_ n2_; clear hg hw hp_; have p206 : 0 ≤ (a1 : Int) := of_decide_eq_true (by first | (with_reducible assumption) | assumption); have q206 : a1 < (l2.length : Int) := of_decide_eq_true (by first | (with_reducible assumption) | assumption); obtain ⟨ad206, e206, hx206_0⟩ := Kd.at_int (Kd.C_kept_now HR2.out HK.out) a1 p206 q206; obtain rfl : ad202 = ad206 := (by injection e206); replace p206 := eq_true p206; replace q206 := eq_true q206) | ((with_reducible refine gate_callee (f := 99) rfl ?_); refine goesL_ (some 26) rfl rfl Tryd.func99 (by kernel_rfl) rfl #[.int .i64 (rd l2 a1), .int .i64 1280, .int .i64 1311] rfl (by (try simp only [List.map_toArray, List.map_cons, List.map_nil]); first | done | rfl | (simp only [List.length_drop, List.length_take]; rfl)) ?_; (with_reducible refine (impl_in.calls (rd l2 a1) 1280 1311 false _ A14.out).mono ?_); rintro e w' ⟨rfl, ⟨nd2_, rfl⟩⟩; refine ⟨_, rfl, ?_⟩))
                  first | go_end0 | ((try simp only [Exit.inBlock, Exit.then]); refine bodyPost_ret (results_none rfl _ _ _) rfl ?_)
                  exact ⟨by first | rfl | (simp [errW_none, errW_some] <;> rfl) | (simp [*, errW_none, errW_some] <;> rfl), by (with_reducible repeat (first | apply Kd.R_alloc | apply Kd.R_drewN | apply Kd.R_drew)); exact HO3.out, by repeat (first | (with_reducible first | exact HB.out | apply below_alloc | apply pw_below_drewN | apply below_drew1) | exact HB.out), by repeat (first | (with_reducible first | exact HK.out | apply Kept.alloc | apply Kept.drewN | apply Kept.drew) | exact HK.out)⟩
              · rw [if_neg c13] at H
                exact absurd H (by simp)
            · rw [if_neg c12] at H
              exact absurd H (by simp)
          · rw [if_neg c10] at H
            have c10b0 : ((rd l3 a0) == 3) = false := beq_eq_false_iff_ne.mpr c10
            have c10b1 : ((rd l3 a0) != 3) = true := bne_iff_ne.mpr c10
            obtain ⟨y209, hy209⟩ : ∃ y_ : List Int, y_ = (l3.set (a0 : Int).toNat 1) := ⟨_, rfl⟩
            replace H : (if 0 ≤ a1 then (if a1 < (l2.length : Int) then ((impl_in.f (rd l2 a1) 1280 1311).bind fun t211 => (if t211 = true then (if a1 < (l3.length : Int) then (some (y209.set (a1 : Int).toNat 3)) else (none)) else (some y209))) else (none)) else (none)) = some r := by first | (rw [hy209]; with_reducible exact H) | (have H2_ := (Option.bind_some _ _).symm.trans H; rw [hy209]; with_reducible exact H2_) | (have H2_ := (Option.bind_some _ _).symm.trans H; with_reducible exact H2_) | with_reducible exact H | (rw [hy209]; exact H) | exact H
            have Ny209 := Aside0.mk hy209
            clear hy209
            by_cases c27 : 0 ≤ a1
            · rw [if_pos c27] at H
              have c27b0 : decide (0 ≤ a1) = true := decide_eq_true c27
              clear c27
              by_cases c28 : a1 < (l2.length : Int)
              · rw [if_pos c28] at H
                have c28b0 : decide (a1 < (l2.length : Int)) = true := decide_eq_true c28
                clear c28
                replace H := Option.bind_eq_some_iff.mp H
                obtain ⟨t211, A290, H⟩ := H
                replace H : (if t211 = true then (if a1 < (l3.length : Int) then (some (y209.set (a1 : Int).toNat 3)) else (none)) else (some y209)) = some r := H
                have A29 := Aside0.mk A290
                clear A290
                by_cases c30 : t211 = true
                · subst c30
                  have H1 : (if a1 < (l3.length : Int) then (some (y209.set (a1 : Int).toNat 3)) else (none)) = some r := by rw [if_pos rfl] at H; exact H
                  clear H
                  have H := H1
                  clear H1
                  by_cases c31 : a1 < (l3.length : Int)
                  · rw [if_pos c31] at H
                    have c31b0 : decide (a1 < (l3.length : Int)) = true := decide_eq_true c31
                    clear c31
                    obtain ⟨y212, hy212⟩ : ∃ y_ : List Int, y_ = (y209.set (a1 : Int).toNat 3) := ⟨_, rfl⟩
                    replace H : (some y212) = some r := by first | (rw [hy212]; with_reducible exact H) | (have H2_ := (Option.bind_some _ _).symm.trans H; rw [hy212]; with_reducible exact H2_) | (have H2_ := (Option.bind_some _ _).symm.trans H; with_reducible exact H2_) | with_reducible exact H | (rw [hy212]; exact H) | exact H
                    have Ny212 := Aside0.mk hy212
                    clear hy212
                    obtain rfl := Option.some.inj H
                    have p202 : 0 ≤ (a0 : Int) := of_decide_eq_true (by first | (with_reducible assumption) | assumption)
                    have q202 : a0 < (l2.length : Int) := of_decide_eq_true (by first | (with_reducible assumption) | assumption)
                    obtain ⟨ad202, e202, hx202_0⟩ := Kd.at_int (Kd.C_kept_now HR2.out HK.out) a0 p202 q202
                    cases e202
                    replace p202 := eq_true p202
                    replace q202 := eq_true q202
                    go_enter Tryd.func103, Tryd.ntmps103
                    go_wp2_with (first | ((with_reducible refine gate_callee (f := 99) rfl ?_); refine goesL_ (some 10) rfl rfl Tryd.func99 (by kernel_rfl) rfl #[.int .i64 (rd l2 a0), .int .i64 1280, .int .i64 1311] rfl (by (try simp only [List.map_toArray, List.map_cons, List.map_nil]); first | done | rfl | (simp only [List.length_drop, List.length_take]; rfl)) ?_; (with_reducible refine (impl_in.calls (rd l2 a0) 1280 1311 true _ A7.out).mono ?_); rintro e w' ⟨rfl, ⟨nd1_, rfl⟩⟩; refine ⟨_, rfl, ?_⟩; obtain ⟨Ao33, co33, eo33⟩ := Kd.R_slice HO3.out; subst eo33; have p204 : 0 ≤ (a0 : Int) := of_decide_eq_true (by first | (with_reducible assumption) | assumption); have q204 : a0 < (l3.length : Int) := of_decide_eq_true (by first | (with_reducible assumption) | assumption); obtain ⟨ad204, e204, hx204_0⟩ := Kd.at_int (Kd.R_reads' HO3.out).2.2 a0 p204 q204; cases e204; replace p204 := eq_true p204; replace q204 := eq_true q204; have p26 : 0 ≤ (a0 : Int) := of_decide_eq_true (by first | (with_reducible assumption) | assumption); have q26 : (a0 : Int) < ((l3.length : Int) : Int) := of_decide_eq_true (by first | (with_reducible assumption) | assumption); obtain ⟨go26, co26, eo26, gb26, gl26, cl26, HG26⟩ := Kd.R_form HO3.out (by omega); (first | cases eo26 | (injection eo26 with ea_ en_ ec_; (first | subst ea_ | (injection ea_ with ea_; subst ea_)); subst ec_; clear en_)); have GB26 := Aside0.mk gb26; have GG26 := Aside0.mk HG26; clear gb26 gl26 HG26; have HMgo26 := Aside0.mk (show (P3_ go26 ∨ w.heap.size ≤ go26) from (HO3.out.1 _ rfl)); (first | simp only [add_plain] at hx204_0 | skip); obtain ⟨hx26_0, hf26_0⟩ := Kd.R_celln 0 HO3.out (a0 : Int) p26 q26; replace p26 := eq_true p26; replace q26 := eq_true q26; obtain ⟨hy34_, hz34_⟩ := Kd.R_celln 0 HO3.out (a0 : Int) (of_decide_eq_true (by first | (with_reducible assumption) | assumption)) (of_decide_eq_true (by first | (with_reducible assumption) | assumption)); have HP34 := Kd.R_putg (Kd.R_drewN HO3.out (nd1_)) (a0 : Int) 1) | ((with_reducible refine gate_store (t := 2) (p := 21) rfl ?_); refine store_event (t := 2) (p := 21) (v := ?vo_w35) (w1 := ((World.drewN w (nd1_)).setCell ⟨go26, (a0 : Int).toNat, none⟩ (.int .i64 1))) ?hg ?ho ?hn ?hr ?_; (case ho => rfl); (case hg => rfl); (case hn => rfl); (case hr => first | (go_simp; done) | (go_simp; rfl)); intro w35 hw; have hg : (World.drewN w (nd1_)).grownBy w35 (some go26) := (by rw [hw]; exact HP34.2); have hp_ : Kd.R (Kd.int .i64) 2 w35 w0.heap.size (fun k_ => (P3_ k_ ∨ w.heap.size ≤ k_)) (.slice (some ⟨go26, 0, none⟩) l3.length co33) y209 := (by rw [hw, Ny209.out]; exact HP34.1); clear HP34; have n0_ := Aside0.mk (hp_); have n1_ := Aside0.mk ((by rw [hw]; exact below_set (by apply pw_below_drewN; exact HB.out) GB26.out : Below w0.heap.size w0 w35)); have n2_ := Aside0.mk (Kept.of_grown (S := (fun k_ => P3_ k_)) hg (by repeat (first | (with_reducible first | exact HK.out | apply Kept.alloc | apply Kept.drewN | apply Kept.drew) | exact HK.out)) (fun k_ e_ => (HO3.out.1 k_ e_))); clear HO3; clear HB; clear HK; have HO3 := n0_; have HB := n1_; have HK := n2_; have hcg2_ := hg2_ _ HK.out; have hcg3_ := hg3_ _ HK.out; clear n0_ n1_ n2_; clear hg hw hp_; have p210 : 0 ≤ (a1 : Int) := of_decide_eq_true (by first | (with_reducible assumption) | assumption); have q210 : a1 < (l2.length : Int) := of_decide_eq_true (by first | (with_reducible assumption) | assumption); obtain ⟨ad210, e210, hx210_0⟩ := Kd.at_int (Kd.C_kept_now HR2.out HK.out) a1 p210 q210; obtain rfl : ad202 = ad210 := (by injection e210); replace p210 := eq_true p210; replace q210 := eq_true q210) | ((with_reducible refine gate_callee (f := 99) rfl ?_); refine goesL_ (some 26) rfl rfl Tryd.func99 (by kernel_rfl) rfl #[.int .i64 (rd l2 a1), .int .i64 1280, .int .i64 1311] rfl (by (try simp only [List.map_toArray, List.map_cons, List.map_nil]); first | done | rfl | (simp only [List.length_drop, List.length_take]; rfl)) ?_; (with_reducible refine (impl_in.calls (rd l2 a1) 1280 1311 true _ A29.out).mono ?_); rintro e w' ⟨rfl, ⟨nd2_, rfl⟩⟩; refine ⟨_, rfl, ?_⟩; have p32 : 0 ≤ (a1 : Int) := of_decide_eq_true (by first | (with_reducible assumption) | assumption); have q32 : (a1 : Int) < ((l3.length : Int) : Int) := of_decide_eq_true (by first | (with_reducible assumption) | assumption); obtain ⟨hx32_0, hf32_0⟩ := Kd.R_celln 0 HO3.out (a1 : Int) p32 q32; replace p32 := eq_true p32; replace q32 := eq_true q32; obtain ⟨hy36_, hz36_⟩ := Kd.R_celln 0 HO3.out (a1 : Int) (of_decide_eq_true (by first | (with_reducible assumption) | assumption)) (of_decide_eq_true (by first | (with_reducible assumption) | assumption)); have HP36 := Kd.R_putg (Kd.R_drewN HO3.out (nd2_)) (a1 : Int) 3) | ((with_reducible refine gate_store (t := 2) (p := 29) rfl ?_); refine store_event (t := 2) (p := 29) (v := ?vo_w37) (w1 := ((World.drewN w35 (nd2_)).setCell ⟨go26, (a1 : Int).toNat, none⟩ (.int .i64 3))) ?hg ?ho ?hn ?hr ?_; (case ho => rfl); (case hg => rfl); (case hn => rfl); (case hr => first | (go_simp; done) | (go_simp; rfl)); intro w37 hw; have hg : (World.drewN w35 (nd2_)).grownBy w37 (some go26) := (by rw [hw]; exact HP36.2); have hp_ : Kd.R (Kd.int .i64) 2 w37 w0.heap.size (fun k_ => (P3_ k_ ∨ w.heap.size ≤ k_)) (.slice (some ⟨go26, 0, none⟩) l3.length co33) y212 := (by rw [hw, Ny212.out]; exact HP36.1); clear HP36; have n0_ := Aside0.mk (hp_); have n1_ := Aside0.mk ((by rw [hw]; exact below_set (by apply pw_below_drewN; exact HB.out) GB26.out : Below w0.heap.size w0 w37)); have n2_ := Aside0.mk (Kept.of_grown (S := (fun k_ => P3_ k_)) hg (by repeat (first | (with_reducible first | exact HK.out | apply Kept.alloc | apply Kept.drewN | apply Kept.drew) | exact HK.out)) (fun k_ e_ => (HO3.out.1 k_ e_))); clear HO3; clear HB; clear HK; have HO3 := n0_; have HB := n1_; have HK := n2_; have hcg2_ := hg2_ _ HK.out; have hcg3_ := hg3_ _ HK.out; clear n0_ n1_ n2_; clear hg hw hp_))
                    first | go_end0 | ((try simp only [Exit.inBlock, Exit.then]); refine bodyPost_ret (results_none rfl _ _ _) rfl ?_)
                    exact ⟨by first | rfl | (simp [errW_none, errW_some] <;> rfl) | (simp [*, errW_none, errW_some] <;> rfl), by (with_reducible repeat (first | apply Kd.R_alloc | apply Kd.R_drewN | apply Kd.R_drew)); exact HO3.out, by repeat (first | (with_reducible first | exact HB.out | apply below_alloc | apply pw_below_drewN | apply below_drew1) | exact HB.out), by repeat (first | (with_reducible first | exact HK.out | apply Kept.alloc | apply Kept.drewN | apply Kept.drew) | exact HK.out)⟩
                  · rw [if_neg c31] at H
                    exact absurd H (by simp)
                · replace c30 := Bool.eq_false_iff.mpr c30
                  subst c30
                  have H1 : (some y209) = some r := by rw [if_neg (show ¬ (false = true) by decide)] at H; exact H
                  clear H
                  have H := H1
                  clear H1
                  obtain rfl := Option.some.inj H
                  have p202 : 0 ≤ (a0 : Int) := of_decide_eq_true (by first | (with_reducible assumption) | assumption)
                  have q202 : a0 < (l2.length : Int) := of_decide_eq_true (by first | (with_reducible assumption) | assumption)
                  obtain ⟨ad202, e202, hx202_0⟩ := Kd.at_int (Kd.C_kept_now HR2.out HK.out) a0 p202 q202
                  cases e202
                  replace p202 := eq_true p202
                  replace q202 := eq_true q202
                  go_enter Tryd.func103, Tryd.ntmps103
                  go_wp2_with (first | ((with_reducible refine gate_callee (f := 99) rfl ?_); refine goesL_ (some 10) rfl rfl Tryd.func99 (by kernel_rfl) rfl #[.int .i64 (rd l2 a0), .int .i64 1280, .int .i64 1311] rfl (by (try simp only [List.map_toArray, List.map_cons, List.map_nil]); first | done | rfl | (simp only [List.length_drop, List.length_take]; rfl)) ?_; (with_reducible refine (impl_in.calls (rd l2 a0) 1280 1311 true _ A7.out).mono ?_); rintro e w' ⟨rfl, ⟨nd1_, rfl⟩⟩; refine ⟨_, rfl, ?_⟩; obtain ⟨Ao38, co38, eo38⟩ := Kd.R_slice HO3.out; subst eo38; have p204 : 0 ≤ (a0 : Int) := of_decide_eq_true (by first | (with_reducible assumption) | assumption); have q204 : a0 < (l3.length : Int) := of_decide_eq_true (by first | (with_reducible assumption) | assumption); obtain ⟨ad204, e204, hx204_0⟩ := Kd.at_int (Kd.R_reads' HO3.out).2.2 a0 p204 q204; cases e204; replace p204 := eq_true p204; replace q204 := eq_true q204; have p26 : 0 ≤ (a0 : Int) := of_decide_eq_true (by first | (with_reducible assumption) | assumption); have q26 : (a0 : Int) < ((l3.length : Int) : Int) := of_decide_eq_true (by first | (with_reducible assumption) | assumption); obtain ⟨go26, co26, eo26, gb26, gl26, cl26, HG26⟩ := Kd.R_form HO3.out (by omega); (first | cases eo26 | (injection eo26 with ea_ en_ ec_; (first | subst ea_ | (injection ea_ with ea_; subst ea_)); subst ec_; clear en_)); have GB26 := Aside0.mk gb26; have GG26 := Aside0.mk HG26; clear gb26 gl26 HG26; have HMgo26 := Aside0.mk (show (P3_ go26 ∨ w.heap.size ≤ go26) from (HO3.out.1 _ rfl)); (first | simp only [add_plain] at hx204_0 | skip); obtain ⟨hx26_0, hf26_0⟩ := Kd.R_celln 0 HO3.out (a0 : Int) p26 q26; replace p26 := eq_true p26; replace q26 := eq_true q26; obtain ⟨hy39_, hz39_⟩ := Kd.R_celln 0 HO3.out (a0 : Int) (of_decide_eq_true (by first | (with_reducible assumption) | assumption)) (of_decide_eq_true (by first | (with_reducible assumption) | assumption)); have HP39 := Kd.R_putg (Kd.R_drewN HO3.out (nd1_)) (a0 : Int) 1) | ((with_reducible refine gate_store (t := 2) (p := 21) rfl ?_); refine store_event (t := 2) (p := 21) (v := ?vo_w40) (w1 := ((World.drewN w (nd1_)).setCell ⟨go26, (a0 : Int).toNat, none⟩ (.int .i64 1))) ?hg ?ho ?hn ?hr ?_; (case ho => rfl); (case hg => rfl); (case hn => rfl); (case hr => first | (go_simp; done) | (go_simp; rfl)); intro w40 hw; have hg : (World.drewN w (nd1_)).grownBy w40 (some go26) := (by rw [hw]; exact HP39.2); have hp_ : Kd.R (Kd.int .i64) 2 w40 w0.heap.size (fun k_ => (P3_ k_ ∨ w.heap.size ≤ k_)) (.slice (some ⟨go26, 0, none⟩) l3.length co38) y209 := (by rw [hw, Ny209.out]; exact HP39.1); clear HP39; have n0_ := Aside0.mk (hp_); have n1_ := Aside0.mk ((by rw [hw]; exact below_set (by apply pw_below_drewN; exact HB.out) GB26.out : Below w0.heap.size w0 w40)); have n2_ := Aside0.mk (Kept.of_grown (S := (fun k_ => P3_ k_)) hg (by repeat (first | (with_reducible first | exact HK.out | apply Kept.alloc | apply Kept.drewN | apply Kept.drew) | exact HK.out)) (fun k_ e_ => (HO3.out.1 k_ e_))); clear HO3; clear HB; clear HK; have HO3 := n0_; have HB := n1_; have HK := n2_; have hcg2_ := hg2_ _ HK.out; have hcg3_ := hg3_ _ HK.out; clear n0_ n1_ n2_; clear hg hw hp_; have p210 : 0 ≤ (a1 : Int) := of_decide_eq_true (by first | (with_reducible assumption) | assumption); have q210 : a1 < (l2.length : Int) := of_decide_eq_true (by first | (with_reducible assumption) | assumption); obtain ⟨ad210, e210, hx210_0⟩ := Kd.at_int (Kd.C_kept_now HR2.out HK.out) a1 p210 q210; obtain rfl : ad202 = ad210 := (by injection e210); replace p210 := eq_true p210; replace q210 := eq_true q210) | ((with_reducible refine gate_callee (f := 99) rfl ?_); refine goesL_ (some 26) rfl rfl Tryd.func99 (by kernel_rfl) rfl #[.int .i64 (rd l2 a1), .int .i64 1280, .int .i64 1311] rfl (by (try simp only [List.map_toArray, List.map_cons, List.map_nil]); first | done | rfl | (simp only [List.length_drop, List.length_take]; rfl)) ?_; (with_reducible refine (impl_in.calls (rd l2 a1) 1280 1311 false _ A29.out).mono ?_); rintro e w' ⟨rfl, ⟨nd2_, rfl⟩⟩; refine ⟨_, rfl, ?_⟩))
                  first | go_end0 | ((try simp only [Exit.inBlock, Exit.then]); refine bodyPost_ret (results_none rfl _ _ _) rfl ?_)
                  exact ⟨by first | rfl | (simp [errW_none, errW_some] <;> rfl) | (simp [*, errW_none, errW_some] <;> rfl), by (with_reducible repeat (first | apply Kd.R_alloc | apply Kd.R_drewN | apply Kd.R_drew)); exact HO3.out, by repeat (first | (with_reducible first | exact HB.out | apply below_alloc | apply pw_below_drewN | apply below_drew1) | exact HB.out), by repeat (first | (with_reducible first | exact HK.out | apply Kept.alloc | apply Kept.drewN | apply Kept.drew) | exact HK.out)⟩
              · rw [if_neg c28] at H
                exact absurd H (by simp)
            · rw [if_neg c27] at H
              exact absurd H (by simp)
        · rw [if_neg c9] at H
          exact absurd H (by simp)
      · replace c8 := Bool.eq_false_iff.mpr c8
        subst c8
        have H1 : (if 0 ≤ a1 then (if a1 < (l2.length : Int) then ((impl_in.f (rd l2 a1) 1280 1311).bind fun t214 => (if t214 = true then (if a1 < (l3.length : Int) then (some (l3.set (a1 : Int).toNat 3)) else (none)) else (some l3))) else (none)) else (none)) = some r := by rw [if_neg (show ¬ (false = true) by decide)] at H; exact H
        clear H
        have H := H1
        clear H1
        by_cases c41 : 0 ≤ a1
        · rw [if_pos c41] at H
          have c41b0 : decide (0 ≤ a1) = true := decide_eq_true c41
          clear c41
          by_cases c42 : a1 < (l2.length : Int)
          · rw [if_pos c42] at H
            have c42b0 : decide (a1 < (l2.length : Int)) = true := decide_eq_true c42
            clear c42
            replace H := Option.bind_eq_some_iff.mp H
            obtain ⟨t214, A430, H⟩ := H
            replace H : (if t214 = true then (if a1 < (l3.length : Int) then (some (l3.set (a1 : Int).toNat 3)) else (none)) else (some l3)) = some r := H
            have A43 := Aside0.mk A430
            clear A430
            by_cases c44 : t214 = true
            · subst c44
              have H1 : (if a1 < (l3.length : Int) then (some (l3.set (a1 : Int).toNat 3)) else (none)) = some r := by rw [if_pos rfl] at H; exact H
              clear H
              have H := H1
              clear H1
              by_cases c45 : a1 < (l3.length : Int)
              · rw [if_pos c45] at H
                have c45b0 : decide (a1 < (l3.length : Int)) = true := decide_eq_true c45
                clear c45
                obtain ⟨y215, hy215⟩ : ∃ y_ : List Int, y_ = (l3.set (a1 : Int).toNat 3) := ⟨_, rfl⟩
                replace H : (some y215) = some r := by first | (rw [hy215]; with_reducible exact H) | (have H2_ := (Option.bind_some _ _).symm.trans H; rw [hy215]; with_reducible exact H2_) | (have H2_ := (Option.bind_some _ _).symm.trans H; with_reducible exact H2_) | with_reducible exact H | (rw [hy215]; exact H) | exact H
                have Ny215 := Aside0.mk hy215
                clear hy215
                obtain rfl := Option.some.inj H
                have p202 : 0 ≤ (a0 : Int) := of_decide_eq_true (by first | (with_reducible assumption) | assumption)
                have q202 : a0 < (l2.length : Int) := of_decide_eq_true (by first | (with_reducible assumption) | assumption)
                obtain ⟨ad202, e202, hx202_0⟩ := Kd.at_int (Kd.C_kept_now HR2.out HK.out) a0 p202 q202
                cases e202
                replace p202 := eq_true p202
                replace q202 := eq_true q202
                go_enter Tryd.func103, Tryd.ntmps103
                go_wp2_with (first | ((with_reducible refine gate_callee (f := 99) rfl ?_); refine goesL_ (some 10) rfl rfl Tryd.func99 (by kernel_rfl) rfl #[.int .i64 (rd l2 a0), .int .i64 1280, .int .i64 1311] rfl (by (try simp only [List.map_toArray, List.map_cons, List.map_nil]); first | done | rfl | (simp only [List.length_drop, List.length_take]; rfl)) ?_; (with_reducible refine (impl_in.calls (rd l2 a0) 1280 1311 false _ A7.out).mono ?_); rintro e w' ⟨rfl, ⟨nd1_, rfl⟩⟩; refine ⟨_, rfl, ?_⟩; have p213 : 0 ≤ (a1 : Int) := of_decide_eq_true (by first | (with_reducible assumption) | assumption); have q213 : a1 < (l2.length : Int) := of_decide_eq_true (by first | (with_reducible assumption) | assumption); obtain ⟨ad213, e213, hx213_0⟩ := Kd.at_int (Kd.C_kept_now HR2.out HK.out) a1 p213 q213; obtain rfl : ad202 = ad213 := (by injection e213); replace p213 := eq_true p213; replace q213 := eq_true q213) | ((with_reducible refine gate_callee (f := 99) rfl ?_); refine goesL_ (some 26) rfl rfl Tryd.func99 (by kernel_rfl) rfl #[.int .i64 (rd l2 a1), .int .i64 1280, .int .i64 1311] rfl (by (try simp only [List.map_toArray, List.map_cons, List.map_nil]); first | done | rfl | (simp only [List.length_drop, List.length_take]; rfl)) ?_; (with_reducible refine (impl_in.calls (rd l2 a1) 1280 1311 true _ A43.out).mono ?_); rintro e w' ⟨rfl, ⟨nd2_, rfl⟩⟩; refine ⟨_, rfl, ?_⟩; have p46 : 0 ≤ (a1 : Int) := of_decide_eq_true (by first | (with_reducible assumption) | assumption); have q46 : (a1 : Int) < ((l3.length : Int) : Int) := of_decide_eq_true (by first | (with_reducible assumption) | assumption); obtain ⟨go46, co46, eo46, gb46, gl46, cl46, HG46⟩ := Kd.R_form HO3.out (by omega); (first | cases eo46 | (injection eo46 with ea_ en_ ec_; (first | subst ea_ | (injection ea_ with ea_; subst ea_)); subst ec_; clear en_)); have GB46 := Aside0.mk gb46; have GG46 := Aside0.mk HG46; clear gb46 gl46 HG46; have HMgo46 := Aside0.mk (show (P3_ go46 ∨ w.heap.size ≤ go46) from (HO3.out.1 _ rfl)); obtain ⟨hx46_0, hf46_0⟩ := Kd.R_celln 0 HO3.out (a1 : Int) p46 q46; replace p46 := eq_true p46; replace q46 := eq_true q46; obtain ⟨hy47_, hz47_⟩ := Kd.R_celln 0 HO3.out (a1 : Int) (of_decide_eq_true (by first | (with_reducible assumption) | assumption)) (of_decide_eq_true (by first | (with_reducible assumption) | assumption)); have HP47 := Kd.R_putg (Kd.R_drewN HO3.out (nd1_ + nd2_)) (a1 : Int) 3) | ((with_reducible refine gate_store (t := 2) (p := 29) rfl ?_); refine store_event (t := 2) (p := 29) (v := ?vo_w48) (w1 := ((World.drewN w (nd1_ + nd2_)).setCell ⟨go46, (a1 : Int).toNat, none⟩ (.int .i64 3))) ?hg ?ho ?hn ?hr ?_; (case ho => rfl); (case hg => rfl); (case hn => rfl); (case hr => first | (go_simp; done) | (go_simp; rfl)); intro w48 hw; have hg : (World.drewN w (nd1_ + nd2_)).grownBy w48 (some go46) := (by rw [hw]; exact HP47.2); have hp_ : Kd.R (Kd.int .i64) 2 w48 w0.heap.size (fun k_ => (P3_ k_ ∨ w.heap.size ≤ k_)) (.slice (some ⟨go46, 0, none⟩) l3.length co46) y215 := (by rw [hw, Ny215.out]; exact HP47.1); clear HP47; have n0_ := Aside0.mk (hp_); have n1_ := Aside0.mk ((by rw [hw]; exact below_set (by apply pw_below_drewN; exact HB.out) GB46.out : Below w0.heap.size w0 w48)); have n2_ := Aside0.mk (Kept.of_grown (S := (fun k_ => P3_ k_)) hg (by repeat (first | (with_reducible first | exact HK.out | apply Kept.alloc | apply Kept.drewN | apply Kept.drew) | exact HK.out)) (fun k_ e_ => (HO3.out.1 k_ e_))); clear HO3; clear HB; clear HK; have HO3 := n0_; have HB := n1_; have HK := n2_; have hcg2_ := hg2_ _ HK.out; have hcg3_ := hg3_ _ HK.out; clear n0_ n1_ n2_; clear hg hw hp_))
                first | go_end0 | ((try simp only [Exit.inBlock, Exit.then]); refine bodyPost_ret (results_none rfl _ _ _) rfl ?_)
                exact ⟨by first | rfl | (simp [errW_none, errW_some] <;> rfl) | (simp [*, errW_none, errW_some] <;> rfl), by (with_reducible repeat (first | apply Kd.R_alloc | apply Kd.R_drewN | apply Kd.R_drew)); exact HO3.out, by repeat (first | (with_reducible first | exact HB.out | apply below_alloc | apply pw_below_drewN | apply below_drew1) | exact HB.out), by repeat (first | (with_reducible first | exact HK.out | apply Kept.alloc | apply Kept.drewN | apply Kept.drew) | exact HK.out)⟩
              · rw [if_neg c45] at H
                exact absurd H (by simp)
            · replace c44 := Bool.eq_false_iff.mpr c44
              subst c44
              have H1 : (some l3) = some r := by rw [if_neg (show ¬ (false = true) by decide)] at H; exact H
              clear H
              have H := H1
              clear H1
              obtain rfl := Option.some.inj H
              have p202 : 0 ≤ (a0 : Int) := of_decide_eq_true (by first | (with_reducible assumption) | assumption)
              have q202 : a0 < (l2.length : Int) := of_decide_eq_true (by first | (with_reducible assumption) | assumption)
              obtain ⟨ad202, e202, hx202_0⟩ := Kd.at_int (Kd.C_kept_now HR2.out HK.out) a0 p202 q202
              cases e202
              replace p202 := eq_true p202
              replace q202 := eq_true q202
              go_enter Tryd.func103, Tryd.ntmps103
              go_wp2_with (first | ((with_reducible refine gate_callee (f := 99) rfl ?_); refine goesL_ (some 10) rfl rfl Tryd.func99 (by kernel_rfl) rfl #[.int .i64 (rd l2 a0), .int .i64 1280, .int .i64 1311] rfl (by (try simp only [List.map_toArray, List.map_cons, List.map_nil]); first | done | rfl | (simp only [List.length_drop, List.length_take]; rfl)) ?_; (with_reducible refine (impl_in.calls (rd l2 a0) 1280 1311 false _ A7.out).mono ?_); rintro e w' ⟨rfl, ⟨nd, rfl⟩⟩; refine ⟨_, rfl, ?_⟩; have p213 : 0 ≤ (a1 : Int) := of_decide_eq_true (by first | (with_reducible assumption) | assumption); have q213 : a1 < (l2.length : Int) := of_decide_eq_true (by first | (with_reducible assumption) | assumption); obtain ⟨ad213, e213, hx213_0⟩ := Kd.at_int (Kd.C_kept_now HR2.out HK.out) a1 p213 q213; obtain rfl : ad202 = ad213 := (by injection e213); replace p213 := eq_true p213; replace q213 := eq_true q213) | ((with_reducible refine gate_callee (f := 99) rfl ?_); refine goesL_ (some 26) rfl rfl Tryd.func99 (by kernel_rfl) rfl #[.int .i64 (rd l2 a1), .int .i64 1280, .int .i64 1311] rfl (by (try simp only [List.map_toArray, List.map_cons, List.map_nil]); first | done | rfl | (simp only [List.length_drop, List.length_take]; rfl)) ?_; (with_reducible refine (impl_in.calls (rd l2 a1) 1280 1311 false _ A43.out).mono ?_); rintro e w' ⟨rfl, ⟨nd, rfl⟩⟩; refine ⟨_, rfl, ?_⟩))
              first | go_end0 | ((try simp only [Exit.inBlock, Exit.then]); refine bodyPost_ret (results_none rfl _ _ _) rfl ?_)
              exact ⟨by first | rfl | (simp [errW_none, errW_some] <;> rfl) | (simp [*, errW_none, errW_some] <;> rfl), by (with_reducible repeat (first | apply Kd.R_alloc | apply Kd.R_drewN | apply Kd.R_drew)); exact HO3.out, by repeat (first | (with_reducible first | exact HB.out | apply below_alloc | apply pw_below_drewN | apply below_drew1) | exact HB.out), by repeat (first | (with_reducible first | exact HK.out | apply Kept.alloc | apply Kept.drewN | apply Kept.drew) | exact HK.out)⟩
          · rw [if_neg c42] at H
            exact absurd H (by simp)
        · rw [if_neg c41] at H
          exact absurd H (by simp)
    · rw [if_neg c6] at H
      exact absurd H (by simp)
  · rw [if_neg c5] at H
    exact absurd H (by simp)

/-! ### impl_block: function 125 -/
def impl_block.f (a0 : Int) : Option (Int × Int) := if a0 ≥ 512 then (if a0 < 1280 then (some (Go.bits .andNot .i64 a0 255, Go.bits .and .i64 a0 255)) else (some (0, 0))) else (some (0, 0))
set_option maxHeartbeats 8000000 in
set_option maxRecDepth 100000 in
theorem impl_block.calls (a0 : Int) (r1 : Int) (r2 : Int) (w : World) (h : impl_block.f a0 = some (r1, r2)) :
    Calls Tryd.prog 125 #[.int .i64 a0] w fun e w' => e = .returned (.tuple #[.int .i64 r1, .int .i64 r2]) ∧ Drawn0 w w' := by
  have H : (if a0 ≥ 512 then (if a0 < 1280 then (some (Go.bits .andNot .i64 a0 255, Go.bits .and .i64 a0 255)) else (some (0, 0))) else (some (0, 0))) = some (r1, r2) := h
  clear h
  by_cases c2 : a0 ≥ 512
  · rw [if_pos c2] at H
    have c2b0 : decide (512 ≤ a0) = true := decide_eq_true c2
    clear c2
    by_cases c3 : a0 < 1280
    · rw [if_pos c3] at H
      have c3b0 : decide (a0 < 1280) = true := decide_eq_true c3
      clear c3
      simp only [Option.some.injEq, Prod.mk.injEq] at H
      obtain ⟨rfl, rfl⟩ := H
      go_enter Tryd.func125, Tryd.ntmps125
      go_wp2
      go_ret2
      exact ⟨by first | rfl | (simp; done) | (simp [*]; done), by repeat (first | exact Drawn0.refl _ | apply Drawn0.step)⟩
    · rw [if_neg c3] at H
      have c3b0 : decide (a0 < 1280) = false := decide_eq_false c3
      clear c3
      simp only [Option.some.injEq, Prod.mk.injEq] at H
      obtain ⟨rfl, rfl⟩ := H
      go_enter Tryd.func125, Tryd.ntmps125
      go_wp2
      go_ret2
      exact ⟨by first | rfl | (simp; done) | (simp [*]; done), by repeat (first | exact Drawn0.refl _ | apply Drawn0.step)⟩
  · rw [if_neg c2] at H
    have c2b0 : decide (512 ≤ a0) = false := decide_eq_false c2
    clear c2
    simp only [Option.some.injEq, Prod.mk.injEq] at H
    obtain ⟨rfl, rfl⟩ := H
    go_enter Tryd.func125, Tryd.ntmps125
    go_wp2
    go_ret2
    exact ⟨by first | rfl | (simp; done) | (simp [*]; done), by repeat (first | exact Drawn0.refl _ | apply Drawn0.step)⟩

end Go.Proofs.YtmlhnpggjkoinaaDoor.PFnExactFormsOf

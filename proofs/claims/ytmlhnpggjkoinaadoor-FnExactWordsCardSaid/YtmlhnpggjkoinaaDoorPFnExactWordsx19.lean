-- Written by a program of this session (wip/tools/myprint.py) that runs the kit's print with hooks of its own. Lean checks it.
import Derived.Test.YtmlhnpggjkoinaaDoorPFnExactWordsx0
import Derived.Test.YtmlhnpggjkoinaaDoorSlimMore
import Derived.Test.YtmlhnpggjkoinaaDoorPFnExactWordsx15
import Derived.Test.YtmlhnpggjkoinaaDoorPFnExactWordsx18
namespace Go.Proofs.YtmlhnpggjkoinaaDoor.PFnExactWords
open Go.RowKit Go.Proofs.YtmlhnpggjkoinaaDoorW.PrintWords Go.Proofs.YtmlhnpggjkoinaaDoorW.PrintLast Go.Proofs.YtmlhnpggjkoinaaDoorW.PrintMore
attribute [local go_sem] max2_int min2_int max_two min_two max_three min_three max_four min_four   -- for this text's walks alone
set_option linter.unusedVariables false
set_option linter.unusedSimpArgs false

/-! ### impl_wordCuts_5: function 92 -/
mutual
def impl_wordCuts_5.l0 : Nat → Int → Int → List Bool → Int → Int → Int → List (S54) → Int → Int → Option (Bool)
 | 0, _, _, _, _, _, _, _, _, _ => none
 | k + 1, x1, x2, x3, x4, x7, x8, x13, x14, x15 => if x15 < x14 then (if 0 ≤ x15 then (if x15 < (x13.length : Int) then (if ((rd_T54 x13 x15).f0) = x1 then (if ((rd_T54 x13 x15).f1) = x2 then (some ((rd_T54 x13 x15).f2)) else (impl_wordCuts_5.l0 k x1 x2 x3 x4 x7 x8 x13 x14 (wrap64 (x15 + 1)))) else (impl_wordCuts_5.l0 k x1 x2 x3 x4 x7 x8 x13 x14 (wrap64 (x15 + 1)))) else (none)) else (none)) else (if 0 ≤ x4 then (if x4 < (x3.length : Int) then (if rdOf false x3 x4 = true then ((impl_charClass.f k x1).bind fun t454 => (if t454 = 1 then (impl_wordCuts_5.j1 k x1 x2 x7 x8 true) else ((impl_charClass.f k x2).bind fun t455 => (impl_wordCuts_5.j1 k x1 x2 x7 x8 (t455 == 1))))) else (some false)) else (none)) else (none))
def impl_wordCuts_5.j1 : Nat → Int → Int → Int → Int → Bool → Option (Bool)
 | 0, _, _, _, _, _ => none
 | k + 1, x1, x2, x7, x8, x38 => if x38 = true then (some true) else ((impl_isSpace.f k x1).bind fun t456 => (if t456 = true then ((impl_isSpace.f k x2).bind fun t457 => (impl_wordCuts_5.j2 k x1 x2 x7 x8 t457)) else (impl_wordCuts_5.j2 k x1 x2 x7 x8 false)))
def impl_wordCuts_5.j2 : Nat → Int → Int → Int → Int → Bool → Option (Bool)
 | 0, _, _, _, _, _ => none
 | k + 1, x1, x2, x7, x8, x47 => if x47 = true then (some false) else ((impl_wordCuts_4.f k x1).bind fun t458 => (if t458 = true then ((impl_wordCuts_4.f k x2).bind fun t459 => (impl_wordCuts_5.j3 k x1 x2 x7 x8 t459)) else (impl_wordCuts_5.j3 k x1 x2 x7 x8 false)))
def impl_wordCuts_5.j3 : Nat → Int → Int → Int → Int → Bool → Option (Bool)
 | 0, _, _, _, _, _ => none
 | k + 1, x1, x2, x7, x8, x54 => if x54 = true then (some false) else ((impl_wordLetter.f k x1).bind fun t460 => (if t460 = true then ((impl_wordCuts_2.f x2).bind fun t461 => (if t461 = true then ((impl_wordLetter.f k x7).bind fun t462 => (impl_wordCuts_5.j4 k x1 x2 x7 x8 t462)) else (impl_wordCuts_5.j4 k x1 x2 x7 x8 false))) else (impl_wordCuts_5.j4 k x1 x2 x7 x8 false)))
def impl_wordCuts_5.j4 : Nat → Int → Int → Int → Int → Bool → Option (Bool)
 | 0, _, _, _, _, _ => none
 | k + 1, x1, x2, x7, x8, x63 => if x63 = true then (impl_wordCuts_5.j5 k x1 x2 x7 x8 x63) else ((impl_wordLetter.f k x8).bind fun t463 => (if t463 = true then ((impl_wordCuts_2.f x1).bind fun t464 => (if t464 = true then ((impl_wordLetter.f k x2).bind fun t465 => (impl_wordCuts_5.j5 k x1 x2 x7 x8 t465)) else (impl_wordCuts_5.j5 k x1 x2 x7 x8 false))) else (impl_wordCuts_5.j5 k x1 x2 x7 x8 false)))
def impl_wordCuts_5.j5 : Nat → Int → Int → Int → Int → Bool → Option (Bool)
 | 0, _, _, _, _, _ => none
 | k + 1, x1, x2, x7, x8, x63 => if x63 = true then (some false) else ((impl_isDigit.f k x1).bind fun t466 => (if t466 = true then ((impl_wordCuts_3.f x2).bind fun t467 => (if t467 = true then ((impl_isDigit.f k x7).bind fun t468 => (impl_wordCuts_5.j6 k x1 x2 x8 t468)) else (impl_wordCuts_5.j6 k x1 x2 x8 false))) else (impl_wordCuts_5.j6 k x1 x2 x8 false)))
def impl_wordCuts_5.j6 : Nat → Int → Int → Int → Bool → Option (Bool)
 | 0, _, _, _, _ => none
 | k + 1, x1, x2, x8, x86 => if x86 = true then (impl_wordCuts_5.j7 k x1 x2 x86) else ((impl_isDigit.f k x8).bind fun t469 => (if t469 = true then ((impl_wordCuts_3.f x1).bind fun t470 => (if t470 = true then ((impl_isDigit.f k x2).bind fun t471 => (impl_wordCuts_5.j7 k x1 x2 t471)) else (impl_wordCuts_5.j7 k x1 x2 false))) else (impl_wordCuts_5.j7 k x1 x2 false)))
def impl_wordCuts_5.j7 : Nat → Int → Int → Bool → Option (Bool)
 | 0, _, _, _ => none
 | k + 1, x1, x2, x86 => if x86 = true then (some false) else ((impl_wordCuts_4.f k x1).bind fun t472 => (if t472 = true then (impl_wordCuts_5.j8 k x1 x2 (x2 == 95)) else (if x1 = 95 then (impl_wordCuts_5.j8 k x1 x2 (x2 == 95)) else (impl_wordCuts_5.j8 k x1 x2 false))))
def impl_wordCuts_5.j8 : Nat → Int → Int → Bool → Option (Bool)
 | 0, _, _, _ => none
 | k + 1, x1, x2, x109 => if x109 = true then (impl_wordCuts_5.j9 k x1 x2 x109) else (if x1 = 95 then ((impl_wordCuts_4.f k x2).bind fun t473 => (if t473 = true then (impl_wordCuts_5.j9 k x1 x2 true) else (impl_wordCuts_5.j9 k x1 x2 (x2 == 95)))) else (impl_wordCuts_5.j9 k x1 x2 false))
def impl_wordCuts_5.j9 : Nat → Int → Int → Bool → Option (Bool)
 | 0, _, _, _ => none
 | k + 1, x1, x2, x109 => if x109 = true then (some false) else ((impl_wordPart.f k x1).bind fun t474 => (if t474 = true then ((impl_wordPart.f k x2).bind fun t475 => (if t475 = true then (some false) else (some true))) else (some true)))
end
def impl_wordCuts_5.f (k : Nat) (l0 : List (S54)) (a1 : Int) (a2 : Int) (l3 : List Bool) (a4 : Int) (a5 : Int) (a6 : Int) (a7 : Int) (a8 : Int) (a9 : Int) : Option (Bool) := impl_wordCuts_5.l0 k a1 a2 l3 a4 a7 a8 l0 (l0.length : Int) 0
set_option maxHeartbeats 8000000 in
set_option maxRecDepth 100000 in
theorem impl_wordCuts_5.calls (k : Nat) (A0 : Option Addr) (c0 : Nat) (l0 : List (S54)) (a1 : Int) (a2 : Int) (A3 : Option Addr) (c3 : Nat) (l3 : List Bool) (a4 : Int) (a5 : Int) (a6 : Int) (a7 : Int) (a8 : Int) (a9 : Int) (r : Bool) (g0_ g1_ g2_ g3_ g4_ g5_ g6_ g7_ g8_ g9_ : Nat) (w : World) (hg0_ : w.cell? ⟨g0_, 0, none⟩ = some (.slice A0 l0.length c0)) (hg1_ : w.cell? ⟨g1_, 0, none⟩ = some (.int .i64 a1)) (hg2_ : w.cell? ⟨g2_, 0, none⟩ = some (.int .i64 a2)) (hg3_ : w.cell? ⟨g3_, 0, none⟩ = some (.slice A3 l3.length c3)) (hg4_ : w.cell? ⟨g4_, 0, none⟩ = some (.int .i64 a4)) (hg5_ : w.cell? ⟨g5_, 0, none⟩ = some (.func (.func 91) #[] #[])) (hg6_ : w.cell? ⟨g6_, 0, none⟩ = some (.func (.func 89) #[] #[])) (hg7_ : w.cell? ⟨g7_, 0, none⟩ = some (.int .i64 a7)) (hg8_ : w.cell? ⟨g8_, 0, none⟩ = some (.int .i64 a8)) (hg9_ : w.cell? ⟨g9_, 0, none⟩ = some (.func (.func 90) #[] #[])) (hr0 : Kd.C k54 w A0 l0.length l0) (hc0 : l0.length ≤ c0) (hr3 : Kd.C Kd.bool w A3 l3.length l3) (hc3 : l3.length ≤ c3) (h : impl_wordCuts_5.f k l0 a1 a2 l3 a4 a5 a6 a7 a8 a9 = some r) :
  Calls Tryd.prog 92 #[.pointer (some ⟨g0_, 0, none⟩), .pointer (some ⟨g1_, 0, none⟩), .pointer (some ⟨g2_, 0, none⟩), .pointer (some ⟨g3_, 0, none⟩), .pointer (some ⟨g4_, 0, none⟩), .pointer (some ⟨g5_, 0, none⟩), .pointer (some ⟨g6_, 0, none⟩), .pointer (some ⟨g7_, 0, none⟩), .pointer (some ⟨g8_, 0, none⟩), .pointer (some ⟨g9_, 0, none⟩)] w fun e w' => e = .returned (.bool r) ∧ Below w.heap.size w w' := by
 have hu54 := Tryd.underlying54
 have HR0 := am hr0
 have HC0 := am hc0
 clear hr0 hc0
 have HR3 := am hr3
 have HC3 := am hc3
 clear hr3 hc3
 have HB := am (Below.refl w.heap.size w)
 have HG := am (show ∀ W_ : World, Below w.heap.size w W_ → (W_.cell? ⟨g0_, 0, none⟩ = some (.slice A0 l0.length c0) ∧ W_.cell? ⟨g1_, 0, none⟩ = some (.int .i64 a1) ∧ W_.cell? ⟨g2_, 0, none⟩ = some (.int .i64 a2) ∧ W_.cell? ⟨g3_, 0, none⟩ = some (.slice A3 l3.length c3) ∧ W_.cell? ⟨g4_, 0, none⟩ = some (.int .i64 a4) ∧ W_.cell? ⟨g5_, 0, none⟩ = some (.func (.func 91) #[] #[]) ∧ W_.cell? ⟨g6_, 0, none⟩ = some (.func (.func 89) #[] #[]) ∧ W_.cell? ⟨g7_, 0, none⟩ = some (.int .i64 a7) ∧ W_.cell? ⟨g8_, 0, none⟩ = some (.int .i64 a8) ∧ W_.cell? ⟨g9_, 0, none⟩ = some (.func (.func 90) #[] #[])) from fun W_ hb_ => ⟨(hb_.cell (World.block_lt_of_cell? w _ hg0_)).trans hg0_, (hb_.cell (World.block_lt_of_cell? w _ hg1_)).trans hg1_, (hb_.cell (World.block_lt_of_cell? w _ hg2_)).trans hg2_, (hb_.cell (World.block_lt_of_cell? w _ hg3_)).trans hg3_, (hb_.cell (World.block_lt_of_cell? w _ hg4_)).trans hg4_, (hb_.cell (World.block_lt_of_cell? w _ hg5_)).trans hg5_, (hb_.cell (World.block_lt_of_cell? w _ hg6_)).trans hg6_, (hb_.cell (World.block_lt_of_cell? w _ hg7_)).trans hg7_, (hb_.cell (World.block_lt_of_cell? w _ hg8_)).trans hg8_, (hb_.cell (World.block_lt_of_cell? w _ hg9_)).trans hg9_⟩)
 have HN1 := am (World.block_lt_of_cell? w _ hg1_)
 have HN2 := am (World.block_lt_of_cell? w _ hg2_)
 have H : (impl_wordCuts_5.l0 k a1 a2 l3 a4 a7 a8 l0 (l0.length : Int) 0) = some r := h
 clear h
 have H' := am H
 clear H
 go_enter Tryd.func92, Tryd.ntmps92
 go_wp2
 go_loopg [15] k (fun kq v15 w' => ∃ (x15_1 : Int), v15 = .int .i64 x15_1 ∧ Aside0 (impl_wordCuts_5.l0 kq a1 a2 l3 a4 a7 a8 l0 (l0.length : Int) x15_1 = some r) ∧ Aside0 (kq ≤ k) ∧ Aside0 (Below w.heap.size w w'))
 case atStart => exact ⟨(0), sr, H', ⟨Nat.le_refl _⟩, ⟨bB⟩⟩
 case round =>
  clear H'
  try clear c3
  obtain ⟨x15_1, rfl, HA, HK1, HB⟩ := hrel
  (try clear hg0_ hg1_ hg2_ hg3_ hg4_ hg5_ hg6_ hg7_ hg8_ hg9_)
  obtain ⟨hq0_, hq1_, hq2_, hq3_, hq4_, hq5_, hq6_, hq7_, hq8_, hq9_⟩ := HG.out _ HB.out
  cases gk with
  | zero => exact absurd HA.out (by simp [impl_wordCuts_5.l0])
  | succ k1 =>
   have H := HA.out
   clear HA
   simp only [impl_wordCuts_5.l0] at H
   by_cases c11 : x15_1 < (l0.length : Int)
   ·rw [if_pos c11] at H
    have c11b0 := decide_eq_true c11
    clear c11
    replace H := iteN H
    obtain ⟨c12, H⟩ := H
    have c12b0 := decide_eq_true c12
    clear c12
    replace H := iteN H
    obtain ⟨c13, H⟩ := H
    have c13b0 := decide_eq_true c13
    clear c13
    by_cases c14 : ((rd_T54 l0 x15_1).f0) = a1
    rotate_left
    ·rw [if_neg c14] at H
     have c14b0 : (((rd_T54 l0 x15_1).f0) == a1) = false := beq_eq_false_iff_ne.mpr c14
     have c14b1 : (((rd_T54 l0 x15_1).f0) != a1) = true := bne_iff_ne.mpr c14
     have H' := am H
     clear H
     have p451 : 0 ≤ (x15_1 : Int) := od
     have q451 : x15_1 < (l0.length : Int) := od
     obtain ⟨ad451, e451, hx451_0, hx451_1, hx451_2⟩ := at_T54 HR0.out x15_1 p451 q451
     cases e451
     replace hx451_0 := cl HB hx451_0
     replace hx451_1 := cl HB hx451_1
     replace hx451_2 := cl HB hx451_2
     replace p451 := eq_true p451; replace q451 := eq_true q451
     go_wp2_with (first | ((with_reducible refine gate_dst (N := 12) rfl ?_); refine bx 12 #[.int .i64 0, .int .i64 0, .bool false] 54 ?_; intro gb452 hg w20 hbox hb; have hu_ := HG.out _ (below_step HB.out hb); have hy1_ := hu_.2.1; have hy2_ := hu_.2.2.1; have hge_ : w.heap.size ≤ gb452 := (by rw [hg]; exact below_size HB.out); have hna_ : g1_ ≠ gb452 := Nat.ne_of_lt (Nat.lt_of_lt_of_le HN1.out hge_); have hnb_ : g2_ ≠ gb452 := Nat.ne_of_lt (Nat.lt_of_lt_of_le HN2.out hge_); have hnc_ := hna_.symm; have hnd_ := hnb_.symm; clear hu_ hge_; have BK452 := am (hbox); have GW452 := am ((by rw [hg]; exact (below_size bB) : w.heap.size ≤ gb452)); have GE452 := am ((by rw [hg]; exact (below_size bB) : w.heap.size ≤ gb452)); replace HB := am (below_step bB hb); clear hb hbox hg; have hcz21_0 := bc BK452.out 0 (.int .i64 0); have hcz21_1 := bc BK452.out 1 (.int .i64 0); have hcz21_2 := bc BK452.out 2 (.bool false); have hfz21_0 := blk_frozen BK452.out 0; have hfz21_1 := blk_frozen BK452.out 1; have hfz21_2 := blk_frozen BK452.out 2))
     go_roundg k1
     case measure => have := HK1.out; omega
     case rel => exact ⟨(wrap64 (x15_1 + 1)), sr, H', ⟨kl⟩, ⟨bS⟩⟩
    rw [if_pos c14] at H
    have c14b0 : (((rd_T54 l0 x15_1).f0) == a1) = true := beq_iff_eq.mpr c14
    have c14b1 : (((rd_T54 l0 x15_1).f0) != a1) = false := bne_eq_false_iff_eq.mpr c14
    clear c14
    by_cases c15 : ((rd_T54 l0 x15_1).f1) = a2
    ·rw [if_pos c15] at H
     have c15b0 : (((rd_T54 l0 x15_1).f1) == a2) = true := beq_iff_eq.mpr c15
     have c15b1 : (((rd_T54 l0 x15_1).f1) != a2) = false := bne_eq_false_iff_eq.mpr c15
     clear c15
     obtain rfl := Option.some.inj H
     have p451 : 0 ≤ (x15_1 : Int) := od
     have q451 : x15_1 < (l0.length : Int) := od
     obtain ⟨ad451, e451, hx451_0, hx451_1, hx451_2⟩ := at_T54 HR0.out x15_1 p451 q451
     cases e451
     replace hx451_0 := cl HB hx451_0
     replace hx451_1 := cl HB hx451_1
     replace hx451_2 := cl HB hx451_2
     replace p451 := eq_true p451; replace q451 := eq_true q451
     go_wp2_with (first | ((with_reducible refine gate_dst (N := 12) rfl ?_); refine bx 12 #[.int .i64 0, .int .i64 0, .bool false] 54 ?_; intro gb452 hg w16 hbox hb; have hu_ := HG.out _ (below_step HB.out hb); have hy1_ := hu_.2.1; have hy2_ := hu_.2.2.1; have hge_ : w.heap.size ≤ gb452 := (by rw [hg]; exact below_size HB.out); have hna_ : g1_ ≠ gb452 := Nat.ne_of_lt (Nat.lt_of_lt_of_le HN1.out hge_); have hnb_ : g2_ ≠ gb452 := Nat.ne_of_lt (Nat.lt_of_lt_of_le HN2.out hge_); have hnc_ := hna_.symm; have hnd_ := hnb_.symm; clear hu_ hge_; have BK452 := am (hbox); have GW452 := am ((by rw [hg]; exact (below_size bB) : w.heap.size ≤ gb452)); have GE452 := am ((by rw [hg]; exact (below_size bB) : w.heap.size ≤ gb452)); replace HB := am (below_step bB hb); clear hb hbox hg; have hcz17_0 := bc BK452.out 0 (.int .i64 0); have hcz17_1 := bc BK452.out 1 (.int .i64 0); have hcz17_2 := bc BK452.out 2 (.bool false); have hfz17_0 := blk_frozen BK452.out 0; have hfz17_1 := blk_frozen BK452.out 1; have hfz17_2 := blk_frozen BK452.out 2))
     go_ret
     exact ⟨rv, bS⟩
    rw [if_neg c15] at H
    have c15b0 : (((rd_T54 l0 x15_1).f1) == a2) = false := beq_eq_false_iff_ne.mpr c15
    have c15b1 : (((rd_T54 l0 x15_1).f1) != a2) = true := bne_iff_ne.mpr c15
    have H' := am H
    clear H
    have p451 : 0 ≤ (x15_1 : Int) := od
    have q451 : x15_1 < (l0.length : Int) := od
    obtain ⟨ad451, e451, hx451_0, hx451_1, hx451_2⟩ := at_T54 HR0.out x15_1 p451 q451
    cases e451
    replace hx451_0 := cl HB hx451_0
    replace hx451_1 := cl HB hx451_1
    replace hx451_2 := cl HB hx451_2
    replace p451 := eq_true p451; replace q451 := eq_true q451
    go_wp2_with (first | ((with_reducible refine gate_dst (N := 12) rfl ?_); refine bx 12 #[.int .i64 0, .int .i64 0, .bool false] 54 ?_; intro gb452 hg w18 hbox hb; have hu_ := HG.out _ (below_step HB.out hb); have hy1_ := hu_.2.1; have hy2_ := hu_.2.2.1; have hge_ : w.heap.size ≤ gb452 := (by rw [hg]; exact below_size HB.out); have hna_ : g1_ ≠ gb452 := Nat.ne_of_lt (Nat.lt_of_lt_of_le HN1.out hge_); have hnb_ : g2_ ≠ gb452 := Nat.ne_of_lt (Nat.lt_of_lt_of_le HN2.out hge_); have hnc_ := hna_.symm; have hnd_ := hnb_.symm; clear hu_ hge_; have BK452 := am (hbox); have GW452 := am ((by rw [hg]; exact (below_size bB) : w.heap.size ≤ gb452)); have GE452 := am ((by rw [hg]; exact (below_size bB) : w.heap.size ≤ gb452)); replace HB := am (below_step bB hb); clear hb hbox hg; have hcz19_0 := bc BK452.out 0 (.int .i64 0); have hcz19_1 := bc BK452.out 1 (.int .i64 0); have hcz19_2 := bc BK452.out 2 (.bool false); have hfz19_0 := blk_frozen BK452.out 0; have hfz19_1 := blk_frozen BK452.out 1; have hfz19_2 := blk_frozen BK452.out 2))
    go_roundg k1
    case measure => have := HK1.out; omega
    case rel => exact ⟨(wrap64 (x15_1 + 1)), sr, H', ⟨kl⟩, ⟨bS⟩⟩
   rw [if_neg c11] at H
   have c11b0 := decide_eq_false c11
   clear c11
   replace H := iteN H
   obtain ⟨c22, H⟩ := H
   have c22b0 := decide_eq_true c22
   clear c22
   replace H := iteN H
   obtain ⟨c23, H⟩ := H
   have c23b0 := decide_eq_true c23
   clear c23
   obtain ⟨bq24, hbq24⟩ : ∃ b_ : Bool, b_ = (rdOf false l3 a4) := ⟨_, rfl⟩
   replace H : (if bq24 = true then ((impl_charClass.f k1 a1).bind fun t454 => (if t454 = 1 then (impl_wordCuts_5.j1 k1 a1 a2 a7 a8 true) else ((impl_charClass.f k1 a2).bind fun t455 => (impl_wordCuts_5.j1 k1 a1 a2 a7 a8 (t455 == 1))))) else (some false)) = some r := by rw [← hbq24] at H; exact H
   have Nbq24 := am hbq24
   clear hbq24
   by_cases c25 : bq24 = true
   rotate_left
   ·replace c25 := Bool.eq_false_iff.mpr c25
    subst c25
    replace H := iF H
    obtain rfl := Option.some.inj H
    have p453 : 0 ≤ (a4 : Int) := od
    have q453 : a4 < (l3.length : Int) := od
    obtain ⟨ad453, e453, hx453_0⟩ := Kd.at_bool HR3.out a4 p453 q453
    (try rw [← Nbq24.out] at hx453_0)
    cases e453
    replace hx453_0 := cl HB hx453_0
    replace p453 := eq_true p453; replace q453 := eq_true q453
    go_wp2
    go_ret
    exact ⟨rv, bB⟩
   subst c25
   replace H := iT H
   have HC26 := am H
   clear H
   have p453 : 0 ≤ (a4 : Int) := od
   have q453 : a4 < (l3.length : Int) := od
   obtain ⟨ad453, e453, hx453_0⟩ := Kd.at_bool HR3.out a4 p453 q453
   (try rw [← Nbq24.out] at hx453_0)
   cases e453
   replace hx453_0 := cl HB hx453_0
   replace p453 := eq_true p453; replace q453 := eq_true q453
   go_upto_region 9 with (fail)
   go_cut [38] (fun v38 wc => ∃ (kq : Nat) (x38_25 : Bool), v38 = .bool x38_25 ∧ Aside0 (impl_wordCuts_5.j1 kq a1 a2 a7 a8 x38_25 = some r) ∧ Aside0 (kq ≤ k1) ∧ Aside0 (Below w.heap.size w wc))
   case first =>
    have H := HC26.out
    clear HC26
    obtain ⟨t454, A27, H⟩ := bb H
    by_cases c28 : t454 = 1
    ·rw [if_pos c28] at H
     have c28b0 : (t454 == 1) = true := beq_iff_eq.mpr c28
     have c28b1 : (t454 != 1) = false := bne_eq_false_iff_eq.mpr c28
     clear c28
     (first | rw [c28b0] | (simp only [i64_w, i32_w]; rw [c28b0]) | skip)
     have H' := am H
     clear H
     go_wp2_with (first | ((with_reducible refine gate_callee (f := 86) rfl ?_); refine gq 40 Tryd.func86 (impl_charClass.calls k1 a1 t454 _ A27.out) fun nd => ?_))
     go_meet
     case rel => exact ⟨_, (true), sr, H', ⟨kl⟩, ⟨bB⟩⟩
    rw [if_neg c28] at H
    have c28b0 : (t454 == 1) = false := beq_eq_false_iff_ne.mpr c28
    have c28b1 : (t454 != 1) = true := bne_iff_ne.mpr c28
    (first | rw [c28b0] | (simp only [i64_w, i32_w]; rw [c28b0]) | skip)
    obtain ⟨t455, A29, H⟩ := bb H
    have H' := am H
    clear H
    go_wp2_with (first | ((with_reducible refine gate_callee (f := 86) rfl ?_); refine gq 40 Tryd.func86 (impl_charClass.calls k1 a1 t454 _ A27.out) fun nd => ?_) | (go_at_call 86; (with_reducible refine (impl_charClass.calls k1 a2 t455 _ A29.out).mono ?_); rintro e w' ⟨rfl, ⟨nd, rfl⟩⟩))
    go_meet
    case rel => exact ⟨_, ((t455 == 1)), sr, H', ⟨kl⟩, ⟨bB⟩⟩
   case rest =>
    clear HC26
    try clear c11b0
    try clear c22b0
    try clear c23b0
    try clear c25
    try clear hx453_0
    try clear p453
    try clear q453
    obtain ⟨kq, x38_25, rfl, HA, HJ25, HB⟩ := hcut
    (try clear hq0_ hq1_ hq2_ hq3_ hq4_ hq5_ hq6_ hq7_ hq8_ hq9_)
    obtain ⟨hq0_, hq1_, hq2_, hq3_, hq4_, hq5_, hq6_, hq7_, hq8_, hq9_⟩ := HG.out _ HB.out
    cases kq with
    | zero => exact absurd HA.out (by simp [impl_wordCuts_5.j1])
    | succ kj25 =>
     have H := HA.out
     clear HA
     simp only [impl_wordCuts_5.j1] at H
     by_cases c30 : x38_25 = true
     ·subst c30
      replace H := iT H
      obtain rfl := Option.some.inj H
      go_wp2
      go_ret
      exact ⟨rv, bB⟩
     replace c30 := Bool.eq_false_iff.mpr c30
     subst c30
     replace H := iF H
     have HC31 := am H
     clear H
     go_upto_region 11 with (fail)
     go_cut [47] (fun v47 wc => ∃ (kq : Nat) (x47_30 : Bool), v47 = .bool x47_30 ∧ Aside0 (impl_wordCuts_5.j2 kq a1 a2 a7 a8 x47_30 = some r) ∧ Aside0 (kq ≤ kj25) ∧ Aside0 (Below w.heap.size w wc))
     case first =>
      have H := HC31.out
      clear HC31
      obtain ⟨t456, A32, H⟩ := bb H
      by_cases c33 : t456 = true
      ·subst c33
       replace H := iT H
       obtain ⟨t457, A34, H⟩ := bb H
       have H' := am H
       clear H
       go_wp2_with (first | ((with_reducible refine gate_callee (f := 87) rfl ?_); refine gq 49 Tryd.func87 (impl_isSpace.calls kj25 a1 true _ A32.out) fun nd => ?_) | (go_at_call 87; (with_reducible refine (impl_isSpace.calls kj25 a2 t457 _ A34.out).mono ?_); rintro e w' ⟨rfl, ⟨nd, rfl⟩⟩))
       go_meet
       case rel => exact ⟨_, (t457), sr, H', ⟨kl⟩, ⟨bB⟩⟩
      replace c33 := Bool.eq_false_iff.mpr c33
      subst c33
      replace H := iF H
      have H' := am H
      clear H
      go_wp2_with (first | ((with_reducible refine gate_callee (f := 87) rfl ?_); refine gq 49 Tryd.func87 (impl_isSpace.calls kj25 a1 false _ A32.out) fun nd => ?_))
      go_meet
      case rel => exact ⟨_, (false), sr, H', ⟨kl⟩, ⟨bB⟩⟩
     case rest =>
      clear HC31
      try clear c30
      obtain ⟨kq, x47_30, rfl, HA, HJ30, HB⟩ := hcut
      (try clear hq0_ hq1_ hq2_ hq3_ hq4_ hq5_ hq6_ hq7_ hq8_ hq9_)
      obtain ⟨hq0_, hq1_, hq2_, hq3_, hq4_, hq5_, hq6_, hq7_, hq8_, hq9_⟩ := HG.out _ HB.out
      cases kq with
      | zero => exact absurd HA.out (by simp [impl_wordCuts_5.j2])
      | succ kj30 =>
       have H := HA.out
       clear HA
       simp only [impl_wordCuts_5.j2] at H
       by_cases c35 : x47_30 = true
       ·subst c35
        replace H := iT H
        obtain rfl := Option.some.inj H
        go_wp2
        go_ret
        exact ⟨rv, bB⟩
       replace c35 := Bool.eq_false_iff.mpr c35
       subst c35
       replace H := iF H
       have HC36 := am H
       clear H
       go_upto_region 13 with (fail)
       go_cut [54] (fun v54 wc => ∃ (kq : Nat) (x54_35 : Bool), v54 = .bool x54_35 ∧ Aside0 (impl_wordCuts_5.j3 kq a1 a2 a7 a8 x54_35 = some r) ∧ Aside0 (kq ≤ kj30) ∧ Aside0 (Below w.heap.size w wc))
       case first =>
        have H := HC36.out
        clear HC36
        obtain ⟨t458, A37, H⟩ := bb H
        by_cases c38 : t458 = true
        ·subst c38
         replace H := iT H
         obtain ⟨t459, A39, H⟩ := bb H
         have H' := am H
         clear H
         go_wp2_with (first | (go_at_call 91; (with_reducible refine (impl_wordCuts_4.calls kj30 a1 true _ A37.out).mono ?_); rintro e w' ⟨rfl, ⟨nd, rfl⟩⟩) | (go_at_call 91; (with_reducible refine (impl_wordCuts_4.calls kj30 a2 t459 _ A39.out).mono ?_); rintro e w' ⟨rfl, ⟨nd, rfl⟩⟩))
         go_meet
         case rel => exact ⟨_, (t459), sr, H', ⟨kl⟩, ⟨bB⟩⟩
        replace c38 := Bool.eq_false_iff.mpr c38
        subst c38
        replace H := iF H
        have H' := am H
        clear H
        go_wp2_with (first | (go_at_call 91; (with_reducible refine (impl_wordCuts_4.calls kj30 a1 false _ A37.out).mono ?_); rintro e w' ⟨rfl, ⟨nd, rfl⟩⟩))
        go_meet
        case rel => exact ⟨_, (false), sr, H', ⟨kl⟩, ⟨bB⟩⟩
       case rest =>
        clear HC36
        try clear c35
        obtain ⟨kq, x54_35, rfl, HA, HJ35, HB⟩ := hcut
        (try clear hq0_ hq1_ hq2_ hq3_ hq4_ hq5_ hq6_ hq7_ hq8_ hq9_)
        obtain ⟨hq0_, hq1_, hq2_, hq3_, hq4_, hq5_, hq6_, hq7_, hq8_, hq9_⟩ := HG.out _ HB.out
        cases kq with
        | zero => exact absurd HA.out (by simp [impl_wordCuts_5.j3])
        | succ kj35 =>
         have H := HA.out
         clear HA
         simp only [impl_wordCuts_5.j3] at H
         by_cases c40 : x54_35 = true
         ·subst c40
          replace H := iT H
          obtain rfl := Option.some.inj H
          go_wp2
          go_ret
          exact ⟨rv, bB⟩
         replace c40 := Bool.eq_false_iff.mpr c40
         subst c40
         replace H := iF H
         have HC41 := am H
         clear H
         go_upto_region 15 with (fail)
         go_cut [63] (fun v63 wc => ∃ (kq : Nat) (x63_40 : Bool), v63 = .bool x63_40 ∧ Aside0 (impl_wordCuts_5.j4 kq a1 a2 a7 a8 x63_40 = some r) ∧ Aside0 (kq ≤ kj35) ∧ Aside0 (Below w.heap.size w wc))
         case first =>
          have H := HC41.out
          clear HC41
          obtain ⟨t460, A42, H⟩ := bb H
          by_cases c43 : t460 = true
          rotate_left
          ·replace c43 := Bool.eq_false_iff.mpr c43
           subst c43
           replace H := iF H
           have H' := am H
           clear H
           go_wp2_with (first | ((with_reducible refine gate_callee (f := 66) rfl ?_); refine gq 65 Tryd.func66 (impl_wordLetter.calls kj35 a1 false _ A42.out) fun nd => ?_))
           go_meet
           case rel => exact ⟨_, (false), sr, H', ⟨kl⟩, ⟨bB⟩⟩
          subst c43
          replace H := iT H
          obtain ⟨t461, A44, H⟩ := bb H
          by_cases c45 : t461 = true
          ·subst c45
           replace H := iT H
           obtain ⟨t462, A46, H⟩ := bb H
           have H' := am H
           clear H
           go_wp2_with (first | ((with_reducible refine gate_callee (f := 66) rfl ?_); refine gq 65 Tryd.func66 (impl_wordLetter.calls kj35 a1 true _ A42.out) fun nd => ?_) | (go_at_call 89; (with_reducible refine (impl_wordCuts_2.calls a2 true _ A44.out).mono ?_); rintro e w' ⟨rfl, ⟨nd, rfl⟩⟩) | (go_at_call 66; (with_reducible refine (impl_wordLetter.calls kj35 a7 t462 _ A46.out).mono ?_); rintro e w' ⟨rfl, ⟨nd, rfl⟩⟩))
           go_meet
           case rel => exact ⟨_, (t462), sr, H', ⟨kl⟩, ⟨bB⟩⟩
          replace c45 := Bool.eq_false_iff.mpr c45
          subst c45
          replace H := iF H
          have H' := am H
          clear H
          go_wp2_with (first | ((with_reducible refine gate_callee (f := 66) rfl ?_); refine gq 65 Tryd.func66 (impl_wordLetter.calls kj35 a1 true _ A42.out) fun nd => ?_) | (go_at_call 89; (with_reducible refine (impl_wordCuts_2.calls a2 false _ A44.out).mono ?_); rintro e w' ⟨rfl, ⟨nd, rfl⟩⟩))
          go_meet
          case rel => exact ⟨_, (false), sr, H', ⟨kl⟩, ⟨bB⟩⟩
         case rest =>
          clear HC41
          try clear c40
          obtain ⟨kq, x63_40, rfl, HA, HJ40, HB⟩ := hcut
          (try clear hq0_ hq1_ hq2_ hq3_ hq4_ hq5_ hq6_ hq7_ hq8_ hq9_)
          obtain ⟨hq0_, hq1_, hq2_, hq3_, hq4_, hq5_, hq6_, hq7_, hq8_, hq9_⟩ := HG.out _ HB.out
          cases kq with
          | zero => exact absurd HA.out (by simp [impl_wordCuts_5.j4])
          | succ kj40 =>
           have H := HA.out
           clear HA
           simp only [impl_wordCuts_5.j4] at H
           have HC47 := am H
           clear H
           go_upto_if 63 with (fail)
           go_cut [63] (fun v63 wc => ∃ (kq : Nat) (x63_46 : Bool), v63 = .bool x63_46 ∧ Aside0 (impl_wordCuts_5.j5 kq a1 a2 a7 a8 x63_46 = some r) ∧ Aside0 (kq ≤ kj40) ∧ Aside0 (Below w.heap.size w wc))
           case first =>
            have H := HC47.out
            clear HC47
            by_cases c48 : x63_40 = true
            ·subst c48
             replace H := iT H
             have H' := am H
             clear H
             go_wp2
             go_meet
             case rel => exact ⟨_, (true), sr, H', ⟨kl⟩, ⟨bB⟩⟩
            replace c48 := Bool.eq_false_iff.mpr c48
            subst c48
            replace H := iF H
            obtain ⟨t463, A49, H⟩ := bb H
            by_cases c50 : t463 = true
            rotate_left
            ·replace c50 := Bool.eq_false_iff.mpr c50
             subst c50
             replace H := iF H
             have H' := am H
             clear H
             go_wp2_with (first | ((with_reducible refine gate_callee (f := 66) rfl ?_); refine gq 76 Tryd.func66 (impl_wordLetter.calls kj40 a8 false _ A49.out) fun nd => ?_))
             go_meet
             case rel => exact ⟨_, (false), sr, H', ⟨kl⟩, ⟨bB⟩⟩
            subst c50
            replace H := iT H
            obtain ⟨t464, A51, H⟩ := bb H
            by_cases c52 : t464 = true
            ·subst c52
             replace H := iT H
             obtain ⟨t465, A53, H⟩ := bb H
             have H' := am H
             clear H
             go_wp2_with (first | ((with_reducible refine gate_callee (f := 66) rfl ?_); refine gq 76 Tryd.func66 (impl_wordLetter.calls kj40 a8 true _ A49.out) fun nd => ?_) | (go_at_call 89; (with_reducible refine (impl_wordCuts_2.calls a1 true _ A51.out).mono ?_); rintro e w' ⟨rfl, ⟨nd, rfl⟩⟩) | (go_at_call 66; (with_reducible refine (impl_wordLetter.calls kj40 a2 t465 _ A53.out).mono ?_); rintro e w' ⟨rfl, ⟨nd, rfl⟩⟩))
             go_meet
             case rel => exact ⟨_, (t465), sr, H', ⟨kl⟩, ⟨bB⟩⟩
            replace c52 := Bool.eq_false_iff.mpr c52
            subst c52
            replace H := iF H
            have H' := am H
            clear H
            go_wp2_with (first | ((with_reducible refine gate_callee (f := 66) rfl ?_); refine gq 76 Tryd.func66 (impl_wordLetter.calls kj40 a8 true _ A49.out) fun nd => ?_) | (go_at_call 89; (with_reducible refine (impl_wordCuts_2.calls a1 false _ A51.out).mono ?_); rintro e w' ⟨rfl, ⟨nd, rfl⟩⟩))
            go_meet
            case rel => exact ⟨_, (false), sr, H', ⟨kl⟩, ⟨bB⟩⟩
           case rest =>
            clear HC47
            obtain ⟨kq, x63_46, rfl, HA, HJ46, HB⟩ := hcut
            (try clear hq0_ hq1_ hq2_ hq3_ hq4_ hq5_ hq6_ hq7_ hq8_ hq9_)
            obtain ⟨hq0_, hq1_, hq2_, hq3_, hq4_, hq5_, hq6_, hq7_, hq8_, hq9_⟩ := HG.out _ HB.out
            cases kq with
            | zero => exact absurd HA.out (by simp [impl_wordCuts_5.j5])
            | succ kj46 =>
             have H := HA.out
             clear HA
             simp only [impl_wordCuts_5.j5] at H
             by_cases c54 : x63_46 = true
             ·subst c54
              replace H := iT H
              obtain rfl := Option.some.inj H
              go_wp2
              go_ret
              exact ⟨rv, bB⟩
             replace c54 := Bool.eq_false_iff.mpr c54
             subst c54
             replace H := iF H
             have HC55 := am H
             clear H
             go_upto_region 18 with (fail)
             go_cut [86] (fun v86 wc => ∃ (kq : Nat) (x86_54 : Bool), v86 = .bool x86_54 ∧ Aside0 (impl_wordCuts_5.j6 kq a1 a2 a8 x86_54 = some r) ∧ Aside0 (kq ≤ kj46) ∧ Aside0 (Below w.heap.size w wc))
             case first =>
              have H := HC55.out
              clear HC55
              obtain ⟨t466, A56, H⟩ := bb H
              by_cases c57 : t466 = true
              rotate_left
              ·replace c57 := Bool.eq_false_iff.mpr c57
               subst c57
               replace H := iF H
               have H' := am H
               clear H
               go_wp2_with (first | ((with_reducible refine gate_callee (f := 68) rfl ?_); refine gq 88 Tryd.func68 (impl_isDigit.calls kj46 a1 false _ A56.out) fun nd => ?_))
               go_meet
               case rel => exact ⟨_, (false), sr, H', ⟨kl⟩, ⟨bB⟩⟩
              subst c57
              replace H := iT H
              obtain ⟨t467, A58, H⟩ := bb H
              by_cases c59 : t467 = true
              ·subst c59
               replace H := iT H
               obtain ⟨t468, A60, H⟩ := bb H
               have H' := am H
               clear H
               go_wp2_with (first | ((with_reducible refine gate_callee (f := 68) rfl ?_); refine gq 88 Tryd.func68 (impl_isDigit.calls kj46 a1 true _ A56.out) fun nd => ?_) | (go_at_call 90; (with_reducible refine (impl_wordCuts_3.calls a2 true _ A58.out).mono ?_); rintro e w' ⟨rfl, ⟨nd, rfl⟩⟩) | (go_at_call 68; (with_reducible refine (impl_isDigit.calls kj46 a7 t468 _ A60.out).mono ?_); rintro e w' ⟨rfl, ⟨nd, rfl⟩⟩))
               go_meet
               case rel => exact ⟨_, (t468), sr, H', ⟨kl⟩, ⟨bB⟩⟩
              replace c59 := Bool.eq_false_iff.mpr c59
              subst c59
              replace H := iF H
              have H' := am H
              clear H
              go_wp2_with (first | ((with_reducible refine gate_callee (f := 68) rfl ?_); refine gq 88 Tryd.func68 (impl_isDigit.calls kj46 a1 true _ A56.out) fun nd => ?_) | (go_at_call 90; (with_reducible refine (impl_wordCuts_3.calls a2 false _ A58.out).mono ?_); rintro e w' ⟨rfl, ⟨nd, rfl⟩⟩))
              go_meet
              case rel => exact ⟨_, (false), sr, H', ⟨kl⟩, ⟨bB⟩⟩
             case rest =>
              clear HC55
              try clear c54
              obtain ⟨kq, x86_54, rfl, HA, HJ54, HB⟩ := hcut
              (try clear hq0_ hq1_ hq2_ hq3_ hq4_ hq5_ hq6_ hq7_ hq8_ hq9_)
              obtain ⟨hq0_, hq1_, hq2_, hq3_, hq4_, hq5_, hq6_, hq7_, hq8_, hq9_⟩ := HG.out _ HB.out
              cases kq with
              | zero => exact absurd HA.out (by simp [impl_wordCuts_5.j6])
              | succ kj54 =>
               have H := HA.out
               clear HA
               simp only [impl_wordCuts_5.j6] at H
               have HC61 := am H
               clear H
               go_upto_if 86 with (fail)
               go_cut [86] (fun v86 wc => ∃ (kq : Nat) (x86_60 : Bool), v86 = .bool x86_60 ∧ Aside0 (impl_wordCuts_5.j7 kq a1 a2 x86_60 = some r) ∧ Aside0 (kq ≤ kj54) ∧ Aside0 (Below w.heap.size w wc))
               case first =>
                have H := HC61.out
                clear HC61
                by_cases c62 : x86_54 = true
                ·subst c62
                 replace H := iT H
                 have H' := am H
                 clear H
                 go_wp2
                 go_meet
                 case rel => exact ⟨_, (true), sr, H', ⟨kl⟩, ⟨bB⟩⟩
                replace c62 := Bool.eq_false_iff.mpr c62
                subst c62
                replace H := iF H
                obtain ⟨t469, A63, H⟩ := bb H
                by_cases c64 : t469 = true
                rotate_left
                ·replace c64 := Bool.eq_false_iff.mpr c64
                 subst c64
                 replace H := iF H
                 have H' := am H
                 clear H
                 go_wp2_with (first | ((with_reducible refine gate_callee (f := 68) rfl ?_); refine gq 99 Tryd.func68 (impl_isDigit.calls kj54 a8 false _ A63.out) fun nd => ?_))
                 go_meet
                 case rel => exact ⟨_, (false), sr, H', ⟨kl⟩, ⟨bB⟩⟩
                subst c64
                replace H := iT H
                obtain ⟨t470, A65, H⟩ := bb H
                by_cases c66 : t470 = true
                ·subst c66
                 replace H := iT H
                 obtain ⟨t471, A67, H⟩ := bb H
                 have H' := am H
                 clear H
                 go_wp2_with (first | ((with_reducible refine gate_callee (f := 68) rfl ?_); refine gq 99 Tryd.func68 (impl_isDigit.calls kj54 a8 true _ A63.out) fun nd => ?_) | (go_at_call 90; (with_reducible refine (impl_wordCuts_3.calls a1 true _ A65.out).mono ?_); rintro e w' ⟨rfl, ⟨nd, rfl⟩⟩) | (go_at_call 68; (with_reducible refine (impl_isDigit.calls kj54 a2 t471 _ A67.out).mono ?_); rintro e w' ⟨rfl, ⟨nd, rfl⟩⟩))
                 go_meet
                 case rel => exact ⟨_, (t471), sr, H', ⟨kl⟩, ⟨bB⟩⟩
                replace c66 := Bool.eq_false_iff.mpr c66
                subst c66
                replace H := iF H
                have H' := am H
                clear H
                go_wp2_with (first | ((with_reducible refine gate_callee (f := 68) rfl ?_); refine gq 99 Tryd.func68 (impl_isDigit.calls kj54 a8 true _ A63.out) fun nd => ?_) | (go_at_call 90; (with_reducible refine (impl_wordCuts_3.calls a1 false _ A65.out).mono ?_); rintro e w' ⟨rfl, ⟨nd, rfl⟩⟩))
                go_meet
                case rel => exact ⟨_, (false), sr, H', ⟨kl⟩, ⟨bB⟩⟩
               case rest =>
                clear HC61
                obtain ⟨kq, x86_60, rfl, HA, HJ60, HB⟩ := hcut
                (try clear hq0_ hq1_ hq2_ hq3_ hq4_ hq5_ hq6_ hq7_ hq8_ hq9_)
                obtain ⟨hq0_, hq1_, hq2_, hq3_, hq4_, hq5_, hq6_, hq7_, hq8_, hq9_⟩ := HG.out _ HB.out
                cases kq with
                | zero => exact absurd HA.out (by simp [impl_wordCuts_5.j7])
                | succ kj60 =>
                 have H := HA.out
                 clear HA
                 simp only [impl_wordCuts_5.j7] at H
                 by_cases c68 : x86_60 = true
                 ·subst c68
                  replace H := iT H
                  obtain rfl := Option.some.inj H
                  go_wp2
                  go_ret
                  exact ⟨rv, bB⟩
                 replace c68 := Bool.eq_false_iff.mpr c68
                 subst c68
                 replace H := iF H
                 have HC69 := am H
                 clear H
                 go_upto_region 21 with (fail)
                 go_cut [109] (fun v109 wc => ∃ (kq : Nat) (x109_68 : Bool), v109 = .bool x109_68 ∧ Aside0 (impl_wordCuts_5.j8 kq a1 a2 x109_68 = some r) ∧ Aside0 (kq ≤ kj60) ∧ Aside0 (Below w.heap.size w wc))
                 case first =>
                  have H := HC69.out
                  clear HC69
                  obtain ⟨t472, A70, H⟩ := bb H
                  by_cases c71 : t472 = true
                  ·subst c71
                   replace H := iT H
                   have H' := am H
                   clear H
                   go_wp2_with (first | (go_at_call 91; (with_reducible refine (impl_wordCuts_4.calls kj60 a1 true _ A70.out).mono ?_); rintro e w' ⟨rfl, ⟨nd, rfl⟩⟩))
                   go_meet
                   case rel => exact ⟨_, ((a2 == 95)), sr, H', ⟨kl⟩, ⟨bB⟩⟩
                  replace c71 := Bool.eq_false_iff.mpr c71
                  subst c71
                  replace H := iF H
                  by_cases c72 : a1 = 95
                  rotate_left
                  ·rw [if_neg c72] at H
                   have c72b0 : (a1 == 95) = false := beq_eq_false_iff_ne.mpr c72
                   have c72b1 : (a1 != 95) = true := bne_iff_ne.mpr c72
                   (first | rw [c72b0] | (simp only [i64_w, i32_w]; rw [c72b0]) | skip)
                   have H' := am H
                   clear H
                   go_wp2_with (first | (go_at_call 91; (with_reducible refine (impl_wordCuts_4.calls kj60 a1 false _ A70.out).mono ?_); rintro e w' ⟨rfl, ⟨nd, rfl⟩⟩))
                   go_meet
                   case rel => exact ⟨_, (false), sr, H', ⟨kl⟩, ⟨bB⟩⟩
                  rw [if_pos c72] at H
                  have c72b0 : (a1 == 95) = true := beq_iff_eq.mpr c72
                  have c72b1 : (a1 != 95) = false := bne_eq_false_iff_eq.mpr c72
                  clear c72
                  (first | rw [c72b0] | (simp only [i64_w, i32_w]; rw [c72b0]) | skip)
                  have H' := am H
                  clear H
                  go_wp2_with (first | (go_at_call 91; (with_reducible refine (impl_wordCuts_4.calls kj60 a1 false _ A70.out).mono ?_); rintro e w' ⟨rfl, ⟨nd, rfl⟩⟩))
                  go_meet
                  case rel => exact ⟨_, ((a2 == 95)), sr, H', ⟨kl⟩, ⟨bB⟩⟩
                 case rest =>
                  clear HC69
                  try clear c68
                  obtain ⟨kq, x109_68, rfl, HA, HJ68, HB⟩ := hcut
                  (try clear hq0_ hq1_ hq2_ hq3_ hq4_ hq5_ hq6_ hq7_ hq8_ hq9_)
                  obtain ⟨hq0_, hq1_, hq2_, hq3_, hq4_, hq5_, hq6_, hq7_, hq8_, hq9_⟩ := HG.out _ HB.out
                  cases kq with
                  | zero => exact absurd HA.out (by simp [impl_wordCuts_5.j8])
                  | succ kj68 =>
                   have H := HA.out
                   clear HA
                   simp only [impl_wordCuts_5.j8] at H
                   have HC73 := am H
                   clear H
                   go_upto_if 109 with (fail)
                   go_cut [109] (fun v109 wc => ∃ (kq : Nat) (x109_72 : Bool), v109 = .bool x109_72 ∧ Aside0 (impl_wordCuts_5.j9 kq a1 a2 x109_72 = some r) ∧ Aside0 (kq ≤ kj68) ∧ Aside0 (Below w.heap.size w wc))
                   case first =>
                    have H := HC73.out
                    clear HC73
                    by_cases c74 : x109_68 = true
                    ·subst c74
                     replace H := iT H
                     have H' := am H
                     clear H
                     go_wp2
                     go_meet
                     case rel => exact ⟨_, (true), sr, H', ⟨kl⟩, ⟨bB⟩⟩
                    replace c74 := Bool.eq_false_iff.mpr c74
                    subst c74
                    replace H := iF H
                    by_cases c75 : a1 = 95
                    rotate_left
                    ·rw [if_neg c75] at H
                     have c75b0 : (a1 == 95) = false := beq_eq_false_iff_ne.mpr c75
                     have c75b1 : (a1 != 95) = true := bne_iff_ne.mpr c75
                     (first | rw [c75b0] | (simp only [i64_w, i32_w]; rw [c75b0]) | skip)
                     have H' := am H
                     clear H
                     go_wp2
                     go_meet
                     case rel => exact ⟨_, (false), sr, H', ⟨kl⟩, ⟨bB⟩⟩
                    rw [if_pos c75] at H
                    have c75b0 : (a1 == 95) = true := beq_iff_eq.mpr c75
                    have c75b1 : (a1 != 95) = false := bne_eq_false_iff_eq.mpr c75
                    clear c75
                    (first | rw [c75b0] | (simp only [i64_w, i32_w]; rw [c75b0]) | skip)
                    obtain ⟨t473, A76, H⟩ := bb H
                    by_cases c77 : t473 = true
                    ·subst c77
                     replace H := iT H
                     have H' := am H
                     clear H
                     go_wp2_with (first | (go_at_call 91; (with_reducible refine (impl_wordCuts_4.calls kj68 a2 true _ A76.out).mono ?_); rintro e w' ⟨rfl, ⟨nd, rfl⟩⟩))
                     go_meet
                     case rel => exact ⟨_, (true), sr, H', ⟨kl⟩, ⟨bB⟩⟩
                    replace c77 := Bool.eq_false_iff.mpr c77
                    subst c77
                    replace H := iF H
                    have H' := am H
                    clear H
                    go_wp2_with (first | (go_at_call 91; (with_reducible refine (impl_wordCuts_4.calls kj68 a2 false _ A76.out).mono ?_); rintro e w' ⟨rfl, ⟨nd, rfl⟩⟩))
                    go_meet
                    case rel => exact ⟨_, ((a2 == 95)), sr, H', ⟨kl⟩, ⟨bB⟩⟩
                   case rest =>
                    clear HC73
                    obtain ⟨kq, x109_72, rfl, HA, HJ72, HB⟩ := hcut
                    (try clear hq0_ hq1_ hq2_ hq3_ hq4_ hq5_ hq6_ hq7_ hq8_ hq9_)
                    obtain ⟨hq0_, hq1_, hq2_, hq3_, hq4_, hq5_, hq6_, hq7_, hq8_, hq9_⟩ := HG.out _ HB.out
                    cases kq with
                    | zero => exact absurd HA.out (by simp [impl_wordCuts_5.j9])
                    | succ kj72 =>
                     have H := HA.out
                     clear HA
                     simp only [impl_wordCuts_5.j9] at H
                     by_cases c78 : x109_72 = true
                     ·subst c78
                      replace H := iT H
                      obtain rfl := Option.some.inj H
                      go_wp2
                      go_ret
                      exact ⟨rv, bB⟩
                     replace c78 := Bool.eq_false_iff.mpr c78
                     subst c78
                     replace H := iF H
                     obtain ⟨t474, A79, H⟩ := bb H
                     by_cases c80 : t474 = true
                     rotate_left
                     ·replace c80 := Bool.eq_false_iff.mpr c80
                      subst c80
                      replace H := iF H
                      obtain rfl := Option.some.inj H
                      go_wp2_with (first | ((with_reducible refine gate_callee (f := 67) rfl ?_); refine gq 134 Tryd.func67 (impl_wordPart.calls kj72 a1 false _ A79.out) fun nd => ?_))
                      go_ret
                      exact ⟨rv, bB⟩
                     subst c80
                     replace H := iT H
                     obtain ⟨t475, A81, H⟩ := bb H
                     by_cases c82 : t475 = true
                     ·subst c82
                      replace H := iT H
                      obtain rfl := Option.some.inj H
                      go_wp2_with (first | ((with_reducible refine gate_callee (f := 67) rfl ?_); refine gq 134 Tryd.func67 (impl_wordPart.calls kj72 a1 true _ A79.out) fun nd => ?_) | (go_at_call 67; (with_reducible refine (impl_wordPart.calls kj72 a2 true _ A81.out).mono ?_); rintro e w' ⟨rfl, ⟨nd, rfl⟩⟩))
                      go_ret
                      exact ⟨rv, bB⟩
                     replace c82 := Bool.eq_false_iff.mpr c82
                     subst c82
                     replace H := iF H
                     obtain rfl := Option.some.inj H
                     go_wp2_with (first | ((with_reducible refine gate_callee (f := 67) rfl ?_); refine gq 134 Tryd.func67 (impl_wordPart.calls kj72 a1 true _ A79.out) fun nd => ?_) | (go_at_call 67; (with_reducible refine (impl_wordPart.calls kj72 a2 false _ A81.out).mono ?_); rintro e w' ⟨rfl, ⟨nd, rfl⟩⟩))
                     go_ret
                     exact ⟨rv, bB⟩
end Go.Proofs.YtmlhnpggjkoinaaDoor.PFnExactWords

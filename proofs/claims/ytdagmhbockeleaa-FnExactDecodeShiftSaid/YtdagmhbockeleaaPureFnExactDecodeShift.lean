/- The program's DecodeShift returns what the reference's returns. For every input: the law answers true; each argument reads afterwards as it read before. -/
import Derived.Test.YtdagmhbockeleaaPFnExactDecodeShiftx
import Derived.Test.YtdagmhbockeleaaLib
import Derived.Test.YtdagmhbockeleaaWriteDecodeShift
import Derived.Test.YtdagmhbockeleaaBytes
set_option linter.unusedSimpArgs false
set_option linter.unusedVariables false
namespace Go.Proofs.Ytdagmhbockeleaa.Pure
open Go.RowKit Go.Proofs.Ytdagmhbockeleaa.PFnExactDecodeShift Go.Proofs.YtdagmhbockeleaaW.PrintWords Go.Proofs.YtdagmhbockeleaaW.PrintLast Go.Proofs.YtdagmhbockeleaaW.PrintMore Go.Proofs.Ytdagmhbockeleaa.Lib

/-- The state a letter names; below naught where it names none. -/
def let5 (c : Int) : Int := if c = 65 then 0 else if c = 66 then 1 else if c = 67 then 2 else if c = 68 then 3 else if c = 87 then 4 else -1
theorem let5_range (c : Int) : -1 ≤ let5 c ∧ let5 c ≤ 4 := by unfold let5; split; omega; split; omega; split; omega; split; omega; split <;> omega
def tblP : ByteArray := ⟨#[65, 66, 67, 68, 87]⟩
theorem t0 : bt (⟨#[65, 66, 67, 68, 87]⟩ : ByteArray) 0 = 65 := by rfl
theorem t1 : bt (⟨#[65, 66, 67, 68, 87]⟩ : ByteArray) 1 = 66 := by rfl
theorem t2 : bt (⟨#[65, 66, 67, 68, 87]⟩ : ByteArray) 2 = 67 := by rfl
theorem t3 : bt (⟨#[65, 66, 67, 68, 87]⟩ : ByteArray) 3 = 68 := by rfl
theorem t4 : bt (⟨#[65, 66, 67, 68, 87]⟩ : ByteArray) 4 = 87 := by rfl
theorem letters : spec_l03Letter.f 0 = some 65 ∧ spec_l03Letter.f 1 = some 66 ∧ spec_l03Letter.f 2 = some 67 ∧ spec_l03Letter.f 3 = some 68 ∧ spec_l03Letter.f 4 = some 87 := by
  refine ⟨?_, ?_, ?_, ?_, ?_⟩ <;> rfl
theorem ws : wrap64 (0 + 1) = 1 ∧ wrap64 (1 + 1) = 2 ∧ wrap64 (2 + 1) = 3 ∧ wrap64 (3 + 1) = 4 ∧ wrap64 (4 + 1) = 5 := ⟨w64 (by omega) (by omega), w64 (by omega) (by omega), w64 (by omega) (by omega), w64 (by omega) (by omega), w64 (by omega) (by omega)⟩
theorem pstep (s : ByteArray) (i j q v : Int) (hj : wrap64 (i + 1) = j) (h0 : 0 ≤ j) (h1 : j < (s.size : Int)) (hq : q ≤ 4) (hv : spec_l03Letter.f q = some v) (K : Nat) :
    spec_l03Piece.l0 (K + 2) s i q = if bt s j = v then some (-1, q, 2) else spec_l03Piece.l0 K s i (wrap64 (q + 1)) := by
  rw [spec_l03Piece.l0, if_pos hq, hj, spec_l03Piece.j1, decide_eq_true h1, if_pos rfl, hj, if_pos h0, if_pos h1, hv, Option.bind_some]
theorem piece_esc (s : ByteArray) (i j : Int) (hj : wrap64 (i + 1) = j) (h0 : 0 ≤ j) (h1 : j < (s.size : Int)) (K : Nat) :
    spec_l03Piece.l0 (K + 12) s i 0 = some (if let5 (bt s j) < 0 then (0, 0, 0) else (-1, let5 (bt s j), 2)) := by
  obtain ⟨l0, l1, l2, l3, l4⟩ := letters
  obtain ⟨w0, w1, w2, w3, w4⟩ := ws
  rw [pstep s i j 0 65 hj h0 h1 (by decide) l0 (K + 10), w0]
  rw [pstep s i j 1 66 hj h0 h1 (by decide) l1 (K + 8), w1]
  rw [pstep s i j 2 67 hj h0 h1 (by decide) l2 (K + 6), w2]
  rw [pstep s i j 3 68 hj h0 h1 (by decide) l3 (K + 4), w3]
  rw [pstep s i j 4 87 hj h0 h1 (by decide) l4 (K + 2), w4]
  rw [spec_l03Piece.l0, if_neg (show ¬ (5 : Int) ≤ 4 by decide), spec_l03Piece.j1, if_neg (show ¬ (false = true) by decide)]
  unfold let5
  by_cases c0 : bt s j = 65
  · rw [if_pos c0, if_pos c0]; rfl
  · rw [if_neg c0, if_neg c0]
    by_cases c1 : bt s j = 66
    · rw [if_pos c1, if_pos c1]; rfl
    · rw [if_neg c1, if_neg c1]
      by_cases c2 : bt s j = 67
      · rw [if_pos c2, if_pos c2]; rfl
      · rw [if_neg c2, if_neg c2]
        by_cases c3 : bt s j = 68
        · rw [if_pos c3, if_pos c3]; rfl
        · rw [if_neg c3, if_neg c3]
          by_cases c4 : bt s j = 87
          · rw [if_pos c4, if_pos c4]; rfl
          · rw [if_neg c4, if_neg c4]; rfl
theorem istep (s : ByteArray) (x : List Int) (i j z q v : Int) (hj : wrap64 (i + 1) = j) (h0 : 0 ≤ j) (h1 : j < (s.size : Int)) (hq0 : 0 ≤ q) (hq : q < 5) (hv : bt (⟨#[65, 66, 67, 68, 87]⟩ : ByteArray) q = v) (K : Nat) :
    impl_DecodeShift.l1 (K + 1) s x i z q = impl_DecodeShift.l1 K s x i (if bt s j = v then q else z) (wrap64 (q + 1)) := by
  rw [impl_DecodeShift.l1, if_pos hq, hj, if_pos h1, if_pos h0, if_pos hq0, hv]
  by_cases c : bt s j = v
  · rw [if_pos c, if_pos c]
  · rw [if_neg c, if_neg c]
theorem nstep (s : ByteArray) (x : List Int) (i j z q : Int) (hj : wrap64 (i + 1) = j) (h1 : ¬ j < (s.size : Int)) (hq : q < 5) (K : Nat) :
    impl_DecodeShift.l1 (K + 1) s x i z q = impl_DecodeShift.l1 K s x i z (wrap64 (q + 1)) := by
  rw [impl_DecodeShift.l1, if_pos hq, hj, if_neg h1]
theorem impl_esc (s : ByteArray) (x : List Int) (i j : Int) (hj : wrap64 (i + 1) = j) (h0 : 0 ≤ j) (h1 : j < (s.size : Int)) (K : Nat) :
    impl_DecodeShift.l1 (K + 6) s x i (-1) 0 = if let5 (bt s j) < 0 then some (3, i, (⟨#[]⟩ : ByteArray)) else impl_DecodeShift.l0 K s x (let5 (bt s j)) (wrap64 (i + 2)) := by
  obtain ⟨w0, w1, w2, w3, w4⟩ := ws
  rw [istep s x i j _ 0 65 hj h0 h1 (by decide) (by decide) t0 (K + 5), w0]
  rw [istep s x i j _ 1 66 hj h0 h1 (by decide) (by decide) t1 (K + 4), w1]
  rw [istep s x i j _ 2 67 hj h0 h1 (by decide) (by decide) t2 (K + 3), w2]
  rw [istep s x i j _ 3 68 hj h0 h1 (by decide) (by decide) t3 (K + 2), w3]
  rw [istep s x i j _ 4 87 hj h0 h1 (by decide) (by decide) t4 (K + 1), w4]
  rw [impl_DecodeShift.l1, if_neg (by decide)]
  have e : (if bt s j = 87 then (4 : Int) else (if bt s j = 68 then 3 else (if bt s j = 67 then 2 else (if bt s j = 66 then 1 else (if bt s j = 65 then 0 else -1))))) = let5 (bt s j) := by
    unfold let5
    generalize bt s j = v
    by_cases c0 : v = 65
    · subst c0; decide
    · by_cases c1 : v = 66
      · subst c1; decide
      · by_cases c2 : v = 67
        · subst c2; decide
        · by_cases c3 : v = 68
          · subst c3; decide
          · by_cases c4 : v = 87
            · subst c4; decide
            · simp [c0, c1, c2, c3, c4]
  rw [e]
theorem impl_noesc (s : ByteArray) (x : List Int) (i j : Int) (hj : wrap64 (i + 1) = j) (h1 : ¬ j < (s.size : Int)) (K : Nat) :
    impl_DecodeShift.l1 (K + 6) s x i (-1) 0 = some (3, i, (⟨#[]⟩ : ByteArray)) := by
  obtain ⟨w0, w1, w2, w3, w4⟩ := ws
  rw [nstep s x i j _ 0 hj h1 (by decide) (K + 5), w0]
  rw [nstep s x i j _ 1 hj h1 (by decide) (K + 4), w1]
  rw [nstep s x i j _ 2 hj h1 (by decide) (K + 3), w2]
  rw [nstep s x i j _ 3 hj h1 (by decide) (K + 2), w3]
  rw [nstep s x i j _ 4 hj h1 (by decide) (K + 1), w4]
  rw [impl_DecodeShift.l1, if_neg (by decide), if_pos (by decide)]
theorem in_eq (a b c : Int) : impl_in.f a b c = some (decide (b ≤ a) && decide (a ≤ c)) := by
  unfold impl_in.f
  by_cases h : a ≥ b
  · rw [if_pos h, decide_eq_true h, Bool.true_and]
  · rw [if_neg h, decide_eq_false h, Bool.false_and]
abbrev noB : ByteArray := ⟨#[]⟩
/-- One piece: both end alike, or both go on alike. -/
def Goes (s : ByteArray) (x : List Int) (st : Int) (i : Nat) : Prop :=
  (∃ r, ∀ K, spec_DecodeShift.l0 (K + 20) s x st (i : Int) = some r ∧ impl_DecodeShift.l0 (K + 20) s x st (i : Int) = some r) ∨
  (∃ x' st' i' a, i < i' ∧ i' ≤ s.size ∧ x'.length ≤ x.length + 1 ∧ 0 ≤ st' ∧ st' ≤ 4 ∧ a ≤ 19 ∧ ∀ K, spec_DecodeShift.l0 (K + 20) s x st (i : Int) = spec_DecodeShift.l0 (K + 19) s x' st' ((i' : Nat) : Int) ∧ impl_DecodeShift.l0 (K + 20) s x st (i : Int) = impl_DecodeShift.l0 (K + a) s x' st' ((i' : Nat) : Int))
theorem w_b (s : ByteArray) (i : Int) : wrap64 (bt s i) = bt s i := by have := bt_range s i; exact w64 (by omega) (by omega)
/-- What the reference does with a piece. -/
theorem spec_go (s : ByteArray) (x : List Int) (st : Int) (i : Nat) (hi : i < s.size) (hx : x.length < 65536) (p n m : Int) (K : Nat)
    (hp : spec_l03Piece.f (K + 19) s (i : Int) st = some (p, n, m)) :
    spec_DecodeShift.l0 (K + 20) s x st (i : Int) = if m = 0 then some (3, (i : Int), noB) else if p ≥ 0 then spec_DecodeShift.l0 (K + 19) s (x ++ [p]) n (wrap64 ((i : Int) + m)) else spec_DecodeShift.l0 (K + 19) s x n (wrap64 ((i : Int) + m)) := by
  rw [show K + 20 = (K + 19) + 1 from rfl, spec_DecodeShift.l0, if_pos (by omega), hp, Option.bind_some]
  by_cases c : m = 0
  · rw [if_pos c, if_pos c]
  · rw [if_neg c, if_neg c]
    by_cases d : p ≥ 0
    · rw [if_pos d, if_pos d, if_pos (by omega)]
    · rw [if_neg d, if_neg d]
theorem one (s : ByteArray) (hs : s.size ≤ 65536) (x : List Int) (st : Int) (i : Nat) (hi : i < s.size) (hx : x.length < 65536) (h0 : 0 ≤ st) (h4 : st ≤ 4) : Goes s x st i := by
  have hb := bt_range s (i : Int)
  have wj : wrap64 ((i : Int) + 1) = ((i + 1 : Nat) : Int) := by rw [w64 (by omega) (by omega)]; omega
  have wj2 : wrap64 ((i : Int) + 2) = ((i + 2 : Nat) : Int) := by rw [w64 (by omega) (by omega)]; omega
  have wj3 : wrap64 (((i + 1 : Nat) : Int) + 1) = ((i + 2 : Nat) : Int) := by rw [w64 (by omega) (by omega)]; omega
  have ie : ∀ K, impl_DecodeShift.l0 (K + 20) s x st (i : Int) = (if bt s (i : Int) = 27 then (impl_DecodeShift.l1 (K + 19) s x (i : Int) (-1) 0) else (if bt s (i : Int) < 32 then (if bt s (i : Int) = 10 then (impl_DecodeShift.l0 (K + 19) s (x ++ [bt s (i : Int)]) 0 ((i + 1 : Nat) : Int)) else (impl_DecodeShift.l0 (K + 19) s (x ++ [bt s (i : Int)]) st ((i + 1 : Nat) : Int))) else (if st = 0 then (impl_DecodeShift.j2 (K + 19) s x st (i : Int) (bt s (i : Int)) (decide (bt s (i : Int) < 127))) else (impl_DecodeShift.j2 (K + 19) s x st (i : Int) (bt s (i : Int)) false)))) := by
    intro K
    rw [show K + 20 = (K + 19) + 1 from rfl, impl_DecodeShift.l0, if_pos (by omega), if_pos (by omega), w_b, wj, if_pos (show x.length < 17592186044416 by omega), Option.bind_some]
  have pe : ∀ K, spec_l03Piece.f (K + 19) s (i : Int) st = (if bt s (i : Int) = 27 then (spec_l03Piece.l0 (K + 19) s (i : Int) 0) else (if bt s (i : Int) = 10 then (some (bt s (i : Int), 0, 1)) else (if bt s (i : Int) < 32 then (some (bt s (i : Int), st, 1)) else (if st = 0 then (spec_l03Piece.j2 (K + 19) s (i : Int) st (bt s (i : Int)) (decide (bt s (i : Int) ≤ 126))) else (spec_l03Piece.j2 (K + 19) s (i : Int) st (bt s (i : Int)) false))))) := by
    intro K
    unfold spec_l03Piece.f
    rw [if_pos (by omega), if_pos (by omega), w_b]
  generalize hB : bt s (i : Int) = b at hb ie pe
  by_cases c27 : b = 27
  · by_cases c1 : i + 1 < s.size
    · by_cases c5 : let5 (bt s ((i + 1 : Nat) : Int)) < 0
      · refine .inl ⟨(3, (i : Int), noB), fun K => ⟨?_, ?_⟩⟩
        · rw [spec_go s x st i hi hx 0 0 0 K (by rw [pe, if_pos c27, piece_esc s _ _ wj (by omega) (by omega) (K + 7), if_pos c5]), if_pos rfl]
        · rw [ie, if_pos c27, impl_esc s x _ _ wj (by omega) (by omega) (K + 13), if_pos c5]
      · have hr := let5_range (bt s ((i + 1 : Nat) : Int))
        refine .inr ⟨x, let5 (bt s ((i + 1 : Nat) : Int)), i + 2, 13, by omega, by omega, by omega, by omega, by omega, by omega, fun K => ⟨?_, ?_⟩⟩
        · rw [spec_go s x st i hi hx (-1) (let5 (bt s ((i + 1 : Nat) : Int))) 2 K (by rw [pe, if_pos c27, piece_esc s _ _ wj (by omega) (by omega) (K + 7), if_neg c5]), if_neg (by decide), if_neg (by decide), wj2]
        · rw [ie, if_pos c27, impl_esc s x _ _ wj (by omega) (by omega) (K + 13), if_neg c5, wj2]
    · refine .inl ⟨(3, (i : Int), noB), fun K => ⟨?_, ?_⟩⟩
      · rw [spec_go s x st i hi hx 0 0 0 K (by rw [pe, if_pos c27, show K + 19 = (K + 17) + 1 + 1 from rfl, spec_l03Piece.l0, if_pos (by decide), wj, spec_l03Piece.j1, if_neg (by simp; omega)]), if_pos rfl]
      · rw [ie, if_pos c27, impl_noesc s x _ _ wj (by omega) (K + 13)]
  · by_cases c10 : b = 10
    · refine .inr ⟨x ++ [b], 0, i + 1, 19, by omega, by omega, by simp, by omega, by omega, by omega, fun K => ⟨?_, ?_⟩⟩
      · rw [spec_go s x st i hi hx b 0 1 K (by rw [pe, if_neg c27, if_pos c10]), if_neg (by decide), if_pos (by omega), wj]
      · rw [ie, if_neg c27, if_pos (by omega), if_pos c10]
    · by_cases c32 : b < 32
      · refine .inr ⟨x ++ [b], st, i + 1, 19, by omega, by omega, by simp, by omega, by omega, by omega, fun K => ⟨?_, ?_⟩⟩
        · rw [spec_go s x st i hi hx b st 1 K (by rw [pe, if_neg c27, if_neg c10, if_pos c32]), if_neg (by decide), if_pos (by omega), wj]
        · rw [ie, if_neg c27, if_pos c32, if_neg c10]
      · by_cases a0 : st = 0 ∧ b ≤ 126
        · refine .inr ⟨x ++ [b], 0, i + 1, 18, by omega, by omega, by simp, by omega, by omega, by omega, fun K => ⟨?_, ?_⟩⟩
          · rw [spec_go s x st i hi hx b 0 1 K (by rw [pe, if_neg c27, if_neg c10, if_neg c32, if_pos a0.1, decide_eq_true a0.2, show K + 19 = (K + 18) + 1 from rfl, spec_l03Piece.j2, if_pos rfl]), if_neg (by decide), if_pos (by omega), wj]
          · rw [ie, if_neg c27, if_neg c32, if_pos a0.1, show K + 19 = (K + 18) + 1 from rfl, decide_eq_true (show b < 127 by omega), impl_DecodeShift.j2, if_pos rfl, if_pos (by omega), wj, a0.1]
        · have pf : ∀ K, spec_l03Piece.f (K + 19) s (i : Int) st = spec_l03Piece.j2 (K + 19) s (i : Int) st b false := by
            intro K
            rw [pe, if_neg c27, if_neg c10, if_neg c32]
            by_cases z : st = 0
            · rw [if_pos z, decide_eq_false (fun h => a0 ⟨z, h⟩)]
            · rw [if_neg z]
          have jf : ∀ K, impl_DecodeShift.l0 (K + 20) s x st (i : Int) = impl_DecodeShift.j2 (K + 19) s x st (i : Int) b false := by
            intro K
            rw [ie, if_neg c27, if_neg c32]
            by_cases z : st = 0
            · rw [if_pos z, decide_eq_false (fun h => a0 ⟨z, by omega⟩)]
            · rw [if_neg z]
          clear pe ie
          by_cases a1 : (1 ≤ st ∧ st ≤ 3) ∧ b ≤ 127
          · have e1 : wrap64 ((wrap64 ((wrap64 (256 + (wrap64 (256 * st)))) + b)) - 32) = 224 + 256 * st + b := by
              rw [w64 (x := 256 * st) (by omega) (by omega), w64 (x := 256 + 256 * st) (by omega) (by omega), w64 (x := 256 + 256 * st + b) (by omega) (by omega), w64 (by omega) (by omega)]; omega
            have e2 : wrap64 ((wrap64 ((wrap64 (256 * (wrap64 (st + 1)))) + b)) - 32) = 224 + 256 * st + b := by
              rw [w64 (x := st + 1) (by omega) (by omega), w64 (x := 256 * (st + 1)) (by omega) (by omega), w64 (x := 256 * (st + 1) + b) (by omega) (by omega), w64 (by omega) (by omega)]; omega
            refine .inr ⟨x ++ [224 + 256 * st + b], st, i + 1, 17, by omega, by omega, by simp, by omega, by omega, by omega, fun K => ⟨?_, ?_⟩⟩
            · rw [spec_go s x st i hi hx (224 + 256 * st + b) st 1 K (by rw [pf, show K + 19 = (K + 17) + 1 + 1 from rfl, spec_l03Piece.j2, if_neg (by decide), if_pos (by omega), if_pos (by omega), spec_l03Piece.j3, if_pos (decide_eq_true a1.2), e1]), if_neg (by decide), if_pos (by omega), wj]
            · rw [jf, show K + 19 = (K + 17) + 1 + 1 from rfl, impl_DecodeShift.j2, if_neg (by decide), in_eq, Option.bind_some, decide_eq_true a1.1.1, decide_eq_true a1.1.2, if_pos (show (true && true) = true from rfl), impl_DecodeShift.j3, if_pos (decide_eq_true (by omega)), if_pos (by omega), e2, wj]
          · have pg : ∀ K, spec_l03Piece.f (K + 19) s (i : Int) st = spec_l03Piece.j3 (K + 18) s (i : Int) st b false := by
              intro K
              rw [pf, show K + 19 = (K + 18) + 1 from rfl, spec_l03Piece.j2, if_neg (by decide)]
              by_cases z : st ≥ 1
              · rw [if_pos z]
                by_cases z2 : st ≤ 3
                · rw [if_pos z2, decide_eq_false (fun h => a1 ⟨⟨z, z2⟩, h⟩)]
                · rw [if_neg z2]
              · rw [if_neg z]
            have jg : ∀ K, impl_DecodeShift.l0 (K + 20) s x st (i : Int) = impl_DecodeShift.j3 (K + 18) s x st (i : Int) b false := by
              intro K
              rw [jf, show K + 19 = (K + 18) + 1 from rfl, impl_DecodeShift.j2, if_neg (by decide), in_eq, Option.bind_some]
              by_cases z : 1 ≤ st ∧ st ≤ 3
              · rw [decide_eq_true z.1, decide_eq_true z.2, if_pos (show (true && true) = true from rfl), decide_eq_false (fun h => a1 ⟨z, by omega⟩)]
              · rw [if_neg]
                intro h
                rw [Bool.and_eq_true] at h
                exact z ⟨of_decide_eq_true h.1, of_decide_eq_true h.2⟩
            clear pf jf
            have fin : (∀ K, spec_l03Piece.f (K + 19) s (i : Int) st = some (0, 0, 0)) → (∀ K, impl_DecodeShift.l0 (K + 20) s x st (i : Int) = some (3, (i : Int), noB)) → Goes s x st i := fun A B => .inl ⟨(3, (i : Int), noB), fun K => ⟨by rw [spec_go s x st i hi hx 0 0 0 K (A K), if_pos rfl], B K⟩⟩
            have bad : ∀ K, impl_DecodeShift.j4 (K + 17) s x st (i : Int) b false = some (3, (i : Int), noB) := by
              intro K
              rw [show K + 17 = (K + 16) + 1 from rfl, impl_DecodeShift.j4, if_neg (by decide)]
            have badP : ∀ K, spec_l03Piece.j4 (K + 17) s (i : Int) b false = some (0, 0, 0) := by
              intro K
              rw [show K + 17 = (K + 16) + 1 from rfl, spec_l03Piece.j4, if_neg (by decide)]
            by_cases d4 : st = 4
            · have ph : ∀ K, spec_l03Piece.f (K + 19) s (i : Int) st = spec_l03Piece.j4 (K + 17) s (i : Int) b (decide (((i + 1 : Nat) : Int) < (s.size : Int))) := by
                intro K
                rw [pg, show K + 18 = (K + 17) + 1 from rfl, spec_l03Piece.j3, if_neg (by decide), if_pos d4, wj]
              have jh : ∀ K, impl_DecodeShift.l0 (K + 20) s x st (i : Int) = (if 33 ≤ b ∧ b ≤ 126 ∧ i + 1 < s.size then impl_DecodeShift.j4 (K + 17) s x st (i : Int) b (decide (33 ≤ bt s ((i + 1 : Nat) : Int)) && decide (bt s ((i + 1 : Nat) : Int) ≤ 126)) else impl_DecodeShift.j4 (K + 17) s x st (i : Int) b false) := by
                intro K
                rw [jg, show K + 18 = (K + 17) + 1 from rfl, impl_DecodeShift.j3, if_neg (by decide), if_pos d4, in_eq, Option.bind_some, wj, in_eq, Option.bind_some, w_b]
                by_cases z : 33 ≤ b ∧ b ≤ 126
                · rw [decide_eq_true z.1, decide_eq_true z.2, if_pos (show (true && true) = true from rfl)]
                  by_cases y : i + 1 < s.size
                  · rw [if_pos (by omega), if_pos (by omega), if_pos ⟨z.1, z.2, y⟩]
                  · rw [if_neg (by omega), if_neg (by omega)]
                · rw [if_neg, if_neg (fun h => z ⟨h.1, h.2.1⟩)]
                  intro h
                  rw [Bool.and_eq_true] at h
                  exact z ⟨of_decide_eq_true h.1, of_decide_eq_true h.2⟩
              clear pg jg
              by_cases y : i + 1 < s.size
              · have hr := bt_range s ((i + 1 : Nat) : Int)
                have wB := w_b s ((i + 1 : Nat) : Int)
                generalize hv : bt s ((i + 1 : Nat) : Int) = v at hr wB
                have wx : wrap64 (b - 33) = b - 33 := w64 (by omega) (by omega)
                have wv : wrap64 (v - 33) = v - 33 := w64 (by omega) (by omega)
                have w1 : wrap64 (94 * (b - 33)) = 94 * (b - 33) := w64 (by omega) (by omega)
                have w2 : wrap64 (94 * (b - 33) + (v - 33)) = 94 * (b - 33) + (v - 33) := w64 (by omega) (by omega)
                have w3 : wrap64 (24576 + 94 * (b - 33)) = 24576 + 94 * (b - 33) := w64 (by omega) (by omega)
                have w4 : wrap64 (24576 + 94 * (b - 33) + (v - 33)) = 24576 + 94 * (b - 33) + (v - 33) := w64 (by omega) (by omega)
                have w5 : wrap64 (24576 + 94 * (b - 33) + v) = 24576 + 94 * (b - 33) + v := w64 (by omega) (by omega)
                have w6 : wrap64 (24576 + 94 * (b - 33) + v - 33) = 24576 + 94 * (b - 33) + (v - 33) := by rw [w64 (by omega) (by omega)]; omega
                have pk : ∀ K, spec_l03Piece.f (K + 19) s (i : Int) st = (if b - 33 ≥ 0 then (if b - 33 < 94 then (if v - 33 ≥ 0 then (if v - 33 < 94 then (if 94 * (b - 33) + (v - 33) < 2048 then some (24576 + 94 * (b - 33) + (v - 33), 4, 2) else some (0, 0, 0)) else some (0, 0, 0)) else some (0, 0, 0)) else some (0, 0, 0)) else some (0, 0, 0)) := by
                  intro K
                  rw [ph, show K + 17 = (K + 16) + 1 from rfl, spec_l03Piece.j4, if_pos (decide_eq_true (by omega)), wj, if_pos (by omega), if_pos (by omega), hv, wB, wx, wv, w1, w2, w3, w4]
                have jk : ∀ K, impl_DecodeShift.j4 (K + 17) s x st (i : Int) b true = (if 24576 + 94 * (b - 33) + (v - 33) > 26623 then some (3, (i : Int), noB) else impl_DecodeShift.l0 (K + 16) s (x ++ [24576 + 94 * (b - 33) + (v - 33)]) st ((i + 2 : Nat) : Int)) := by
                  intro K
                  rw [show K + 17 = (K + 16) + 1 from rfl, impl_DecodeShift.j4, if_pos rfl, wj, if_pos (by omega), if_pos (by omega), hv, wB, wx, w1, w3, w5, w6, wj3, if_pos (show x.length < 17592186044416 by omega)]
                by_cases g1 : (33 ≤ b ∧ b ≤ 126) ∧ (33 ≤ v ∧ v ≤ 126)
                · have jm : ∀ K, impl_DecodeShift.l0 (K + 20) s x st (i : Int) = impl_DecodeShift.j4 (K + 17) s x st (i : Int) b true := by
                    intro K
                    rw [jh, if_pos ⟨g1.1.1, g1.1.2, y⟩, hv, decide_eq_true g1.2.1, decide_eq_true g1.2.2]; rfl
                  by_cases g2 : 94 * (b - 33) + (v - 33) < 2048
                  · refine .inr ⟨x ++ [24576 + 94 * (b - 33) + (v - 33)], 4, i + 2, 16, by omega, by omega, by simp, by omega, by omega, by omega, fun K => ⟨?_, ?_⟩⟩
                    · rw [spec_go s x st i hi hx (24576 + 94 * (b - 33) + (v - 33)) 4 2 K (by rw [pk, if_pos (by omega), if_pos (by omega), if_pos (by omega), if_pos (by omega), if_pos g2]), if_neg (by decide), if_pos (by omega), wj2]
                    · rw [jm, jk, if_neg (by omega), d4]
                  · refine fin (fun K => ?_) (fun K => ?_)
                    · rw [pk, if_pos (by omega), if_pos (by omega), if_pos (by omega), if_pos (by omega), if_neg g2]
                    · rw [jm, jk, if_pos (by omega)]
                · refine fin (fun K => ?_) (fun K => ?_)
                  · rw [pk]
                    by_cases q1 : b - 33 ≥ 0
                    · rw [if_pos q1]
                      by_cases q2 : b - 33 < 94
                      · rw [if_pos q2]
                        by_cases q3 : v - 33 ≥ 0
                        · rw [if_pos q3]
                          by_cases q4 : v - 33 < 94
                          · exact absurd ⟨⟨by omega, by omega⟩, by omega, by omega⟩ g1
                          · rw [if_neg q4]
                        · rw [if_neg q3]
                      · rw [if_neg q2]
                    · rw [if_neg q1]
                  · rw [jh]
                    by_cases q : 33 ≤ b ∧ b ≤ 126
                    · rw [if_pos ⟨q.1, q.2, y⟩, hv]
                      have z : (decide (33 ≤ v) && decide (v ≤ 126)) = false := by
                        by_cases z1 : 33 ≤ v
                        · rw [decide_eq_true z1, Bool.true_and, decide_eq_false (fun z2 => g1 ⟨q, z1, z2⟩)]
                        · rw [decide_eq_false z1, Bool.false_and]
                      rw [z, bad]
                    · rw [if_neg (fun h => q ⟨h.1, h.2.1⟩), bad]
              · refine fin (fun K => ?_) (fun K => ?_)
                · rw [ph, decide_eq_false (by omega), badP]
                · rw [jh, if_neg (fun h => y h.2.2), bad]
            · refine fin (fun K => ?_) (fun K => ?_)
              · rw [pg, show K + 18 = (K + 17) + 1 from rfl, spec_l03Piece.j3, if_neg (by decide), if_neg d4, badP]
              · rw [jg, show K + 18 = (K + 17) + 1 from rfl, impl_DecodeShift.j3, if_neg (by decide), if_neg d4, bad]
theorem ends (s : ByteArray) (hs : s.size ≤ 65536) : ∀ (d i : Nat) (x : List Int) (st : Int), s.size ≤ i + d → i ≤ s.size → x.length ≤ i → 0 ≤ st → st ≤ 4 → ∃ T r, ∀ K, T ≤ K → spec_DecodeShift.l0 K s x st (i : Int) = some r ∧ impl_DecodeShift.l0 K s x st (i : Int) = some r := by
  intro d
  induction d with
  | zero =>
    intro i x st hd hi hx h0 h4
    by_cases z : st = 0
    · obtain ⟨r, hr⟩ : ∃ r, (if ((strOfNums (encAll x)).size : Int) > 65536 then (some (2, 0, (⟨#[]⟩ : ByteArray)) : Option (Int × Int × ByteArray)) else some (0, 0, strOfNums (encAll x))) = some r := by split <;> exact ⟨_, rfl⟩
      refine ⟨x.length + 3, r, fun K hK => ?_⟩
      obtain ⟨K, rfl⟩ : ∃ m, K = m + 1 := ⟨K - 1, by omega⟩
      constructor
      · rw [spec_DecodeShift.l0, if_neg (by omega), if_pos z, specText_eq x K (by omega) (by omega), Option.bind_some]
        exact hr
      · rw [impl_DecodeShift.l0, if_neg (by omega), if_pos z, write_eq x K (by omega) (by omega), Option.bind_some]
        unfold impl_long.f
        rw [Option.bind_some]
        simp only [decide_eq_true_eq]
        exact hr
    · refine ⟨1, (6, (s.size : Int), noB), fun K hK => ?_⟩
      obtain ⟨K, rfl⟩ : ∃ m, K = m + 1 := ⟨K - 1, by omega⟩
      constructor
      · rw [spec_DecodeShift.l0, if_neg (by omega), if_neg z]
      · rw [impl_DecodeShift.l0, if_neg (by omega), if_neg z]
  | succ d ih =>
    intro i x st hd hi hx h0 h4
    by_cases c : i < s.size
    · rcases one s hs x st i c (by omega) h0 h4 with ⟨r, hr⟩ | ⟨x', st', i', a, a1, a2, a3, a4, a5, a6, hr⟩
      · refine ⟨20, r, fun K hK => ?_⟩
        obtain ⟨m, rfl⟩ : ∃ m, K = m + 20 := ⟨K - 20, by omega⟩
        exact hr m
      · obtain ⟨T, r, hT⟩ := ih i' x' st' (by omega) a2 (by omega) a4 a5
        refine ⟨T + 20, r, fun K hK => ?_⟩
        obtain ⟨m, rfl⟩ : ∃ m, K = m + 20 := ⟨K - 20, by omega⟩
        rw [(hr m).1, (hr m).2]
        exact ⟨(hT _ (by omega)).1, (hT _ (by omega)).2⟩
    · exact ih i x st (by omega) hi hx h0 h4
theorem FnExactDecodeShift : laws_FnExactDecodeShift.Pure := by
  intro s _
  unfold laws_FnExactDecodeShift.f
  by_cases c : (s.size : Int) > 1048576
  · exact ⟨0, by rw [if_pos c]⟩
  · by_cases c2 : (s.size : Int) > 65536
    · refine ⟨0, ?_⟩
      rw [if_neg c]
      unfold spec_DecodeShift.f impl_DecodeShift.f impl_long.f
      rw [if_pos c2, Option.bind_some, Option.bind_some, if_pos (decide_eq_true c2), Option.bind_some]
      simp [laws_eqLegacyOut.f]
    · obtain ⟨T, r, hT⟩ := ends s (by omega) s.size 0 [] 0 (by omega) (by omega) (by simp) (by omega) (by omega)
      refine ⟨T, ?_⟩
      obtain ⟨h1, h2⟩ := hT T (Nat.le_refl _)
      rw [if_neg c]
      unfold spec_DecodeShift.f impl_DecodeShift.f impl_long.f
      rw [if_neg c2, Option.bind_some, if_neg (by simpa using c2)]
      rw [show ((0 : Nat) : Int) = 0 from rfl] at h1 h2
      rw [h1, h2]
      simp [laws_eqLegacyOut.f]

end Go.Proofs.Ytdagmhbockeleaa.Pure

/- The program's DecodeSteps returns what the reference's returns. For every input: the law answers true; each argument reads afterwards as it read before. -/
import Derived.Test.YtdagmhbockeleaaPFnExactDecodeStepsx
import Derived.Test.YtdagmhbockeleaaLib
import Derived.Test.YtdagmhbockeleaaWriteDecodeSteps
import Derived.Test.YtdagmhbockeleaaBytes
set_option linter.unusedSimpArgs false
set_option linter.unusedVariables false
namespace Go.Proofs.Ytdagmhbockeleaa.Pure
open Go.RowKit Go.Proofs.Ytdagmhbockeleaa.PFnExactDecodeSteps Go.Proofs.YtdagmhbockeleaaW.PrintWords Go.Proofs.YtdagmhbockeleaaW.PrintLast Go.Proofs.YtdagmhbockeleaaW.PrintMore Go.Proofs.Ytdagmhbockeleaa.Lib

theorem or_comm' (x y : Int) : Go.bits .or .i64 x y = Go.bits .or .i64 y x := by
  unfold Go.bits
  simp only [BitVec.or_comm]
/-- 128 to the k. -/
def p7 (k : Nat) : Int := 2 ^ (7 * k)
theorem p7_zero : p7 0 = 1 := rfl
theorem p7_succ (k : Nat) : p7 (k + 1) = 128 * p7 k := by
  unfold p7
  rw [show 7 * (k + 1) = 7 * k + 7 from rfl, Int.pow_add, Int.mul_comm]
  rfl
theorem p7_range (k : Nat) (hk : k ≤ 4) : 1 ≤ p7 k ∧ p7 k ≤ 268435456 := by
  have h1 := p7_succ 0
  have h2 := p7_succ 1
  have h3 := p7_succ 2
  have h4 := p7_succ 3
  have h0 := p7_zero
  rcases k with _ | _ | _ | _ | _ | k
  · omega
  · rw [h1, h0]; omega
  · rw [h2, h1, h0]; omega
  · rw [h3, h2, h1, h0]; omega
  · rw [h4, h3, h2, h1, h0]; omega
  · omega
/-- The k-th seven bits, laid above what stands below them. -/
theorem lay7 (n c : Int) (k : Nat) (hk : k ≤ 4) (hn0 : 0 ≤ n) (hn1 : n < p7 k) (hc0 : 0 ≤ c) (hc1 : c < 128) : Go.bits .or .i64 n (shl .i64 c ((7 * k : Nat) : Int)) = n + c * p7 k ∧ 0 ≤ n + c * p7 k ∧ n + c * p7 k < p7 (k + 1) := by
  obtain ⟨hp, hb⟩ := p7_range k hk
  have h0 : 0 ≤ c * p7 k := Int.mul_nonneg hc0 (by omega)
  have h1 : c * p7 k ≤ 127 * p7 k := Int.mul_le_mul_of_nonneg_right (by omega) (by omega)
  have hm : c * p7 k % 2 ^ (7 * k) = 0 := Int.mul_emod_left c _
  have hn : n < p7 k := hn1
  have hs : shl .i64 c ((7 * k : Nat) : Int) = c * p7 k := by
    unfold shl
    rw [Int.toNat_natCast, show min (7 * k) IntKind.i64.bits = 7 * k from Nat.min_eq_left (by show 7 * k ≤ 64; omega), IntKind.wrap_i64, show c * 2 ^ (7 * k) = c * p7 k from rfl]
    generalize c * p7 k = z at *
    clear hn hm
    omega
  have hw : ∀ m : Int, 0 ≤ m → m < 2 ^ 40 → IntKind.i64.wrap m = m := by
    intro m a b
    rw [IntKind.wrap_i64]
    have h40 : (2 : Int) ^ 40 = 1099511627776 := by decide
    rw [h40] at b
    clear hn hm
    omega
  have l1 : c * p7 k < 2 ^ 40 := by
    have h40 : (2 : Int) ^ 40 = 1099511627776 := by decide
    rw [h40]
    generalize c * p7 k = z at *
    clear hn hm hw
    omega
  have l2 : n < 2 ^ 40 := by
    have h40 : (2 : Int) ^ 40 = 1099511627776 := by decide
    rw [h40]
    clear hn hm hw l1
    omega
  rw [hs, or_comm', bits_join .i64 40 (by decide) hw (7 * k) (c * p7 k) n h0 hm l1 hn0 hn l2, p7_succ]
  clear hn hm hw l1 l2 hs
  generalize c * p7 k = z at *
  exact ⟨by omega, by omega, by omega⟩

attribute [irreducible] p7
theorem place (s : ByteArray) (hs : s.size ≤ 65536) (i k : Nat) (hi : i ≤ s.size) (hk : k ≤ 5) : wrap64 ((i : Int) + (k : Int)) = ((i + k : Nat) : Int) := by rw [w64 (by omega) (by omega)]; omega
theorem sevens (k : Nat) (hk : k ≤ 4) : wrap64 (7 * (k : Int)) = ((7 * k : Nat) : Int) := by rw [w64 (by omega) (by omega)]; omega
theorem minus_128 (b : Int) (h0 : 128 ≤ b) (h1 : b < 256) : (b - 128) % 256 = b - 128 := by omega
theorem and_127 (b : Int) (h0 : 128 ≤ b) (h1 : b < 256) : wrap64 (Go.bits .and .u8 b 127) = b - 128 := by
  have e : Go.bits .and .u8 b 127 = b % 128 := bits_mask .u8 8 (by decide) wraps_u8 7 (by decide) b (by omega) (by omega)
  rw [e, w64 (by omega) (by omega)]; omega
/-- Both read the same bytes of one number. -/
theorem reads (s : ByteArray) (hs : s.size ≤ 65536) (x : List Int) (b : Int) (i : Nat) (hi : i < s.size) : ∀ (m k : Nat) (n : Int), k + m = 4 → i + k ≤ s.size → 0 ≤ n → n < p7 k →
    ∃ (t k' : Nat) (n' : Int), t ≤ m ∧ k' ≤ 4 ∧ i + k' ≤ s.size ∧ 0 ≤ n' ∧ n' < p7 k' ∧ (k' < 4 → i + k' < s.size → bt s ((i + k' : Nat) : Int) < 128) ∧
      (∀ K, spec_DecodeSteps.l1 (K + t + 1) s x b (i : Int) n (k : Int) = spec_DecodeSteps.j2 K s x b (i : Int) n' (k' : Int)) ∧
      (∀ K, impl_DecodeSteps.l1 (K + t + 1) s x b (i : Int) n (k : Int) = impl_DecodeSteps.j2 K s x b (i : Int) n' (k' : Int)) := by
  intro m
  induction m with
  | zero =>
    intro k n hk hik h0 h1
    obtain rfl : k = 4 := by omega
    refine ⟨0, 4, n, Nat.le_refl _, Nat.le_refl _, hik, h0, h1, fun h => by omega, fun K => ?_, fun K => ?_⟩
    · rw [spec_DecodeSteps.l1, place s hs i 4 (by omega) (by omega)]
      by_cases c : i + 4 < s.size
      · rw [if_pos (by omega), if_pos (by omega)]
        by_cases d : bt s ((i + 4 : Nat) : Int) ≥ 128
        · rw [if_pos d, if_neg (by omega)]
        · rw [if_neg d]
      · rw [if_neg (by omega)]
    · rw [impl_DecodeSteps.l1, if_neg (by omega)]
  | succ m ih =>
    intro k n hk hik h0 h1
    by_cases c : i + k < s.size
    · by_cases d : bt s ((i + k : Nat) : Int) ≥ 128
      · have hb := bt_range s ((i + k : Nat) : Int)
        obtain ⟨e1, e2, e3⟩ := lay7 n (bt s ((i + k : Nat) : Int) - 128) k (by omega) h0 h1 (by omega) (by omega)
        have E1 := Aside0.mk e1
        have E2 := Aside0.mk e2
        have E3 := Aside0.mk e3
        clear e1 e2 e3
        obtain ⟨t, k', n', a1, a2, a3, a4, a5, a6, a7, a8⟩ := ih (k + 1) _ (by omega) (by omega) E2.out E3.out
        have wk := Aside0.mk (w64s (show k < 5 by omega) (by omega))
        refine ⟨t + 1, k', n', Nat.succ_le_succ a1, a2, a3, a4, a5, a6, fun K => ?_, fun K => ?_⟩
        · rw [show K + (t + 1) + 1 = (K + t + 1) + 1 from rfl, spec_DecodeSteps.l1, place s hs i k (by omega) (by omega), if_pos (by omega), if_pos (by omega), if_pos d, if_pos (by omega), sevens k (by omega), if_pos (by omega), minus_128 _ d (by omega), E1.out, wk.out]
          exact a7 K
        · rw [show K + (t + 1) + 1 = (K + t + 1) + 1 from rfl, impl_DecodeSteps.l1, place s hs i k (by omega) (by omega), if_pos (by omega), if_pos (by omega), if_pos (by omega), if_pos d, sevens k (by omega), if_pos (by omega), and_127 _ d (by omega), E1.out, wk.out]
          exact a8 K
      · refine ⟨0, k, n, by omega, by omega, hik, h0, h1, fun _ _ => by omega, fun K => ?_, fun K => ?_⟩
        · rw [spec_DecodeSteps.l1, place s hs i k (by omega) (by omega), if_pos (by omega), if_pos (by omega), if_neg d]
        · rw [impl_DecodeSteps.l1, place s hs i k (by omega) (by omega), if_pos (by omega), if_pos (by omega), if_pos (by omega), if_neg d]
    · refine ⟨0, k, n, by omega, by omega, hik, h0, h1, fun _ h => by omega, fun K => ?_, fun K => ?_⟩
      · rw [spec_DecodeSteps.l1, place s hs i k (by omega) (by omega), if_neg (by omega)]
      · rw [impl_DecodeSteps.l1, place s hs i k (by omega) (by omega), if_pos (by omega), if_neg (by omega)]
theorem base_eq (p : Int) (h : 0 ≤ p ∧ p ≤ 1114111) : wrap64 (wrap64 (wrap64 (Int.tdiv p 128) * 128) + 64) = p / 128 * 128 + 64 := by
  rw [Int.tdiv_eq_ediv_of_nonneg h.1, w64 (x := p / 128) (by omega) (by omega), w64 (x := p / 128 * 128) (by omega) (by omega), w64 (by omega) (by omega)]
/-- What follows a number. -/
theorem acts (s : ByteArray) (hs : s.size ≤ 65536) (x : List Int) (hx : x.length < 17592186044416) (b : Int) (hb : 0 ≤ b ∧ b ≤ 1200000) (i k : Nat) (n : Int) (hi : i < s.size) (hk : k ≤ 4) (hik : i + k ≤ s.size) (h0 : 0 ≤ n) (h1 : n < p7 k) (hlow : k < 4 → i + k < s.size → bt s ((i + k : Nat) : Int) < 128) :
    (∃ r, ∀ K, spec_DecodeSteps.j2 (K + 4) s x b (i : Int) n (k : Int) = some r ∧ impl_DecodeSteps.j2 (K + 4) s x b (i : Int) n (k : Int) = some r) ∨
    (∃ p, (0 ≤ p ∧ p ≤ 1114111) ∧ i + k < s.size ∧ ∀ K, spec_DecodeSteps.j2 (K + 3) s x b (i : Int) n (k : Int) = spec_DecodeSteps.l0 K s (x ++ [p]) (p / 128 * 128 + 64) ((i + k + 1 : Nat) : Int) ∧ impl_DecodeSteps.j2 (K + 2) s x b (i : Int) n (k : Int) = impl_DecodeSteps.l0 K s (x ++ [p]) (p / 128 * 128 + 64) ((i + k + 1 : Nat) : Int)) := by
  have wp := Aside0.mk (place s hs i k (by omega) (by omega))
  have bad : (k = 4 ∨ i + k = s.size ∨ (0 < k ∧ bt s ((i + k : Nat) : Int) = 0)) → ∃ r, ∀ K, spec_DecodeSteps.j2 (K + 4) s x b (i : Int) n (k : Int) = some r ∧ impl_DecodeSteps.j2 (K + 4) s x b (i : Int) n (k : Int) = some r := by
    intro h
    refine ⟨(3, (i : Int), (⟨#[]⟩ : ByteArray)), fun K => ?_⟩
    by_cases c4 : k = 4
    · constructor
      · rw [spec_DecodeSteps.j2, if_pos (by omega), spec_DecodeSteps.j3, if_pos rfl]
      · rw [impl_DecodeSteps.j2, if_pos (by omega), impl_DecodeSteps.j3, if_pos rfl]
    · by_cases ce : i + k = s.size
      · constructor
        · rw [spec_DecodeSteps.j2, if_neg (by omega), wp.out, if_pos (by omega), spec_DecodeSteps.j3, if_pos rfl]
        · rw [impl_DecodeSteps.j2, if_neg (by omega), wp.out, if_pos (by omega), impl_DecodeSteps.j3, if_pos rfl]
      · have cz : 0 < k ∧ bt s ((i + k : Nat) : Int) = 0 := by omega
        have ez : (bt s ((i + k : Nat) : Int) == 0) = true := by rw [cz.2]; rfl
        constructor
        · rw [spec_DecodeSteps.j2, if_neg (by omega), wp.out, if_neg (by omega), if_pos (by omega), if_pos (by omega), if_pos (by omega), ez, spec_DecodeSteps.j3, if_pos rfl]
        · rw [impl_DecodeSteps.j2, if_neg (by omega), wp.out, if_neg (by omega), if_pos (by omega), if_pos (by omega), if_pos (by omega), ez, impl_DecodeSteps.j3, if_pos rfl]
  by_cases hbad : k = 4 ∨ i + k = s.size ∨ (0 < k ∧ bt s ((i + k : Nat) : Int) = 0)
  · exact .inl (bad hbad)
  have hk4 : k < 4 := by omega
  have hik' : i + k < s.size := by omega
  have hc := hlow hk4 hik'
  have hr := bt_range s ((i + k : Nat) : Int)
  have wb : Aside0 (wrap64 (bt s ((i + k : Nat) : Int)) = bt s ((i + k : Nat) : Int)) := Aside0.mk (w64 (by omega) (by omega))
  obtain ⟨e1, e2, e3⟩ := lay7 n (bt s ((i + k : Nat) : Int)) k (by omega) h0 h1 hr.1 hc
  have hbig := (p7_range (k + 1) (by omega)).2
  obtain ⟨v, hv⟩ : ∃ v, n + bt s ((i + k : Nat) : Int) * p7 k = v := ⟨_, rfl⟩
  rw [hv] at e1 e2 e3
  have E1 := Aside0.mk e1
  clear e1 hv
  have m2 : Aside0 (Int.tmod v 2 = v % 2) := Aside0.mk (Int.tmod_eq_emod_of_nonneg e2)
  -- both come to j3 with false
  have toJ3s : ∀ K, spec_DecodeSteps.j2 (K + 1) s x b (i : Int) n (k : Int) = spec_DecodeSteps.j3 K s x b (i : Int) n (k : Int) false := by
    intro K
    rw [spec_DecodeSteps.j2, if_neg (by omega), wp.out, if_neg (by omega)]
    by_cases c : 0 < k
    · have ez : (bt s ((i + k : Nat) : Int) == 0) = false := by rw [beq_eq_false_iff_ne]; omega
      rw [if_pos (by omega), if_pos (by omega), if_pos (by omega), ez]
    · rw [if_neg (by omega)]
  have toJ3i : ∀ K, impl_DecodeSteps.j2 (K + 1) s x b (i : Int) n (k : Int) = impl_DecodeSteps.j3 K s x b (i : Int) n (k : Int) false := by
    intro K
    rw [impl_DecodeSteps.j2, if_neg (by omega), wp.out, if_neg (by omega)]
    by_cases c : 0 < k
    · have ez : (bt s ((i + k : Nat) : Int) == 0) = false := by rw [beq_eq_false_iff_ne]; omega
      rw [if_pos (by omega), if_pos (by omega), if_pos (by omega), ez]
    · rw [if_neg (by omega)]
  obtain ⟨p, hp⟩ : ∃ p, (if v % 2 = 1 then b - (v + 1) / 2 else b + v / 2) = p := ⟨_, rfl⟩
  have ws : Aside0 (wrap64 (wrap64 ((i + k : Nat) : Int) + 1) = ((i + k + 1 : Nat) : Int)) := Aside0.mk (by rw [w64 (x := ((i + k : Nat) : Int)) (by omega) (by omega), w64 (by omega) (by omega)]; omega)
  have ws' : Aside0 (wrap64 (((i + k : Nat) : Int) + 1) = ((i + k + 1 : Nat) : Int)) := Aside0.mk (by rw [w64 (by omega) (by omega)]; omega)
  have wi : Aside0 (wrap64 ((i : Int) + wrap64 ((k : Int) + 1)) = ((i + k + 1 : Nat) : Int)) := Aside0.mk (by rw [w64 (x := (k : Int) + 1) (by omega) (by omega), w64 (by omega) (by omega)]; omega)
  have j3s : ∀ K, spec_DecodeSteps.j3 (K + 2) s x b (i : Int) n (k : Int) false = if isPt p = true then ((spec_l03Middle.f p).bind fun t => spec_DecodeSteps.l0 K s (x ++ [p]) t ((i + k + 1 : Nat) : Int)) else some (5, (i : Int), (⟨#[]⟩ : ByteArray)) := by
    intro K
    rw [spec_DecodeSteps.j3, if_neg (by simp), wp.out, if_pos (by omega), if_pos (by omega), sevens k (by omega), if_pos (by omega), wb.out, E1.out, m2.out]
    have fin : ∀ d : Int, wrap64 (b + d) = p → spec_DecodeSteps.j4 (K + 1) s x b (i : Int) (k : Int) d = if isPt p = true then ((spec_l03Middle.f p).bind fun t => spec_DecodeSteps.l0 K s (x ++ [p]) t ((i + k + 1 : Nat) : Int)) else some (5, (i : Int), (⟨#[]⟩ : ByteArray)) := by
      intro d hd
      rw [spec_DecodeSteps.j4, hd, isPointS_eq, Option.bind_some, wp.out, ws'.out, if_pos hx]
    by_cases o : v % 2 = 1
    · rw [if_pos o] at hp ⊢
      refine fin _ ?_
      have a3 : Aside0 (Int.tdiv (-(v + 1)) 2 = -((v + 1) / 2)) := Aside0.mk (by rw [Int.neg_tdiv, Int.tdiv_eq_ediv_of_nonneg (by omega)])
      have a2 : Aside0 (wrap64 (-(v + 1)) = -(v + 1)) := Aside0.mk (w64 (by omega) (by omega))
      have a1 : Aside0 (wrap64 (v + 1) = v + 1) := Aside0.mk (w64 (by omega) (by omega))
      rw [a1.out, a2.out, a3.out, w64 (x := -((v + 1) / 2)) (by omega) (by omega), w64 (by omega) (by omega), ← hp]
      omega
    · rw [if_neg o] at hp ⊢
      refine fin _ ?_
      rw [Int.tdiv_eq_ediv_of_nonneg e2, w64 (x := v / 2) (by omega) (by omega), w64 (by omega) (by omega), ← hp]
  have j3i : ∀ K, impl_DecodeSteps.j3 (K + 1) s x b (i : Int) n (k : Int) false = if isPt p = true then (impl_DecodeSteps.l0 K s (x ++ [p]) (wrap64 (wrap64 (wrap64 (Int.tdiv p 128) * 128) + 64)) ((i + k + 1 : Nat) : Int)) else some (5, (i : Int), (⟨#[]⟩ : ByteArray)) := by
    intro K
    rw [impl_DecodeSteps.j3, if_neg (by simp), wp.out, if_pos (by omega), if_pos (by omega), sevens k (by omega), if_pos (by omega), wb.out, E1.out, m2.out]
    by_cases o : v % 2 = 1
    · rw [if_pos o] at hp ⊢
      have a1 : Aside0 (wrap64 (v + 1) = v + 1) := Aside0.mk (w64 (by omega) (by omega))
      have e : wrap64 (b - wrap64 (Int.tdiv (wrap64 (v + 1)) 2)) = p := by
        rw [a1.out, Int.tdiv_eq_ediv_of_nonneg (by omega), w64 (x := (v + 1) / 2) (by omega) (by omega), w64 (by omega) (by omega), ← hp]
      rw [e, isPoint_eq, Option.bind_some, if_pos hx, wi.out]
    · rw [if_neg o] at hp ⊢
      have e : wrap64 (b + wrap64 (Int.tdiv v 2)) = p := by
        rw [Int.tdiv_eq_ediv_of_nonneg e2, w64 (x := v / 2) (by omega) (by omega), w64 (by omega) (by omega), ← hp]
      rw [e, isPoint_eq, Option.bind_some, if_pos hx, wi.out]
  by_cases c : isPt p = true
  · have pr := (isPt_iff p).1 c
    refine .inr ⟨p, ⟨by omega, by omega⟩, hik', fun K => ⟨?_, ?_⟩⟩
    · rw [toJ3s, j3s, if_pos c]
      unfold spec_l03Middle.f
      rw [Option.bind_some, base_eq p ⟨by omega, by omega⟩]
    · rw [toJ3i, j3i, if_pos c, base_eq p ⟨by omega, by omega⟩]
  · refine .inl ⟨(5, (i : Int), (⟨#[]⟩ : ByteArray)), fun K => ⟨?_, ?_⟩⟩
    · rw [toJ3s, show K + 3 = (K + 1) + 2 from rfl, j3s, if_neg c]
    · rw [toJ3i, show K + 3 = (K + 2) + 1 from rfl, j3i, if_neg c]
theorem ends (s : ByteArray) (hs : s.size ≤ 65536) : ∀ (d i : Nat) (x : List Int) (b : Int), s.size ≤ i + d → i ≤ s.size → x.length ≤ i → (0 ≤ b ∧ b ≤ 1200000) → ∃ T r, ∀ K, T ≤ K → spec_DecodeSteps.l0 K s x b (i : Int) = some r ∧ impl_DecodeSteps.l0 K s x b (i : Int) = some r := by
  intro d
  induction d with
  | zero =>
    intro i x b hd hi hx hb
    obtain ⟨r, hr⟩ : ∃ r, (if ((strOfNums (encAll x)).size : Int) > 65536 then (some (2, 0, (⟨#[]⟩ : ByteArray)) : Option (Int × Int × ByteArray)) else some (0, 0, strOfNums (encAll x))) = some r := by split <;> exact ⟨_, rfl⟩
    refine ⟨x.length + 3, r, fun K hK => ?_⟩
    obtain ⟨K, rfl⟩ : ∃ m, K = m + 1 := ⟨K - 1, by omega⟩
    constructor
    · rw [spec_DecodeSteps.l0, if_neg (by omega), specText_eq x K (by omega) (by omega), Option.bind_some]
      exact hr
    · rw [impl_DecodeSteps.l0, if_neg (by omega), write_eq x K (by omega) (by omega), Option.bind_some]
      unfold impl_long.f
      rw [Option.bind_some]
      simp only [decide_eq_true_eq]
      exact hr
  | succ d ih =>
    intro i x b hd hi hx hb
    by_cases c : i < s.size
    · obtain ⟨t, k', n', a1, a2, a3, a4, a5, a6, a7, a8⟩ := reads s hs x b i c 4 0 0 rfl (by omega) (by decide) (by rw [p7_zero]; decide)
      have s0 : ∀ K, spec_DecodeSteps.l0 (K + t + 2) s x b (i : Int) = spec_DecodeSteps.j2 K s x b (i : Int) n' (k' : Int) := by
        intro K
        rw [show K + t + 2 = (K + t + 1) + 1 from rfl, spec_DecodeSteps.l0, if_pos (by omega)]
        exact a7 K
      have i0 : ∀ K, impl_DecodeSteps.l0 (K + t + 2) s x b (i : Int) = impl_DecodeSteps.j2 K s x b (i : Int) n' (k' : Int) := by
        intro K
        rw [show K + t + 2 = (K + t + 1) + 1 from rfl, impl_DecodeSteps.l0, if_pos (by omega)]
        exact a8 K
      rcases acts s hs x (by omega) b hb i k' n' c a2 a3 a4 a5 a6 with ⟨r, hr⟩ | ⟨p, hp, hlt, hr⟩
      · refine ⟨t + 6, r, fun K hK => ?_⟩
        obtain ⟨m, rfl⟩ : ∃ m, K = (m + 4) + t + 2 := ⟨K - t - 6, by omega⟩
        rw [s0, i0]
        exact hr m
      · obtain ⟨T, r, hT⟩ := ih (i + k' + 1) (x ++ [p]) (p / 128 * 128 + 64) (by omega) (by omega) (by simp; omega) (by omega)
        refine ⟨T + t + 5, r, fun K hK => ?_⟩
        constructor
        · obtain ⟨m, rfl⟩ : ∃ m, K = (m + 3) + t + 2 := ⟨K - t - 5, by omega⟩
          rw [s0, (hr m).1]
          exact (hT m (by omega)).1
        · obtain ⟨m, rfl⟩ : ∃ m, K = (m + 2) + t + 2 := ⟨K - t - 4, by omega⟩
          rw [i0, (hr m).2]
          exact (hT m (by omega)).2
    · exact ih i x b (by omega) hi hx hb
theorem FnExactDecodeSteps : laws_FnExactDecodeSteps.Pure := by
  intro s _
  unfold laws_FnExactDecodeSteps.f
  by_cases c : (s.size : Int) > 1048576
  · exact ⟨0, by rw [if_pos c]⟩
  · by_cases c2 : (s.size : Int) > 65536
    · refine ⟨0, ?_⟩
      rw [if_neg c]
      unfold spec_DecodeSteps.f impl_DecodeSteps.f impl_long.f
      rw [if_pos c2, Option.bind_some, Option.bind_some, if_pos (decide_eq_true c2), Option.bind_some]
      simp [laws_eqLegacyOut.f]
    · obtain ⟨T, r, hT⟩ := ends s (by omega) s.size 0 [] 64 (by omega) (by omega) (by simp) (by omega)
      refine ⟨T, ?_⟩
      obtain ⟨h1, h2⟩ := hT T (Nat.le_refl _)
      rw [if_neg c]
      unfold spec_DecodeSteps.f impl_DecodeSteps.f impl_long.f
      rw [if_neg c2, Option.bind_some, if_neg (by simpa using c2)]
      rw [show ((0 : Nat) : Int) = 0 from rfl] at h1 h2
      rw [h1, h2]
      simp [laws_eqLegacyOut.f]

end Go.Proofs.Ytdagmhbockeleaa.Pure

/- The program's PackTrie returns what the reference's returns. For every input: the law answers true; each argument reads afterwards as it read before. -/
import Derived.Test.YtogdmjcdfjnifaaDoorTriePPackTrie
import Derived.Lib.ItoaNum
import Derived.Lib.Join
set_option linter.unusedSimpArgs false
set_option linter.unusedVariables false
namespace Go.Proofs.YtogdmjcdfjnifaaDoor.Pure
open Go.RowKit Go.Proofs.YtogdmjcdfjnifaaDoor.PFnExactPackTrie Go.Proofs.YtogdmjcdfjnifaaDoorW.PrintWords Go.Proofs.YtogdmjcdfjnifaaDoorW.PrintLast Go.Proofs.YtogdmjcdfjnifaaDoorW.PrintMore Go.Proofs.YtogdmjcdfjnifaaDoor.Lib Go.Proofs.YtogdmjcdfjnifaaDoor.EvKit
open Go.Lib (decDigits itoa join joinTail)
open Go.Proofs.YtogdmjcdfjnifaaDoor.TrieMap (tfAll)

/-! texts as rows of bytes -/
def B (l : List UInt8) : ByteArray := ⟨l.toArray⟩
theorem B_append (a b : List UInt8) : B a ++ B b = B (a ++ b) := by
  refine ByteArray.ext ?_
  rw [ByteArray.data_append]
  simp [B]
theorem B_size (a : List UInt8) : (B a).size = a.length := by
  show a.toArray.size = a.length
  simp
def nums (l : List UInt8) : List Int := l.map fun b => (b.toNat : Int)
theorem nums_len (l : List UInt8) : (nums l).length = l.length := by simp [nums]
theorem nums_append (a b : List UInt8) : nums (a ++ b) = nums a ++ nums b := by simp [nums]
theorem bytes_B (l : List UInt8) : bytesOf (B l) = nums l := by
  simp [bytesOf, B, nums]
theorem str_nums (l : List UInt8) : strOfNums (nums l) = B l := by
  rw [← bytes_B, strOfNums_bytesOf]
theorem one_eq (v : Int) (h : 0 ≤ v ∧ v ≤ 9) : strOfNums [wrap64 (48 + v) % 256] = B [UInt8.ofNat (48 + v.toNat)] := by
  have e : [wrap64 (48 + v) % 256] = nums [UInt8.ofNat (48 + v.toNat)] := by
    simp only [nums, List.map_cons, List.map_nil, List.cons.injEq, and_true, UInt8.toNat_ofNat']
    unfold wrap64
    omega
  rw [e, str_nums]
/-! numerals -/
theorem dd_small (n : Nat) (h : n < 10) : decDigits n = [UInt8.ofNat (48 + n)] := by rw [decDigits, dif_pos h]
theorem dd_big (n : Nat) (h : ¬ n < 10) : decDigits n = decDigits (n / 10) ++ [UInt8.ofNat (48 + n % 10)] := by rw [decDigits, dif_neg h]
theorem dd_len : ∀ (d n : Nat), n < 10 ^ (d + 1) → (decDigits n).length ≤ d + 1 := by
  intro d
  induction d with
  | zero =>
    intro n h
    rw [dd_small n (by simpa using h)]
    simp
  | succ d ih =>
    intro n h
    by_cases c : n < 10
    · rw [dd_small n c]; simp
    · have hp : (10 : Nat) ^ (d + 1 + 1) = 10 * 10 ^ (d + 1) := by rw [Nat.pow_succ, Nat.mul_comm]
      have := ih (n / 10) (by omega)
      rw [dd_big n c, List.length_append, List.length_singleton]
      omega
theorem tdiv10 (n : Nat) (h : n ≤ 9223372036854775807) : wrap64 (Int.tdiv (n : Int) 10) = ((n / 10 : Nat) : Int) := by
  rw [Int.tdiv_eq_ediv_of_nonneg (by omega), w64 (by omega) (by omega)]
  omega
theorem tmod10 (n : Nat) : Int.tmod (n : Int) 10 = ((n % 10 : Nat) : Int) := by
  rw [Int.tmod_eq_emod_of_nonneg (by omega)]
  omega
theorem digits_l0 : ∀ (d n k : Nat) (x : List UInt8), n < 10 ^ (d + 1) → n ≤ 9223372036854775807 → d < k → x.length + d ≤ 1000 → spec_l04Digits.l0 k (n : Int) (B x) = some (B (decDigits n ++ x)) := by
  have last : ∀ (n k : Nat) (x : List UInt8), n < 10 → x.length ≤ 1000 → spec_l04Digits.l0 (k + 1) (n : Int) (B x) = some (B (decDigits n ++ x)) := by
    intro n k x h hx
    rw [spec_l04Digits.l0, if_neg (by omega), Option.bind_some, one_eq _ ⟨by omega, by omega⟩, Int.toNat_natCast, B_size, B_size, if_pos (by simp; omega), B_append, dd_small n h]
  intro d
  induction d with
  | zero =>
    intro n k x h h1 hk hx
    obtain ⟨k, rfl⟩ : ∃ m, k = m + 1 := ⟨k - 1, by omega⟩
    exact last n k x (by simpa using h) (by omega)
  | succ d ih =>
    intro n k x h h1 hk hx
    obtain ⟨k, rfl⟩ : ∃ m, k = m + 1 := ⟨k - 1, by omega⟩
    by_cases c : n < 10
    · exact last n k x c (by omega)
    · have hp : (10 : Nat) ^ (d + 1 + 1) = 10 * 10 ^ (d + 1) := by rw [Nat.pow_succ, Nat.mul_comm]
      rw [spec_l04Digits.l0, if_pos (by omega), Option.bind_some, tmod10, one_eq _ ⟨by omega, by omega⟩, Int.toNat_natCast, B_size, B_size, if_pos (by simp; omega), B_append, tdiv10 n h1, ih (n / 10) k _ (by omega) (by omega) (by omega) (by simp; omega), dd_big n c]
      simp
theorem most : decDigits 9223372036854775808 = [57, 50, 50, 51, 51, 55, 50, 48, 51, 54, 56, 53, 52, 55, 55, 53, 56, 48, 56] := by
  simp [decDigits]
theorem digits_eq (n k : Nat) (h : n ≤ 9223372036854775807) (hk : 20 ≤ k) : spec_l04Digits.f k (n : Int) = some (B (decDigits n)) := by
  unfold spec_l04Digits.f
  rw [if_neg (by omega)]
  have := digits_l0 18 n k [] (by omega) h (by omega) (by simp)
  rw [List.append_nil] at this
  exact this
theorem itoa_len (n : Int) (h : -9223372036854775808 ≤ n ∧ n ≤ 9223372036854775807) : (itoa n).length ≤ 20 := by
  unfold itoa
  by_cases c : n < 0
  · rw [if_pos c]
    have := dd_len 18 n.natAbs (by omega)
    rw [List.length_cons]; omega
  · rw [if_neg c]
    have := dd_len 18 n.toNat (by omega)
    omega
theorem dec_eq (n : Int) (k : Nat) (h : -9223372036854775808 ≤ n ∧ n ≤ 9223372036854775807) (hk : 20 ≤ k) : spec_l04Dec.f k n = some (B (itoa n)) := by
  unfold spec_l04Dec.f itoa
  by_cases c : n < 0
  · rw [if_pos c, if_pos c]
    have e : spec_l04Digits.f k (wrap64 (-n)) = some (B (decDigits n.natAbs)) := by
      by_cases m : n = -9223372036854775808
      · subst m
        have hw : wrap64 (- -9223372036854775808) = -9223372036854775808 := by unfold wrap64; decide
        rw [hw]
        unfold spec_l04Digits.f
        rw [if_pos (by decide)]
        show some (B _) = some (B (decDigits 9223372036854775808))
        rw [most]
      · obtain ⟨q, hq⟩ : ∃ q : Nat, n.natAbs = q := ⟨_, rfl⟩
        have hw : wrap64 (-n) = (q : Int) := by rw [w64 (by omega) (by omega)]; omega
        rw [hw, hq]
        exact digits_eq q k (by omega) hk
    have hl := dd_len 18 n.natAbs (by omega)
    rw [e, Option.bind_some, B_size, if_pos (by omega)]
    show some (B [45] ++ B (decDigits n.natAbs)) = _
    rw [B_append]
    rfl
  · rw [if_neg c, if_neg c]
    obtain ⟨q, hq⟩ : ∃ q : Nat, n.toNat = q := ⟨_, rfl⟩
    have hn : n = (q : Int) := by omega
    rw [hq]
    subst hn
    rw [digits_eq q k (by omega) hk, Option.bind_some]
/-! runs -/
/-- One run, as a text. -/
def seg (v : Int) (m : Nat) : List UInt8 := if m > 1 then itoa v ++ 120 :: itoa (m : Int) else itoa v
theorem seg_len (v : Int) (m : Nat) (h : -9223372036854775808 ≤ v ∧ v ≤ 9223372036854775807) (hm : m ≤ 1048576) : (seg v m).length ≤ 41 := by
  have a := itoa_len v h
  have b := itoa_len (m : Int) ⟨by omega, by omega⟩
  unfold seg
  split
  · rw [List.length_append, List.length_cons]; omega
  · omega
/-- The end of a run: both texts find it. -/
theorem run_end (l : List Int) (hl : l.length ≤ 1048576) (i : Nat) (hi : i < l.length) : ∀ (d j : Nat), j + d = l.length → i < j → ∃ e, j ≤ e ∧ e ≤ l.length ∧ ∀ (K : Nat),
    (∀ x, spec_l04Runs.l1 (K + (e - j) + 1) l x (i : Int) (j : Int) = spec_l04Runs.j2 K l x (i : Int) (e : Int)) ∧ (∀ x, impl_packed.l1 (K + (e - j) + 1) l x (i : Int) (j : Int) = impl_packed.j2 K l x (i : Int) (e : Int)) := by
  intro d
  induction d with
  | zero =>
    intro j hj hij
    refine ⟨j, Nat.le_refl _, by omega, fun K => ⟨fun x => ?_, fun x => ?_⟩⟩
    · rw [Nat.sub_self, Nat.add_zero, spec_l04Runs.l1, if_neg (by omega)]
    · rw [Nat.sub_self, Nat.add_zero, impl_packed.l1, if_neg (by omega)]
  | succ d ih =>
    intro j hj hij
    have hlt : j < l.length := by omega
    by_cases c : rd l (j : Int) = rd l (i : Int)
    · obtain ⟨e, h1, h2, h3⟩ := ih (j + 1) (by omega) (by omega)
      refine ⟨e, by omega, h2, fun K => ⟨fun x => ?_, fun x => ?_⟩⟩
      · have := (h3 K).1 x
        rw [show K + (e - j) + 1 = (K + (e - (j + 1)) + 1) + 1 by omega, spec_l04Runs.l1, if_pos (by omega), if_pos (by omega), if_pos (by omega), if_pos (by omega), if_pos c, w64s hlt (by omega)]
        exact this
      · have := (h3 K).2 x
        rw [show K + (e - j) + 1 = (K + (e - (j + 1)) + 1) + 1 by omega, impl_packed.l1, if_pos (by omega), if_pos (by omega), if_pos (by omega), if_pos (by omega), if_pos c, w64s hlt (by omega)]
        exact this
    · refine ⟨j, Nat.le_refl _, by omega, fun K => ⟨fun x => ?_, fun x => ?_⟩⟩
      · rw [Nat.sub_self, Nat.add_zero, spec_l04Runs.l1, if_pos (by omega), if_pos (by omega), if_pos (by omega), if_pos (by omega), if_neg c]
      · rw [Nat.sub_self, Nat.add_zero, impl_packed.l1, if_pos (by omega), if_pos (by omega), if_pos (by omega), if_pos (by omega), if_neg c]
theorem wSub (i e : Nat) (h : i ≤ e) (he : e ≤ 1048576) : wrap64 ((e : Int) - (i : Int)) = ((e - i : Nat) : Int) := by
  unfold wrap64; omega
/-- One run put down, in the reference's words. -/
theorem spec_j3 (K : Nat) (l x : List Int) (i e : Nat) (v : Int) (hv : rd l (i : Int) = v) (hr : -9223372036854775808 ≤ v ∧ v ≤ 9223372036854775807) (hK : 20 ≤ K) (hi : i < l.length) (hie : i < e) (he : e ≤ 1048576) (hx : x.length ≤ 100000000) :
    spec_l04Runs.j3 (K + 1) l x (i : Int) (e : Int) = spec_l04Runs.l0 K l (x ++ nums (seg v (e - i))) (e : Int) := by
  have a := itoa_len v hr
  have b := itoa_len ((e - i : Nat) : Int) ⟨by omega, by omega⟩
  have ws := wSub i e (by omega) he
  rw [spec_l04Runs.j3, if_pos (by omega), if_pos (by omega), hv, dec_eq v K hr hK, Option.bind_some, B_size, if_pos (by clear ws; omega), Option.bind_some, bytes_B, ws]
  clear ws
  unfold seg
  by_cases c : e - i > 1
  · rw [if_pos (by omega), if_pos c, if_pos (by rw [List.length_append, nums_len]; omega), Option.bind_some, dec_eq _ K ⟨by omega, by omega⟩ hK, Option.bind_some, B_size, if_pos (by rw [List.length_append, List.length_append, nums_len, List.length_singleton]; omega), bytes_B, nums_append]
    simp [nums]
  · rw [if_neg (by omega), if_neg c]
theorem spec_j2 (K : Nat) (l x : List Int) (i e : Nat) (v : Int) (hv : rd l (i : Int) = v) (hr : -9223372036854775808 ≤ v ∧ v ≤ 9223372036854775807) (hK : 20 ≤ K) (hi : i < l.length) (hie : i < e) (he : e ≤ 1048576) (hx : x.length ≤ 99999999) :
    spec_l04Runs.j2 (K + 2) l x (i : Int) (e : Int) = spec_l04Runs.l0 K l (x ++ nums ((if i = 0 then [] else [44]) ++ seg v (e - i))) (e : Int) := by
  rw [show K + 2 = (K + 1) + 1 from rfl, spec_l04Runs.j2]
  by_cases c : i = 0
  · rw [if_neg (by omega), spec_j3 K l x i e v hv hr hK hi hie he (by omega), if_pos c, List.nil_append]
  · rw [if_pos (by omega), if_pos (by omega), spec_j3 K l _ i e v hv hr hK hi hie he (by rw [List.length_append, List.length_singleton]; omega), if_neg c, nums_append]
    simp [nums]
/-- One run put down, in the program's words. -/
theorem impl_j2 (K : Nat) (l : List Int) (x : List ByteArray) (i e : Nat) (v : Int) (hv : rd l (i : Int) = v) (hr : -9223372036854775808 ≤ v ∧ v ≤ 9223372036854775807) (hi : i < l.length) (hie : i < e) (he : e ≤ 1048576) (hx : x.length ≤ 100000000) :
    impl_packed.j2 (K + 1) l x (i : Int) (e : Int) = impl_packed.l0 K l (x ++ [B (seg v (e - i))]) (e : Int) := by
  have a := itoa_len v hr
  have b := itoa_len ((e - i : Nat) : Int) ⟨by omega, by omega⟩
  have ws := wSub i e (by omega) he
  have f1 : strconv_FormatInt.f v 10 = some (B (itoa v)) := by
    unfold strconv_FormatInt.f
    rw [if_pos ⟨hr.1, hr.2, rfl⟩]
    rfl
  have f2 : strconv_Itoa.f ((e - i : Nat) : Int) = some (B (itoa ((e - i : Nat) : Int))) := by
    unfold strconv_Itoa.f
    rw [if_pos ⟨by clear ws; omega, by clear ws; omega⟩]
    rfl
  rw [impl_packed.j2, if_pos (by clear ws; omega), if_pos (by clear ws; omega), hv, f1, Option.bind_some, ws, f2]
  clear ws f1 f2
  unfold seg
  by_cases c : e - i > 1
  · have ej : (⟨#[120]⟩ : ByteArray) ++ B (itoa ((e - i : Nat) : Int)) = B (120 :: itoa ((e - i : Nat) : Int)) := B_append [120] _
    rw [if_pos (by omega), if_pos c, Option.bind_some, ej, B_size, B_size, B_size, if_pos (by omega), if_pos (by rw [List.length_cons]; omega), if_pos (by omega), B_append]
  · rw [if_neg (by omega), if_neg c, if_pos (by omega)]
/-- One run, from its start on. -/
theorem one_run (l : List Int) (hl : l.length ≤ 1048576) (hw : ∀ y ∈ l, (Lit.int .i64 y).wf = true) (i : Nat) (hi : i < l.length) : ∃ e s, i < e ∧ e ≤ l.length ∧ s.length ≤ 41 ∧ ∀ K, 20 ≤ K →
    (∀ x : List Int, x.length ≤ 99999999 → spec_l04Runs.l0 (K + (e - i) + 4) l x (i : Int) = spec_l04Runs.l0 K l (x ++ nums ((if i = 0 then [] else [44]) ++ s)) (e : Int)) ∧
    (∀ x : List ByteArray, x.length ≤ 100000000 → impl_packed.l0 (K + (e - i) + 3) l x (i : Int) = impl_packed.l0 K l (x ++ [B s]) (e : Int)) := by
  obtain ⟨e, h1, h2, h3⟩ := run_end l hl i hi (l.length - (i + 1)) (i + 1) (by omega) (by omega)
  have hv : -9223372036854775808 ≤ rd l (i : Int) ∧ rd l (i : Int) ≤ 9223372036854775807 := by
    rw [rd_at l i hi]
    exact bd64 (hw _ (List.getElem_mem hi))
  refine ⟨e, seg (rd l (i : Int)) (e - i), by omega, h2, seg_len _ _ hv (by omega), fun K hK => ⟨fun x hx => ?_, fun x hx => ?_⟩⟩
  · have g := (h3 (K + 2)).1 x
    rw [show K + (e - i) + 4 = ((K + 2) + (e - (i + 1)) + 1) + 1 + 1 by omega, spec_l04Runs.l0, if_pos (by omega), spec_l04Runs.l1, if_pos (by omega), if_pos (by omega), if_pos (by omega), if_pos (by omega), if_pos rfl, w64s hi (by omega), g]
    exact spec_j2 K l x i e _ rfl hv hK hi (by omega) (by omega) hx
  · have g := (h3 (K + 1)).2 x
    rw [show K + (e - i) + 3 = ((K + 1) + (e - (i + 1)) + 1) + 1 + 1 by omega, impl_packed.l0, if_pos (by omega), impl_packed.l1, if_pos (by omega), if_pos (by omega), if_pos (by omega), if_pos (by omega), if_pos rfl, w64s hi (by omega), g]
    exact impl_j2 K l x i e _ rfl hv hi (by omega) (by omega) hx
/-- All further runs. -/
theorem more_runs (l : List Int) (hl : l.length ≤ 1048576) (hw : ∀ y ∈ l, (Lit.int .i64 y).wf = true) : ∀ (d i : Nat), 0 < i → i + d = l.length → ∃ r : List (List UInt8), r.length ≤ d ∧ (joinTail [44] r).length ≤ 42 * d ∧ ∀ K, 6 * d + 100 ≤ K →
    (∀ x : List Int, x.length + 42 * d ≤ 99999999 → spec_l04Runs.l0 K l x (i : Int) = some (strOfNums (x ++ nums (joinTail [44] r)))) ∧
    (∀ x : List ByteArray, x.length + d ≤ 100000000 → impl_packed.l0 K l x (i : Int) = (strings_Join.f (x ++ r.map B) ⟨#[44]⟩).bind fun t => some t) := by
  intro d
  induction d using Nat.strongRecOn with
  | _ d ih =>
    intro i hi hd
    by_cases c : i < l.length
    · obtain ⟨e, s, h1, h2, h3, h4⟩ := one_run l hl hw i c
      obtain ⟨r, g1, g2, g3⟩ := ih (l.length - e) (by omega) e (by omega) (by omega)
      have ht : joinTail [44] (s :: r) = [44] ++ s ++ joinTail [44] r := by simp [joinTail]
      refine ⟨s :: r, by rw [List.length_cons]; omega, by rw [ht, List.length_append, List.length_append, List.length_singleton]; omega, fun K hK => ⟨fun x hx => ?_, fun x hx => ?_⟩⟩
      · obtain ⟨K', rfl⟩ : ∃ K', K = K' + (e - i) + 4 := ⟨K - (e - i) - 4, by omega⟩
        have hlen : (nums ((if i = 0 then [] else [44]) ++ s)).length = 1 + s.length := by
          rw [nums_len, if_neg (by omega), List.length_append, List.length_singleton]
        rw [(h4 K' (by omega)).1 x (by omega), (g3 K' (by omega)).1 _ (by rw [List.length_append, hlen]; omega), if_neg (by omega), ht, nums_append, nums_append, nums_append]
        simp
      · obtain ⟨K', rfl⟩ : ∃ K', K = K' + (e - i) + 3 := ⟨K - (e - i) - 3, by omega⟩
        rw [(h4 K' (by omega)).2 x (by omega), (g3 K' (by omega)).2 _ (by rw [List.length_append, List.length_singleton]; omega)]
        simp
    · refine ⟨[], by simp, by simp [joinTail], fun K hK => ⟨fun x hx => ?_, fun x hx => ?_⟩⟩
      · obtain ⟨K, rfl⟩ : ∃ m, K = m + 1 := ⟨K - 1, by omega⟩
        rw [spec_l04Runs.l0, if_neg (by omega)]
        simp [joinTail, nums]
      · obtain ⟨K, rfl⟩ : ∃ m, K = m + 1 := ⟨K - 1, by omega⟩
        rw [impl_packed.l0, if_neg (by omega)]
        simp
theorem data_B (r : List (List UInt8)) : (r.map B).map (fun x => x.data.toList) = r := by
  rw [List.map_map]
  refine (List.map_congr_left fun x _ => ?_).trans (List.map_id _)
  simp [B]
theorem join_B (r : List (List UInt8)) (h1 : r.length ≤ 1048576) (h2 : (join r [44]).length ≤ 100000000) : strings_Join.f (r.map B) ⟨#[44]⟩ = some (B (join r [44])) := by
  unfold strings_Join.f
  have e : (⟨#[44]⟩ : ByteArray).data.toList = [44] := rfl
  rw [data_B, e, if_pos ⟨by rw [List.length_map]; omega, by omega⟩]
  rfl
/-- Both texts write the same. -/
theorem pack_eq (l : List Int) (hl : l.length ≤ 1048576) (hw : ∀ y ∈ l, (Lit.int .i64 y).wf = true) : ∃ t : List UInt8, t.length ≤ 50000000 ∧ ∀ k, 7000000 ≤ k → spec_l04Runs.f k l = some (B t) ∧ impl_packed.f k l = some (B t) := by
  unfold spec_l04Runs.f impl_packed.f
  by_cases c : 0 < l.length
  · obtain ⟨e, s, h1, h2, h3, h4⟩ := one_run l hl hw 0 c
    obtain ⟨r, g1, g2, g3⟩ := more_runs l hl hw (l.length - e) e (by omega) (by omega)
    have hj : join (s :: r) [44] = s ++ joinTail [44] r := Go.Lib.join_cons s r [44]
    have hlen : (join (s :: r) [44]).length ≤ 50000000 := by rw [hj, List.length_append]; omega
    refine ⟨join (s :: r) [44], hlen, fun k hk => ⟨?_, ?_⟩⟩
    · obtain ⟨K', rfl⟩ : ∃ K', k = K' + (e - 0) + 4 := ⟨k - (e - 0) - 4, by omega⟩
      have a := (h4 K' (by omega)).1 [] (by simp)
      rw [if_pos rfl, List.nil_append, List.nil_append] at a
      have b := (g3 K' (by omega)).1 (nums s) (by rw [nums_len]; omega)
      rw [← nums_append, ← hj, str_nums] at b
      exact a.trans b
    · obtain ⟨K', rfl⟩ : ∃ K', k = K' + (e - 0) + 3 := ⟨k - (e - 0) - 3, by omega⟩
      have a := (h4 K' (by omega)).2 [] (by simp)
      have b := (g3 K' (by omega)).2 [B s] (by simp; omega)
      have j := join_B (s :: r) (by rw [List.length_cons]; omega) (by omega)
      rw [List.map_cons] at j
      rw [List.singleton_append, j, Option.bind_some] at b
      exact a.trans b
  · refine ⟨[], by simp, fun k hk => ⟨?_, ?_⟩⟩
    · obtain ⟨k, rfl⟩ : ∃ m, k = m + 1 := ⟨k - 1, by omega⟩
      rw [spec_l04Runs.l0, if_neg (by omega)]
      exact congrArg some (str_nums [])
    · obtain ⟨k, rfl⟩ : ∃ m, k = m + 1 := ⟨k - 1, by omega⟩
      have j := join_B [] (by simp) (by simp [join, List.intercalate])
      rw [impl_packed.l0, if_neg (by omega)]
      show (strings_Join.f ([].map B) ⟨#[44]⟩).bind _ = _
      rw [j]
      rfl
theorem small_eq (x : ByteArray) : ((spec_l01Small.f x).bind fun t => some t) = ((impl_short.f x).bind fun t => some t) := by
  unfold spec_l01Small.f impl_short.f impl_long.f
  simp only [Option.bind_some, decide_eq_true_eq]
theorem short_some (x : ByteArray) : ∃ t, ((impl_short.f x).bind fun t => some t) = some t := by
  unfold impl_short.f impl_long.f
  simp only [Option.bind_some, decide_eq_true_eq]
  by_cases c : (x.size : Int) > 65536
  · rw [if_pos c]; exact ⟨_, rfl⟩
  · rw [if_neg c]; exact ⟨_, rfl⟩
theorem both (l0 l1 : List Int) (g0 : l0.length ≤ 1048576) (g1 : l1.length ≤ 1048576) (hw0 : ∀ y ∈ l0, (Lit.int .i64 y).wf = true) (hw : ∀ y ∈ l1, (Lit.int .i64 y).wf = true) :
    ∃ r, Ev (fun k => spec_PackTrie.f k l0 l1) r ∧ Ev (fun k => impl_PackTrie.f k l0 l1) r := by
  have hs := spec_fault l0 l1 g0 g1
  have hi := impl_fault l0 l1 g0 g1 hw
  unfold spec_PackTrie.f impl_PackTrie.f
  by_cases h : tfAll l0 l1 = 0
  · obtain ⟨t0, a0, b0⟩ := pack_eq l0 g0 hw0
    obtain ⟨t1, a1, b1⟩ := pack_eq l1 g1 hw
    obtain ⟨r, hr⟩ := short_some ((B t0 ++ (⟨#[59]⟩ : ByteArray)) ++ B t1)
    have hz : (B t0 ++ (⟨#[59]⟩ : ByteArray)).size = t0.length + 1 := by
      show (B t0 ++ B [59]).size = _
      rw [B_append, B_size]
      simp
    refine ⟨r, Ev.bind (g := fun k => spec_TrieFault.f k l0 l1) hs ?_, ?_⟩
    · simp only [if_pos h]
      refine Ev.bind (g := fun k => spec_l04Runs.f k l0) (from_ 7000000 fun k hk => (b0 k hk).1) ?_
      simp only [B_size, if_pos (show t0.length + 1 ≤ 9223372036854775807 by omega)]
      refine Ev.bind (g := fun k => spec_l04Runs.f k l1) (from_ 7000000 fun k hk => (b1 k hk).1) ?_
      simp only [hz, B_size, if_pos (show t0.length + 1 + t1.length ≤ 9223372036854775807 by omega), small_eq, hr]
      exact Ev.now _
    · simp only [hi, Option.bind_some, if_pos h]
      refine Ev.bind (g := fun k => impl_packed.f k l0) (from_ 7000000 fun k hk => (b0 k hk).2) ?_
      simp only [B_size, if_pos (show t0.length + 1 ≤ 9223372036854775807 by omega)]
      refine Ev.bind (g := fun k => impl_packed.f k l1) (from_ 7000000 fun k hk => (b1 k hk).2) ?_
      simp only [hz, B_size, if_pos (show t0.length + 1 + t1.length ≤ 9223372036854775807 by omega), hr]
      exact Ev.now _
  · refine ⟨⟨#[]⟩, Ev.bind (g := fun k => spec_TrieFault.f k l0 l1) hs ?_, ?_⟩
    · simp only [if_neg h]; exact Ev.now _
    · simp only [hi, Option.bind_some, if_neg h]; exact Ev.now _
theorem FnExactPackTrie : laws_FnExactPackTrie.Pure := by
  intro l0 l1 h0 h1
  refine Ev.rounds (g := fun k => laws_FnExactPackTrie.f k l0 l1) ?_
  unfold laws_FnExactPackTrie.f
  rcases sz_trie l0 l1 (Nat.le_trans h0.1 (by decide)) (Nat.le_trans h1.1 (by decide)) with h | ⟨r, hr, h, g0, g1⟩
  · simp only [h, Option.bind_some, if_pos (show (-1 : Int) < 0 by omega)]
    exact Ev.now _
  simp only [h, Option.bind_some, if_neg (show ¬ r < 0 by omega)]
  obtain ⟨v, e1, e2⟩ := both l0 l1 g0 g1 h0.2 h1.2
  refine Ev.bind (g := fun k => laws_toTrie.f k l0 l1) (to_trie l0 l1 g0 g1) ?_
  refine Ev.bind (g := fun k => spec_PackTrie.f k l0 l1) e1 ?_
  refine Ev.bind (g := fun k => laws_toTrie.f k l0 l1) (to_trie l0 l1 g0 g1) ?_
  refine Ev.bind (g := fun k => impl_PackTrie.f k l0 l1) e2 ?_
  simp only [if_true]
  refine Ev.bind (g := fun k => laws_toTrie.f k l0 l1) (to_trie l0 l1 g0 g1) ?_
  refine Ev.bind (g := fun k => laws_eqTrie.f k l0 l1 l0 l1) (eq_trie l0 l1 g0 g1) ?_
  simp only [if_true]
  exact Ev.now _
end Go.Proofs.YtogdmjcdfjnifaaDoor.Pure

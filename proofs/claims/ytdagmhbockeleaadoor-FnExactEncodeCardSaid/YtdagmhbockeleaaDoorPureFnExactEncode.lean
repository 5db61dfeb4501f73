/- The program's Encode returns what the reference's returns. For every input: the law answers true; each argument reads afterwards as it read before. -/
import Derived.Test.YtdagmhbockeleaaDoorPFnExactEncodex
import Derived.Test.YtdagmhbockeleaaDoorLib
import Derived.Test.YtdagmhbockeleaaDoorPointsEncode
import Derived.Test.YtdagmhbockeleaaDoorWriteEncode
set_option linter.unusedSimpArgs false
set_option linter.unusedVariables false
namespace Go.Proofs.YtdagmhbockeleaaDoor.Pure
open Go.RowKit Go.Proofs.YtdagmhbockeleaaDoor.PFnExactEncode Go.Proofs.YtdagmhbockeleaaDoorW.PrintWords Go.Proofs.YtdagmhbockeleaaDoorW.PrintLast Go.Proofs.YtdagmhbockeleaaDoorW.PrintMore Go.Proofs.YtdagmhbockeleaaDoor.Lib

theorem wrap16 (v : Int) (h : 0 ≤ v ∧ v < 65536) : IntKind.u16.wrap v = v := by
  have e : IntKind.u16.wrap v = v % 65536 := by
    unfold IntKind.wrap
    simp [IntKind.bits, IntKind.signed]
  rw [e]; omega
theorem shr_at (v : Int) (n : Nat) (hn : n ≤ 64) : shr .i64 v (n : Int) = v / 2 ^ n := by
  unfold shr
  rw [Int.toNat_natCast, Nat.min_eq_left (by simpa [IntKind.bits] using hn)]
def u16 (o : Bool) (v : Int) : List Int := if o = true then [v / 256 % 256, v % 256] else [v % 256, v / 256 % 256]
def u32 (o : Bool) (v : Int) : List Int := if o = true then [v / 16777216 % 256, v / 65536 % 256, v / 256 % 256, v % 256] else [v % 256, v / 256 % 256, v / 65536 % 256, v / 16777216 % 256]
theorem u16_len (o : Bool) (v : Int) : (u16 o v).length = 2 := by unfold u16; cases o <;> rfl
theorem u32_len (o : Bool) (v : Int) : (u32 o v).length = 4 := by unfold u32; cases o <;> rfl
theorem s0 (v : Int) : shr .i64 v 0 = v := by
  have := shr_at v 0 (by omega)
  simpa using this
theorem s8 (v : Int) : shr .i64 v 8 = v / 256 := shr_at v 8 (by omega)
theorem s16 (v : Int) : shr .i64 v 16 = v / 65536 := shr_at v 16 (by omega)
theorem s24 (v : Int) : shr .i64 v 24 = v / 16777216 := shr_at v 24 (by omega)
theorem z0 : wrap64 0 = 0 := w64 (by decide) (by decide)
theorem z1 : wrap64 1 = 1 := w64 (by decide) (by decide)
theorem z2 : wrap64 2 = 2 := w64 (by decide) (by decide)
theorem z3 : wrap64 3 = 3 := w64 (by decide) (by decide)
theorem z4 : wrap64 4 = 4 := w64 (by decide) (by decide)
theorem z8 : wrap64 8 = 8 := w64 (by decide) (by decide)
theorem z16 : wrap64 16 = 16 := w64 (by decide) (by decide)
theorem z24 : wrap64 24 = 24 := w64 (by decide) (by decide)
theorem units2 (k : Nat) (v : Int) (o : Bool) : spec_l02Units.f (k + 3) v 2 (!o) = some (u16 o v) := by
  unfold spec_l02Units.f
  rw [if_pos (by decide), if_pos (by decide)]
  show spec_l02Units.l0 (k + 3) v 2 (!o) [0, 0] 0 = _
  cases o
  · simp [spec_l02Units.l0, z0, z1, z2, z8, s0, s8, u16]
  · simp [spec_l02Units.l0, z0, z1, z2, z8, s0, s8, u16]
theorem units4 (k : Nat) (v : Int) (o : Bool) : spec_l02Units.f (k + 5) v 4 (!o) = some (u32 o v) := by
  unfold spec_l02Units.f
  rw [if_pos (by decide), if_pos (by decide)]
  show spec_l02Units.l0 (k + 5) v 4 (!o) [0, 0, 0, 0] 0 = _
  cases o
  · simp [spec_l02Units.l0, z0, z1, z2, z3, z4, z8, z16, z24, s0, s8, s16, s24, u32]
  · simp [spec_l02Units.l0, z0, z1, z2, z3, z4, z8, z16, z24, s0, s8, s16, s24, u32]
theorem end16 (o : Bool) (l : List Int) (v : Int) (hl : l.length + 2 < 140737488355328) : encEnd16.f o l v = some (l ++ u16 o v) := by
  unfold encEnd16.f binary_bigEndian_AppendUint16.f binary_littleEndian_AppendUint16.f u16
  cases o <;> simp [hl]
theorem end32 (o : Bool) (l : List Int) (v : Int) (hl : l.length + 4 < 140737488355328) : encEnd32.f o l v = some (l ++ u32 o v) := by
  unfold encEnd32.f binary_bigEndian_AppendUint32.f binary_littleEndian_AppendUint32.f u32
  cases o <;> simp [hl]
/-- What one point comes to. -/
def chunk (a : Int) (o : Bool) (p : Int) : List Int := if a ≥ 4 then u32 o p else if p < 65536 then u16 o p else u16 o (55296 + (p - 65536) / 1024) ++ u16 o (56320 + (p - 65536) % 1024)
def flat (a : Int) (o : Bool) (l : List Int) : List Int := l.flatMap (chunk a o)
theorem pt_range (l : List Int) (hp : ∀ p ∈ l, isPt p = true) (n : Nat) (h : n < l.length) : 0 ≤ l[n] ∧ l[n] ≤ 1114111 := by
  have := (isPt_iff _).1 (hp l[n] (List.getElem_mem h))
  omega
theorem hi_eq (p : Int) (h : 65536 ≤ p ∧ p ≤ 1114111) : wrap64 (55296 + wrap64 (Int.tdiv (wrap64 (p - 65536)) 1024)) = 55296 + (p - 65536) / 1024 := by
  rw [w64 (x := p - 65536) (by omega) (by omega), Int.tdiv_eq_ediv_of_nonneg (by omega), w64 (x := (p - 65536) / 1024) (by omega) (by omega), w64 (by omega) (by omega)]
theorem lo_eq (p : Int) (h : 65536 ≤ p ∧ p ≤ 1114111) : wrap64 (56320 + Int.tmod (wrap64 (p - 65536)) 1024) = 56320 + (p - 65536) % 1024 := by
  rw [w64 (x := p - 65536) (by omega) (by omega), Int.tmod_eq_emod_of_nonneg (by omega), w64 (by omega) (by omega)]
theorem spec_l0 (a : Int) (ha : a ≠ 1) (o : Bool) (l : List Int) (hl : l.length ≤ 1048576) (hp : ∀ p ∈ l, isPt p = true) : ∀ (d n k : Nat) (x : List Int), n + d = l.length → d + 10 < k → x.length + 4 * d ≤ 100000000 →
    spec_l02Encode.l0 k a l x (!o) (n : Int) = some (strOfNums (x ++ flat a o (l.drop n))) := by
  intro d
  induction d with
  | zero =>
    intro n k x hn hk hx
    obtain ⟨k, rfl⟩ : ∃ m, k = m + 1 := ⟨k - 1, by omega⟩
    rw [spec_l02Encode.l0, if_neg (by omega), List.drop_eq_nil_of_le (by omega)]
    simp [flat]
  | succ d ih =>
    intro n k x hn hk hx
    obtain ⟨k, rfl⟩ : ∃ m, k = (m + 5) + 1 := ⟨k - 6, by omega⟩
    have hlt : n < l.length := by omega
    have r := pt_range l hp n hlt
    have hd : flat a o (l.drop n) = chunk a o l[n] ++ flat a o (l.drop (n + 1)) := by
      rw [List.drop_eq_getElem_cons hlt]
      rfl
    rw [spec_l02Encode.l0, if_pos (by omega), if_pos (by omega), if_neg ha, rd_nat l n hlt, w64s hlt (by omega), hd]
    unfold chunk
    by_cases c : a ≥ 4
    · rw [if_pos c, if_pos c, units4, Option.bind_some, u32_len, if_pos (by omega), ih (n + 1) _ _ (by omega) (by omega) (by rw [List.length_append, u32_len]; omega), List.append_assoc]
    · rw [if_neg c, if_neg c]
      by_cases q : l[n] < 65536
      · rw [if_pos q, if_pos q, show k + 5 = (k + 2) + 3 from rfl, units2, Option.bind_some, u16_len, if_pos (by omega), ih (n + 1) _ _ (by omega) (by omega) (by rw [List.length_append, u16_len]; omega), List.append_assoc]
      · rw [if_neg q, if_neg q, hi_eq _ ⟨by omega, r.2⟩, lo_eq _ ⟨by omega, r.2⟩, show k + 5 = (k + 2) + 3 from rfl, units2, Option.bind_some, u16_len, if_pos (by omega), Option.bind_some, units2, Option.bind_some, List.length_append, u16_len, u16_len, if_pos (by omega), ih (n + 1) _ _ (by omega) (by omega) (by rw [List.length_append, List.length_append, u16_len, u16_len]; omega)]
        simp only [List.append_assoc]
theorem impl_l0 (a : Int) (ha : a ≠ 1) (o : Bool) (l : List Int) (hl : l.length ≤ 1048576) (hp : ∀ p ∈ l, isPt p = true) : ∀ (d n k : Nat) (x : List Int), n + d = l.length → d < k → x.length + 4 * d ≤ 100000000 →
    impl_Encode.l0 k a x o l (l.length : Int) (n : Int) = (impl_short.f (strOfNums (x ++ flat a o (l.drop n)))).bind fun t => some t := by
  intro d
  induction d with
  | zero =>
    intro n k x hn hk hx
    obtain ⟨k, rfl⟩ : ∃ m, k = m + 1 := ⟨k - 1, by omega⟩
    rw [impl_Encode.l0, if_neg (by omega), List.drop_eq_nil_of_le (by omega)]
    simp [flat]
  | succ d ih =>
    intro n k x hn hk hx
    obtain ⟨k, rfl⟩ : ∃ m, k = m + 1 := ⟨k - 1, by omega⟩
    have hlt : n < l.length := by omega
    have r := pt_range l hp n hlt
    have hd : flat a o (l.drop n) = chunk a o l[n] ++ flat a o (l.drop (n + 1)) := by
      rw [List.drop_eq_getElem_cons hlt]
      rfl
    rw [impl_Encode.l0, if_pos (by omega), if_pos (by omega), if_pos (by omega), rd_nat l n hlt, w64s hlt (by omega), hd]
    unfold chunk
    by_cases c : a ≥ 4
    · rw [if_pos c, if_pos c, Int.emod_eq_of_lt (by omega) (by omega), end32 _ _ _ (by omega), Option.bind_some, ih (n + 1) _ _ (by omega) (by omega) (by rw [List.length_append, u32_len]; omega), List.append_assoc]
    · rw [if_neg c, if_neg c]
      by_cases q : l[n] < 65536
      · rw [if_neg (show ¬ l[n] > 65535 by omega), if_pos q, wrap16 _ ⟨r.1, q⟩, end16 _ _ _ (by omega), Option.bind_some, ih (n + 1) _ _ (by omega) (by omega) (by rw [List.length_append, u16_len]; omega), List.append_assoc]
      · rw [if_pos (show l[n] > 65535 by omega), if_neg q, hi_eq _ ⟨by omega, r.2⟩, lo_eq _ ⟨by omega, r.2⟩, wrap16 _ ⟨by omega, by omega⟩, wrap16 _ ⟨by omega, by omega⟩, end16 _ _ _ (by omega), Option.bind_some, end16 _ _ _ (by rw [List.length_append, u16_len]; omega), Option.bind_some, ih (n + 1) _ _ (by omega) (by omega) (by rw [List.length_append, List.length_append, u16_len, u16_len]; omega)]
        simp only [List.append_assoc]
/-- The first form: as a text is written. -/
theorem spec_l0one (o : Bool) (l : List Int) (hl : l.length ≤ 1048576) : ∀ (d n k : Nat) (x : List Int), n + d = l.length → d + 1 < k → x.length + 4 * d + 4 ≤ 100000000 →
    spec_l02Encode.l0 k 1 l x o (n : Int) = some (strOfNums (x ++ encAll (l.drop n))) := by
  intro d
  induction d with
  | zero =>
    intro n k x hn hk hx
    obtain ⟨k, rfl⟩ : ∃ m, k = m + 1 := ⟨k - 1, by omega⟩
    rw [spec_l02Encode.l0, if_neg (by omega), List.drop_eq_nil_of_le (by omega)]
    simp [encAll]
  | succ d ih =>
    intro n k x hn hk hx
    obtain ⟨k, rfl⟩ : ∃ m, k = (m + 1) + 1 := ⟨k - 2, by omega⟩
    have hlt : n < l.length := by omega
    have e2 := enc_len (fixPt l[n])
    rw [spec_l02Encode.l0, if_pos (by omega), if_pos (by omega), if_pos rfl, rd_nat l n hlt, specWrite_eq, w64s hlt (by omega)]
    simp only [Option.bind_some, strOfNums_size]
    have hr := fixPt_range l[n]
    rw [if_pos (by omega), bytesOf_strOfNums _ (enc_range (by omega) (by omega))]
    rw [ih (n + 1) (k + 1) _ (by omega) (by omega) (by rw [List.length_append]; omega), List.drop_eq_getElem_cons hlt]
    simp [encAll]
theorem small_eq (x : List Int) : ((spec_l01Small.f (strOfNums x)).bind fun t => some t) = ((impl_short.f (strOfNums x)).bind fun t => some t) := by
  unfold spec_l01Small.f impl_short.f impl_long.f
  simp only [Option.bind_some, decide_eq_true_eq]
theorem form_eq (a : Int) : spec_l02IsForm.f a = some (decide (1 ≤ a ∧ a ≤ 5)) ∧ impl_isForm.f a = some (decide (1 ≤ a ∧ a ≤ 5)) := by
  unfold spec_l02IsForm.f impl_isForm.f impl_in.f
  by_cases c : a ≥ 1
  · simp only [if_pos c, Option.bind_some]
    have : decide (a ≤ 5) = decide (1 ≤ a ∧ a ≤ 5) := by
      rw [Bool.eq_iff_iff, decide_eq_true_iff, decide_eq_true_iff]; omega
    rw [this]; exact ⟨rfl, rfl⟩
  · simp only [if_neg c, Option.bind_some]
    have : false = decide (1 ≤ a ∧ a ≤ 5) := by
      symm; rw [decide_eq_false_iff_not]; omega
    rw [this]; exact ⟨rfl, rfl⟩
theorem short_some (x : List Int) : ∃ t, ((impl_short.f (strOfNums x)).bind fun t => some t) = some t := by
  unfold impl_short.f impl_long.f
  simp only [Option.bind_some, decide_eq_true_eq]
  by_cases c : ((strOfNums x).size : Int) > 65536
  · rw [if_pos c]; exact ⟨_, rfl⟩
  · rw [if_neg c]; exact ⟨_, rfl⟩
theorem both (a : Int) (s : ByteArray) (hs : s.size ≤ 1048576) (k : Nat) (hk : 3000000 ≤ k) : ∃ t, spec_Encode.f k a s = some t ∧ impl_Encode.f k a s = some t := by
  obtain ⟨k, rfl⟩ : ∃ m, k = m + 1 := ⟨k - 1, by omega⟩
  have hn := pts_len s
  have hp := pts_pt s
  obtain ⟨f1, f2⟩ := form_eq a
  unfold spec_Encode.f impl_Encode.f impl_long.f
  rw [Option.bind_some]
  by_cases c : (s.size : Int) > 65536
  · rw [if_pos c, if_pos (decide_eq_true c), spec_Encode.j0, impl_Encode.j0, if_pos rfl, if_pos rfl]
    exact ⟨_, rfl, rfl⟩
  · rw [if_neg c, if_neg (fun h => c (of_decide_eq_true h)), f1, f2, Option.bind_some, Option.bind_some]
    by_cases v : 1 ≤ a ∧ a ≤ 5
    · rw [decide_eq_true v]
      show ∃ t, spec_Encode.j0 (k + 1) a s false = some t ∧ impl_Encode.j0 (k + 1) a s false = some t
      rw [spec_Encode.j0, impl_Encode.j0, if_neg (by decide), if_neg (by decide), specPoints_eq s k (by omega) hs, Option.bind_some]
      unfold spec_l02Encode.f
      rw [Option.bind_some]
      by_cases one : a = 1
      · subst one
        have w := write_eq (pts s) k (by omega) (by omega)
        have e : ∀ o, spec_l02Encode.j0 k 1 (pts s) [] o = some (strOfNums (encAll (pts s))) := by
          intro o
          rw [show k = (k - 1) + 1 by omega, spec_l02Encode.j0]
          have := spec_l0one o (pts s) (by omega) (pts s).length 0 (k - 1) [] (by omega) (by omega) (by simp; omega)
          simpa using this
        rw [if_neg (by decide), e, Option.bind_some, small_eq, if_pos rfl, points_eq s k (by omega) hs, Option.bind_some, w, Option.bind_some]
        obtain ⟨t, ht⟩ := short_some (encAll (pts s))
        exact ⟨t, ht, ht⟩
      · obtain ⟨o, ho, hb⟩ : ∃ o : Bool, impl_order.f a = some o ∧ (if a = 3 then spec_l02Encode.j0 k a (pts s) [] true else spec_l02Encode.j0 k a (pts s) [] (a == 5)) = spec_l02Encode.j0 k a (pts s) [] (!o) := by
          unfold impl_order.f
          obtain rfl | rfl | rfl | rfl : a = 2 ∨ a = 3 ∨ a = 4 ∨ a = 5 := by omega
          · exact ⟨true, rfl, rfl⟩
          · exact ⟨false, rfl, rfl⟩
          · exact ⟨true, rfl, rfl⟩
          · exact ⟨false, rfl, rfl⟩
        have e : spec_l02Encode.j0 k a (pts s) [] (!o) = some (strOfNums (flat a o (pts s))) := by
          rw [show k = (k - 1) + 1 by omega, spec_l02Encode.j0]
          have := spec_l0 a one o (pts s) (by omega) hp (pts s).length 0 (k - 1) [] (by omega) (by omega) (by simp; omega)
          simpa using this
        have i : impl_Encode.l0 k a [] o (pts s) ((pts s).length : Int) 0 = (impl_short.f (strOfNums (flat a o (pts s)))).bind fun t => some t := by
          have := impl_l0 a one o (pts s) (by omega) hp (pts s).length 0 k [] (by omega) (by omega) (by simp; omega)
          simpa using this
        rw [hb, e, Option.bind_some, small_eq, if_neg one, ho, Option.bind_some, points_eq s k (by omega) hs, Option.bind_some, i]
        obtain ⟨t, ht⟩ := short_some (flat a o (pts s))
        exact ⟨t, ht, ht⟩
    · rw [decide_eq_false v]
      show ∃ t, spec_Encode.j0 (k + 1) a s true = some t ∧ impl_Encode.j0 (k + 1) a s true = some t
      rw [spec_Encode.j0, impl_Encode.j0, if_pos rfl, if_pos rfl]
      exact ⟨_, rfl, rfl⟩
theorem FnExactEncode : laws_FnExactEncode.Pure := by
  intro a s _ _
  refine ⟨3000000, ?_⟩
  unfold laws_FnExactEncode.f
  by_cases c : (s.size : Int) > 1048576
  · rw [if_pos c]
  · obtain ⟨t, e1, e2⟩ := both a s (by omega) 3000000 (Nat.le_refl _)
    rw [if_neg c, e1, Option.bind_some, e2, Option.bind_some, if_pos rfl]

end Go.Proofs.YtdagmhbockeleaaDoor.Pure

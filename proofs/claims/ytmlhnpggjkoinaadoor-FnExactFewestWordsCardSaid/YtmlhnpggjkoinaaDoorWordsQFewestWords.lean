/- The words of a list: both texts pass them or blame them alike; words that pass rise. -/
import Derived.Test.YtmlhnpggjkoinaaDoorPFnExactFewestWordsx
import Derived.Test.YtmlhnpggjkoinaaDoorLib
import Derived.Test.YtmlhnpggjkoinaaDoorWriteFewestWords
import Derived.Test.YtmlhnpggjkoinaaDoorPointsFewestWords
import Derived.Test.YtmlhnpggjkoinaaDoorKindFewestWords
import Derived.Test.YtmlhnpggjkoinaaDoorValid
set_option linter.unusedSimpArgs false
set_option linter.unusedVariables false
namespace Go.Proofs.YtmlhnpggjkoinaaDoor.PFnExactFewestWords
open Go.RowKit Go.Proofs.YtmlhnpggjkoinaaDoorW.PrintWords Go.Proofs.YtmlhnpggjkoinaaDoorW.PrintLast Go.Proofs.YtmlhnpggjkoinaaDoorW.PrintMore Go.Proofs.YtmlhnpggjkoinaaDoor.Lib

theorem rdOf_nat (l : List ByteArray) (n : Nat) (h : n < l.length) : rdOf ByteArray.empty l (n : Int) = l[n] := by
  unfold rdOf
  rw [Int.toNat_natCast]
  simp [h]
theorem toStringS_l0 (l : List ByteArray) (hl : l.length ≤ 17592186044416) : ∀ (d n k : Nat) (x : List ByteArray), n + d = l.length → d < k → x.length = l.length → x.take n = l.take n →
    laws_toStringS.l0 k l x (n : Int) = some l := by
  intro d
  induction d with
  | zero =>
    intro n k x hn hk hx ht
    obtain ⟨k, rfl⟩ : ∃ m, k = m + 1 := ⟨k - 1, by omega⟩
    simp only [laws_toStringS.l0]
    rw [if_neg (by omega)]
    rw [List.take_of_length_le (by omega), List.take_of_length_le (by omega)] at ht
    rw [ht]
  | succ d ih =>
    intro n k x hn hk hx ht
    obtain ⟨k, rfl⟩ : ∃ m, k = m + 1 := ⟨k - 1, by omega⟩
    have hlt : n < l.length := by omega
    simp only [laws_toStringS.l0]
    rw [if_pos (by omega), if_pos (by omega), if_pos (by omega), rdOf_nat l n hlt, w64s hlt (by omega)]
    refine ih (n + 1) k _ (by omega) (by omega) (by simpa using hx) ?_
    rw [Int.toNat_natCast, List.take_succ_eq_append_getElem (by simp; omega), List.take_succ_eq_append_getElem hlt, List.take_set_of_le (Nat.le_refl n), ht]
    simp
theorem toStringS_eq (l : List ByteArray) (k : Nat) (hk : l.length + 1 ≤ k) (hl : l.length ≤ 17592186044416) : laws_toStringS.f k l = some l := by
  unfold laws_toStringS.f
  rw [if_pos (by omega), if_pos (by simpa using hl)]
  exact toStringS_l0 l hl l.length 0 k _ (by omega) (by omega) (by simp) (by simp)
theorem sz_l0 (l : List ByteArray) (hl : l.length ≤ 1048576) (hy : ∀ y ∈ l, y.size ≤ maxLen) : ∀ (d n k : Nat) (a : Int), n + d = l.length → d < k → 0 ≤ a → a ≤ 1048576 →
    ∃ r, laws_szStringS.l0 k l a (n : Int) = some r ∧ (0 ≤ r → ∀ (j : Nat) (h : j < l.length), n ≤ j → ((l[j].size : Nat) : Int) ≤ a) := by
  intro d
  induction d with
  | zero =>
    intro n k a hn hk h0 h1
    obtain ⟨k, rfl⟩ : ∃ m, k = m + 1 := ⟨k - 1, by omega⟩
    simp only [laws_szStringS.l0]
    rw [if_neg (by omega)]
    exact ⟨a, rfl, fun _ j h hj => by omega⟩
  | succ d ih =>
    intro n k a hn hk h0 h1
    obtain ⟨k, rfl⟩ : ∃ m, k = m + 1 := ⟨k - 1, by omega⟩
    have hlt : n < l.length := by omega
    have hz : l[n].size ≤ maxLen := hy _ (List.getElem_mem hlt)
    have hm : maxLen ≤ 9223372036854775807 := by decide
    simp only [laws_szStringS.l0]
    rw [if_pos (by omega), if_pos (by omega), rdOf_nat l n hlt, w64s hlt (by omega), w64 (x := a - ((l[n].size : Nat) : Int)) (by omega) (by omega)]
    by_cases c : a - ((l[n].size : Nat) : Int) < 0
    · rw [if_pos c]
      exact ⟨-1, rfl, fun h => by omega⟩
    · rw [if_neg c]
      obtain ⟨r, e, g⟩ := ih (n + 1) k (a - ((l[n].size : Nat) : Int)) (by omega) (by omega) (by omega) (by omega)
      refine ⟨r, e, fun hr j hj hnj => ?_⟩
      by_cases q : n = j
      · subst q; omega
      · have := g hr j hj (by omega); omega
theorem sz_eq (l : List ByteArray) (hm : l.length ≤ maxLen) (hy : ∀ y ∈ l, y.size ≤ maxLen) (k : Nat) (hk : 1048577 < k) : ∃ r, laws_szStringS.f k l 1048576 = some r ∧ (¬ r < 0 → l.length ≤ 1048576 ∧ ∀ y ∈ l, y.size ≤ 1048576) := by
  have hm2 : maxLen ≤ 9223372036854775807 := by decide
  unfold laws_szStringS.f
  rw [w64 (x := 1048576 - (l.length : Int)) (by omega) (by omega)]
  by_cases c : 1048576 - (l.length : Int) < 0
  · rw [if_pos c]
    exact ⟨-1, rfl, fun h => by omega⟩
  · rw [if_neg c]
    obtain ⟨r, e, g⟩ := sz_l0 l (by omega) hy l.length 0 k (1048576 - (l.length : Int)) (by omega) (by omega) (by omega) (by omega)
    refine ⟨r, e, fun hr => ⟨by omega, fun y hyl => ?_⟩⟩
    obtain ⟨j, hj, rfl⟩ := List.getElem_of_mem hyl
    have := g (by omega) j hj (by omega)
    omega
theorem scriptS (k : Nat) (hk : 42 ≤ k) (p : Int) (hp : isPt p = true) : spec_l01Script.f k p = some (kindOf p).2 ∧ impl_Script.f k p = some (kindOf p).2 := by
  have hr := (isPt_iff p).1 hp
  unfold spec_l01Script.f impl_Script.f
  rw [known_eq k hk p ⟨by omega, by omega⟩, kind_eq k (by omega) p ⟨by omega, by omega⟩]
  exact ⟨rfl, rfl⟩
/-- The points of one word: both pass it, or both blame it. -/
theorem inner (l : List ByteArray) (n L : Int) (m : List Int) (hm : ∀ p ∈ m, isPt p = true) (hl : m.length ≤ 60) : ∀ (e j K : Nat), j + e = m.length → 42 ≤ K →
    (spec_WordsFault.l1 (K + e + 1) l n m (j : Int) = spec_WordsFault.l0 K l (wrap64 (n + 1)) ∧ impl_WordsFault.l1 (K + e + 1) l l L n m (m.length : Int) (j : Int) = impl_WordsFault.l0 K l l L (wrap64 (n + 1))) ∨
    (spec_WordsFault.l1 (K + e + 1) l n m (j : Int) = some 1 ∧ impl_WordsFault.l1 (K + e + 1) l l L n m (m.length : Int) (j : Int) = some 1) := by
  intro e
  induction e with
  | zero =>
    intro j K hj hK
    refine .inl ⟨?_, ?_⟩
    · rw [show K + 0 + 1 = K + 1 from rfl, spec_WordsFault.l1, if_neg (by omega)]
    · rw [show K + 0 + 1 = K + 1 from rfl, impl_WordsFault.l1, if_neg (by omega)]
  | succ e ih =>
    intro j K hj hK
    have hlt : j < m.length := by omega
    obtain ⟨a, b⟩ := scriptS (K + e + 1) (by omega) m[j] (hm _ (List.getElem_mem hlt))
    have s1 : spec_WordsFault.l1 (K + (e + 1) + 1) l n m (j : Int) = if (kindOf m[j]).2 = 8 then spec_WordsFault.l1 (K + e + 1) l n m ((j + 1 : Nat) : Int) else some 1 := by
      rw [show K + (e + 1) + 1 = (K + e + 1) + 1 from rfl, spec_WordsFault.l1, if_pos (by omega), if_pos (by omega), rd_nat m j hlt, a, Option.bind_some, w64s hlt (by omega)]
    have i1 : impl_WordsFault.l1 (K + (e + 1) + 1) l l L n m (m.length : Int) (j : Int) = if (kindOf m[j]).2 = 8 then impl_WordsFault.l1 (K + e + 1) l l L n m (m.length : Int) ((j + 1 : Nat) : Int) else some 1 := by
      rw [show K + (e + 1) + 1 = (K + e + 1) + 1 from rfl, impl_WordsFault.l1, if_pos (by omega), if_pos (by omega), if_pos (by omega), rd_nat m j hlt, b, Option.bind_some, w64s hlt (by omega)]
    by_cases c : (kindOf m[j]).2 = 8
    · rw [s1, i1, if_pos c, if_pos c]
      exact ih (j + 1) K (by omega) hK
    · rw [s1, i1, if_neg c, if_neg c]
      exact .inr ⟨rfl, rfl⟩
theorem text_if {α : Type} (s : ByteArray) (a b : α) : (if (strOfNums (encAll (pts s))).toList = s.toList then a else b) = if Go.Lib.validD s.data.toList = true then a else b := by
  by_cases v : Go.Lib.validD s.data.toList = true
  · rw [if_pos v, if_pos ((text_valid s).2 v)]
  · rw [if_neg v, if_neg (fun h => v ((text_valid s).1 h))]
/-- One word: both go into the same gate. -/
theorem gate (l : List ByteArray) (hl : l.length ≤ 1000) (hy : ∀ y ∈ l, y.size ≤ 1048576) (n : Nat) (hn : n < l.length) (K : Nat) (hK : 2000000 ≤ K) :
    ∃ B, (B = false → (pts l[n]).length ≤ 60 ∧ (∀ (m : Nat) (_ : m + 1 = n), Op.bytesLess (rdOf ByteArray.empty l (m : Int)).toList l[n].toList = true)) ∧ spec_WordsFault.l0 (K + 1) l (n : Int) = spec_WordsFault.j1 K l (n : Int) (pts l[n]) B ∧ impl_WordsFault.l0 (K + 1) l l (l.length : Int) (n : Int) = impl_WordsFault.j1 K l (pts l[n]) l (l.length : Int) (n : Int) B := by
  have hz := hy _ (List.getElem_mem hn)
  have hp := pts_len l[n]
  have ev : utf8_ValidString.f l[n] = some (Go.Lib.validD l[n].data.toList) := by
    unfold utf8_ValidString.f
    rw [if_pos (by omega)]
  rw [spec_WordsFault.l0, if_pos (show (n : Int) < (l.length : Int) by omega), if_pos (show (0 : Int) ≤ (n : Int) by omega), rdOf_nat l n hn, specPoints_eq l[n] K (by omega) hz, Option.bind_some, specText_eq (pts l[n]) K (by omega) (by omega), Option.bind_some, text_if]
  rw [impl_WordsFault.l0, if_pos (show (n : Int) < (l.length : Int) by omega), if_pos (show (0 : Int) ≤ (n : Int) by omega), if_pos (show (n : Int) < (l.length : Int) by omega), rdOf_nat l n hn, points_eq l[n] K (by omega) hz, Option.bind_some]
  unfold impl_well.f
  rw [ev, Option.bind_some, Option.bind_some]
  by_cases v : Go.Lib.validD l[n].data.toList = true
  · rw [if_pos v, if_pos v]
    by_cases c1 : ((pts l[n]).length : Int) < 1
    · rw [if_pos c1, if_pos c1]
      exact ⟨true, (fun h => by cases h), rfl, rfl⟩
    · rw [if_neg c1, if_neg c1]
      by_cases c2 : ((pts l[n]).length : Int) > 60
      · rw [if_pos c2, if_pos c2]
        exact ⟨true, (fun h => by cases h), rfl, rfl⟩
      · rw [if_neg c2, if_neg c2]
        by_cases c3 : (n : Int) > 0
        · have w1 : wrap64 ((n : Int) - 1) = (n : Int) - 1 := w64 (by omega) (by omega)
          rw [if_pos c3, if_pos c3, w1, if_pos (show 0 ≤ (n : Int) - 1 by omega), if_pos (show 0 ≤ (n : Int) - 1 by omega), if_pos (show (n : Int) - 1 < (l.length : Int) by omega), if_pos (show (n : Int) - 1 < (l.length : Int) by omega)]
          refine ⟨_, (fun hb => ⟨by omega, fun m hm => ?_⟩), rfl, rfl⟩
          have em : (n : Int) - 1 = (m : Int) := by omega
          rw [em] at hb
          simpa using hb
        · rw [if_neg c3, if_neg c3]
          exact ⟨false, (fun _ => ⟨by omega, fun m hm => by omega⟩), rfl, rfl⟩
  · rw [if_neg v, if_neg v]
    refine ⟨true, (fun h => by cases h), ?_, rfl⟩
    by_cases c1 : ((pts l[n]).length : Int) < 1
    · rw [if_pos c1]
    · rw [if_neg c1]
      by_cases c2 : ((pts l[n]).length : Int) > 60
      · rw [if_pos c2]
      · rw [if_neg c2]
theorem outer (l : List ByteArray) (hl : l.length ≤ 1000) (hy : ∀ y ∈ l, y.size ≤ 1048576) : ∀ (d n K : Nat), n + d = l.length → 2000100 + 100 * d ≤ K →
    ∃ r, spec_WordsFault.l0 K l (n : Int) = some r ∧ impl_WordsFault.l0 K l l (l.length : Int) (n : Int) = some r ∧ (r = 0 → ∀ (i : Nat) (hi : i + 1 < l.length), n ≤ i + 1 → Op.bytesLess l[i].toList l[i + 1].toList = true) := by
  intro d
  induction d with
  | zero =>
    intro n K hn hK
    obtain ⟨K, rfl⟩ : ∃ m, K = m + 1 := ⟨K - 1, by omega⟩
    rw [spec_WordsFault.l0, impl_WordsFault.l0, if_neg (by omega), if_neg (by omega)]
    exact ⟨0, rfl, rfl, fun _ i hi h => by omega⟩
  | succ d ih =>
    intro n K hn hK
    have hlt : n < l.length := by omega
    obtain ⟨B, hB, e1, e2⟩ := gate l hl hy n hlt (K - 1) (by omega)
    rw [show K = (K - 1) + 1 by omega, e1, e2]
    cases B with
    | true =>
      rw [show K - 1 = (K - 2) + 1 by omega, spec_WordsFault.j1, impl_WordsFault.j1, if_pos rfl, if_pos rfl]
      exact ⟨1, rfl, rfl, fun h => absurd h (by decide)⟩
    | false =>
      obtain ⟨hb, hbl⟩ := hB rfl
      rw [show K - 1 = (K - 2) + 1 by omega, spec_WordsFault.j1, impl_WordsFault.j1, if_neg (by decide), if_neg (by decide)]
      have g := inner l (n : Int) (l.length : Int) (pts l[n]) (pts_pt l[n]) hb (pts l[n]).length 0 (K - 2 - (pts l[n]).length - 1) (by omega) (by omega)
      rw [show K - 2 - (pts l[n]).length - 1 + (pts l[n]).length + 1 = K - 2 by omega, w64s hlt (by omega)] at g
      rcases g with ⟨g1, g2⟩ | ⟨g1, g2⟩
      · obtain ⟨r, h1, h2, h3⟩ := ih (n + 1) (K - 2 - (pts l[n]).length - 1) (by omega) (by omega)
        refine ⟨r, g1.trans h1, g2.trans h2, fun hr i hi hni => ?_⟩
        by_cases q : n = i + 1
        · have := hbl i q.symm
          rw [rdOf_nat l i (by omega)] at this
          subst q
          exact this
        · exact h3 hr i hi (by omega)
      · exact ⟨1, g1, g2, fun h => absurd h (by decide)⟩

/-- The whole look over the words. -/
theorem fault_eq (l : List ByteArray) (hy : ∀ y ∈ l, y.size ≤ 1048576) (k : Nat) (hk : 2200200 ≤ k) :
    ∃ r, spec_WordsFault.f k l = some r ∧ impl_WordsFault.f k l = some r ∧ (r = 0 → l.length ≤ 1000 ∧ ∀ (i : Nat) (hi : i + 1 < l.length), Op.bytesLess l[i].toList l[i + 1].toList = true) := by
  unfold spec_WordsFault.f impl_WordsFault.f
  by_cases c2 : (l.length : Int) > 1000
  · rw [if_pos c2, if_pos c2]; exact ⟨1, rfl, rfl, fun h => absurd h (by decide)⟩
  · rw [if_neg c2, if_neg c2]
    obtain ⟨r, h1, h2, h3⟩ := outer l (by omega) hy l.length 0 k (by omega) (by omega)
    exact ⟨r, h1, h2, fun hr => ⟨by omega, fun i hi => h3 hr i hi (by omega)⟩⟩

end Go.Proofs.YtmlhnpggjkoinaaDoor.PFnExactFewestWords

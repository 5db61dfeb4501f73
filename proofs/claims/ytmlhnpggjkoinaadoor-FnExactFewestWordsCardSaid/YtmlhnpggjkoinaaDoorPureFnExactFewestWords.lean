/- The program's FewestWords returns what the reference's returns. For every input: the law answers true; each argument reads afterwards as it read before. -/
import Derived.Test.YtmlhnpggjkoinaaDoorPFnExactFewestWordsx
import Derived.Test.YtmlhnpggjkoinaaDoorWordsQFewestWords
import Derived.Test.YtmlhnpggjkoinaaDoorRowEFewestWords
import Derived.Test.YtmlhnpggjkoinaaDoorOutStringSFewestWords
import Derived.Test.YtmlhnpggjkoinaaDoorWordO
set_option linter.unusedSimpArgs false
set_option linter.unusedVariables false
namespace Go.Proofs.YtmlhnpggjkoinaaDoor.Pure
open Go.RowKit Go.Proofs.YtmlhnpggjkoinaaDoor.PFnExactFewestWords Go.Proofs.YtmlhnpggjkoinaaDoorW.PrintWords Go.Proofs.YtmlhnpggjkoinaaDoorW.PrintLast Go.Proofs.YtmlhnpggjkoinaaDoorW.PrintMore Go.Proofs.YtmlhnpggjkoinaaDoor.Lib Go.Proofs.YtmlhnpggjkoinaaDoor.WordO

theorem wAdd {a b : Nat} (h : a + b ≤ 4000000) : wrap64 ((a : Int) + (b : Int)) = ((a + b : Nat) : Int) := by
  unfold wrap64; omega
theorem wPred {a : Nat} (h0 : 1 ≤ a) (h : a ≤ 4000000) : wrap64 ((a : Int) - 1) = ((a - 1 : Nat) : Int) := by
  unfold wrap64; omega
theorem wDown {a : Nat} (h : a ≤ 4000000) : wrap64 ((a : Int) - 1) = (a : Int) - 1 := by
  unfold wrap64; omega
theorem wSucc {a : Nat} (h : a ≤ 4000000) : wrap64 ((a : Int) + 1) = ((a + 1 : Nat) : Int) := by
  unfold wrap64; omega
theorem wTo {a : Nat} {t : Int} (h0 : 0 ≤ t) (h : (a : Int) + t ≤ 4000000) : wrap64 ((a : Int) + t) = ((a + t.toNat : Nat) : Int) := by
  unfold wrap64; omega
/-- A text is one of the words. -/
abbrev InW (l : List ByteArray) (t : ByteArray) : Prop := MapS.kb t ∈ MapS.ks l
theorem kb_mem (l : List ByteArray) (t : ByteArray) : InW l t ↔ t ∈ l := by
  constructor
  · intro h
    obtain ⟨y, hy, e⟩ := List.mem_map.1 h
    have : y = t := ByteArray.ext (Array.ext' e)
    rw [← this]
    exact hy
  · exact fun h => List.mem_map.2 ⟨t, h, rfl⟩
/-! the reference's search finds a word just if it is one of them -/
theorem half (a b : Nat) (h : a + b ≤ 4000) : wrap64 (Int.tdiv (wrap64 ((a : Int) + (b : Int))) 2) = (((a + b) / 2 : Nat) : Int) := by
  rw [w64 (x := (a : Int) + (b : Int)) (by omega) (by omega), Int.tdiv_eq_ediv_of_nonneg (by omega), w64 (by omega) (by omega)]
  omega
theorem word_l0 (l : List ByteArray) (hr : Rise l) (hl : l.length ≤ 1000) (t : ByteArray) : ∀ (d lo hi k : Nat), hi - lo < 2 ^ d → d < k → lo ≤ hi → hi ≤ l.length →
    (∀ (j : Nat) (hj : j < l.length), j < lo → Op.bytesLess l[j].toList t.toList = true) → (∀ (j : Nat) (hj : j < l.length), hi ≤ j → Op.bytesLess l[j].toList t.toList = false) →
    spec_l08Word.l0 k l t (lo : Int) (hi : Int) = some (decide (InW l t)) := by
  have fin : ∀ (lo k : Nat), lo ≤ l.length → (∀ (j : Nat) (hj : j < l.length), j < lo → Op.bytesLess l[j].toList t.toList = true) → (∀ (j : Nat) (hj : j < l.length), lo ≤ j → Op.bytesLess l[j].toList t.toList = false) →
      spec_l08Word.l0 (k + 1) l t (lo : Int) (lo : Int) = some (decide (InW l t)) := by
    intro lo k hlo h1 h2
    have hp := place l hr t lo hlo h1 h2
    rw [spec_l08Word.l0, if_neg (by omega)]
    by_cases c : lo < l.length
    · rw [if_pos (by omega), if_pos (by omega), rdOf_nat l lo c]
      congr 1
      rw [Bool.eq_iff_iff, beq_iff_eq, decide_eq_true_iff, kb_mem, hp]
      exact ⟨fun h => ⟨c, h⟩, fun ⟨_, h⟩ => h⟩
    · rw [if_neg (by omega)]
      congr 1
      symm
      rw [decide_eq_false_iff_not, kb_mem, hp]
      exact fun ⟨h, _⟩ => c h
  intro d
  induction d with
  | zero =>
    intro lo hi k hd hk hlh hhl h1 h2
    obtain ⟨k, rfl⟩ : ∃ m, k = m + 1 := ⟨k - 1, by omega⟩
    obtain rfl : lo = hi := by omega
    exact fin lo k hhl h1 h2
  | succ d ih =>
    intro lo hi k hd hk hlh hhl h1 h2
    obtain ⟨k, rfl⟩ : ∃ m, k = m + 1 := ⟨k - 1, by omega⟩
    by_cases c : lo = hi
    · subst c
      exact fin lo k hhl h1 h2
    · have hp : (2 : Nat) ^ (d + 1) = 2 * 2 ^ d := by rw [Nat.pow_succ, Nat.mul_comm]
      obtain ⟨m, hm⟩ : ∃ m, m = (lo + hi) / 2 := ⟨_, rfl⟩
      have hml : m < l.length := by omega
      rw [spec_l08Word.l0, half lo hi (by omega), ← hm, if_pos (by omega), if_pos (by omega), if_pos (by omega), rdOf_nat l m hml]
      by_cases q : Op.bytesLess l[m].toList t.toList = true
      · rw [if_pos q, w64s hml (by omega)]
        refine ih (m + 1) hi k (by omega) (by omega) (by omega) hhl (fun j hj hlt => ?_) h2
        rcases Nat.lt_or_ge j m with x | x
        · exact bl_trans _ _ _ (hr j m hj hml x) q
        · obtain rfl : j = m := by omega
          exact q
      · rw [if_neg q]
        refine ih lo m k (by omega) (by omega) (by omega) (by omega) h1 (fun j hj hlt => ?_)
        rcases Nat.lt_or_ge m j with x | x
        · rw [← Bool.not_eq_true]
          exact fun h => q (bl_trans _ _ _ (hr m j hml hj x) h)
        · obtain rfl : j = m := by omega
          simpa using q
theorem word_eq (l : List ByteArray) (hr : Rise l) (hl : l.length ≤ 1000) (t : ByteArray) (k : Nat) (hk : 11 ≤ k) : spec_l08Word.f k l t = some (decide (InW l t)) := by
  unfold spec_l08Word.f
  exact word_l0 l hr hl t 10 0 l.length k (by omega) (by omega) (by omega) (by omega) (fun j hj h => by omega) (fun j hj h => by omega)
/-- Where the points of a text lie: in both texts' words. -/
structure Geo (s : ByteArray) (n : Nat) (PL : List Int) (A : List S74) : Prop where
  lA : A.length = n
  lP : PL.length = n + 1
  f1 : ∀ i : Nat, i < n → (rd_T74 A (i : Int)).f1 = rd PL (i : Int)
  f2 : ∀ i : Nat, i < n → (rd_T74 A (i : Int)).f2 = rd PL ((i + 1 : Nat) : Int)
  bd : ∀ i j : Nat, i ≤ j → j ≤ n → 0 ≤ rd PL (i : Int) ∧ rd PL (i : Int) ≤ rd PL (j : Int) ∧ rd PL (j : Int) ≤ (s.size : Int)
theorem geo_of (s : ByteArray) (hs : s.size ≤ 1048576) : ∃ n P PL A, Geo s n PL A ∧ n ≤ 1048576 ∧ P.length = n ∧ ∀ k, s.size + 13 ≤ k → spec_l07RowOf.f k s = some (P, PL) ∧ impl_read.f k s = some A :=
  ⟨(pts s).length, pts s, places s, (ats s).map asAt, ⟨by simp [pts], places_len s, at_f1 s, at_f2 s, places_bd s⟩, Nat.le_trans (pts_len s) hs, rfl, fun k hk => ⟨row_eq s k hk hs, read_eq s k (by omega) hs⟩⟩
/-! the two tables of the fewest -/
theorem rd_set (xs : List Int) (i j : Nat) (v : Int) (h : i < xs.length) : rd (xs.set i v) (j : Int) = if i = j then v else rd xs (j : Int) := by
  unfold rd
  rw [Int.toNat_natCast, List.getD_eq_getElem?_getD, List.getD_eq_getElem?_getD, List.getElem?_set]
  by_cases c : i = j
  · subst c; simp [h]
  · simp [c]
theorem rd_set_same (xs : List Int) (i : Nat) (v : Int) (h : i < xs.length) : rd (xs.set i v) (i : Int) = v := by rw [rd_set xs i i v h, if_pos rfl]
structure Inn (n i kk : Nat) (B T C F : List Int) : Prop where
  lB : B.length = n + 1
  lT : T.length = n
  lC : C.length = n + 1
  lF : F.length = n + 1
  up : ∀ j : Nat, i < j → j ≤ n → rd B (j : Int) = rd C (j : Int) ∧ 0 ≤ rd C (j : Int) ∧ rd C (j : Int) ≤ 3 * ((n : Int) - j)
  tk : ∀ j : Nat, i < j → j < n → rd T (j : Int) = rd F (j : Int) ∧ 1 ≤ rd F (j : Int) ∧ (j : Int) + rd F (j : Int) ≤ n
  lo : ∀ j : Nat, j < i → rd F (j : Int) = 0
  own : (kk = 1 ∧ rd B (i : Int) = 1099511627776 ∧ rd F (i : Int) = 0) ∨ (1 < kk ∧ rd B (i : Int) = rd C (i : Int) ∧ 0 ≤ rd C (i : Int) ∧ rd C (i : Int) ≤ 3 * ((n : Int) - i) ∧ rd T (i : Int) = rd F (i : Int) ∧ 1 ≤ rd F (i : Int) ∧ (i : Int) + rd F (i : Int) ≤ n)
/-- A better cut is put down on both sides. -/
theorem Inn.put {n i kk : Nat} {B T C F : List Int} (h : Inn n i kk B T C F) (hi : i < n) (h1 : 1 ≤ kk) (hk : i + kk ≤ n) (c : Int) (hc : 2 ≤ c ∧ c ≤ 3) :
    Inn n i (kk + 1) (B.set i (rd C ((i + kk : Nat) : Int) + c)) (T.set i (kk : Int)) (C.set i (rd C ((i + kk : Nat) : Int) + c)) (F.set i (kk : Int)) := by
  have u := h.up (i + kk) (by omega) hk
  obtain ⟨v, hv⟩ : ∃ v, rd C ((i + kk : Nat) : Int) = v := ⟨_, rfl⟩
  rw [hv] at u ⊢
  have hB : i < B.length := by rw [h.lB]; omega
  have hT : i < T.length := by rw [h.lT]; omega
  have hC : i < C.length := by rw [h.lC]; omega
  have hF : i < F.length := by rw [h.lF]; omega
  refine ⟨by rw [List.length_set]; exact h.lB, by rw [List.length_set]; exact h.lT, by rw [List.length_set]; exact h.lC, by rw [List.length_set]; exact h.lF, fun j hj hn => ?_, fun j hj hn => ?_, fun j hj => ?_, .inr ⟨by omega, ?_⟩⟩
  · rw [rd_set _ _ _ _ hB, rd_set _ _ _ _ hC, if_neg (by omega), if_neg (by omega)]
    exact h.up j hj hn
  · rw [rd_set _ _ _ _ hT, rd_set _ _ _ _ hF, if_neg (by omega), if_neg (by omega)]
    exact h.tk j hj hn
  · rw [rd_set _ _ _ _ hF, if_neg (by omega)]
    exact h.lo j hj
  · rw [rd_set_same _ _ _ hB, rd_set_same _ _ _ hC, rd_set_same _ _ _ hT, rd_set_same _ _ _ hF]
    omega
theorem Inn.skip {n i kk : Nat} {B T C F : List Int} (h : Inn n i kk B T C F) (hk : 1 < kk) : Inn n i (kk + 1) B T C F := by
  refine ⟨h.lB, h.lT, h.lC, h.lF, h.up, h.tk, h.lo, ?_⟩
  rcases h.own with ⟨h1, _⟩ | ⟨_, h2⟩
  · omega
  · exact .inr ⟨by omega, h2⟩
/-- One length at one place, in the reference's words. -/
theorem spec_step (l : List ByteArray) (hw : ∀ E K, 11 ≤ K → spec_l08Word.f K l E = some (decide (InW l E))) (K : Nat) (hK : 20 ≤ K) (s : ByteArray) (n i kk m kk' v2 v3 : Int) (C F P PL : List Int) (h60 : kk ≤ 60) (hm : wrap64 (i + kk) = m) (hmn : m ≤ n) (h0 : 0 ≤ m) (hmC : m < (C.length : Int)) (hi0 : 0 ≤ i) (hiP : i < (PL.length : Int)) (hmP : m < (PL.length : Int))
    (b1 : 0 ≤ rd PL i) (b2 : rd PL i ≤ rd PL m) (b3 : rd PL m ≤ (s.size : Int)) (hiF : i < (F.length : Int)) (hiC : i < (C.length : Int)) (hk' : wrap64 (kk + 1) = kk') (hv2 : wrap64 (rd C m + 2) = v2) (hv3 : wrap64 (rd C m + 3) = v3) (E : ByteArray) (hE : s.extract (rd PL i).toNat (rd PL m).toNat = E) :
    spec_l08Fewest.l1 (K + 2) l s n C F i kk P PL = if InW l E then (if rd F i = 0 ∨ v2 ≤ rd C i then spec_l08Fewest.l1 K l s n (C.set i.toNat v2) (F.set i.toNat kk) i kk' P PL else spec_l08Fewest.l1 K l s n C F i kk' P PL)
      else if kk > 1 then spec_l08Fewest.l1 K l s n C F i kk' P PL
      else (if rd F i = 0 ∨ v3 ≤ rd C i then spec_l08Fewest.l1 K l s n (C.set i.toNat v3) (F.set i.toNat kk) i kk' P PL else spec_l08Fewest.l1 K l s n C F i kk' P PL) := by
  have hwE := hw E K (by omega)
  rw [show K + 2 = (K + 1) + 1 from rfl, spec_l08Fewest.l1, if_pos h60, hm, decide_eq_true hmn, spec_l08Fewest.j2, if_pos rfl, hm, if_pos h0, if_pos hmC, if_pos hi0, if_pos hiP, if_pos hmP, if_pos b1, if_pos b2, if_pos b3, hE, hwE, Option.bind_some, hk', hv2, hv3]
  by_cases c : InW l E
  · rw [if_pos (decide_eq_true c), if_pos c, if_pos hiF]
    by_cases d : rd F i = 0
    · rw [if_pos d, if_pos hiC, if_pos (.inl d)]
    · rw [if_neg d, if_pos hiC]
      by_cases e : v2 ≤ rd C i
      · rw [if_pos e, if_pos (.inr e)]
      · rw [if_neg e, if_neg (fun x => x.elim d e)]
  · rw [if_neg (fun x => c (of_decide_eq_true x)), if_neg c]
    by_cases g : kk > 1
    · rw [if_pos g, if_pos g]
    · rw [if_neg g, if_neg g, if_pos hiF]
      by_cases d : rd F i = 0
      · rw [if_pos d, if_pos hiC, if_pos (.inl d)]
      · rw [if_neg d, if_pos hiC]
        by_cases e : v3 ≤ rd C i
        · rw [if_pos e, if_pos (.inr e)]
        · rw [if_neg e, if_neg (fun x => x.elim d e)]
/-- One length at one place, in the program's words. -/
theorem impl_step (l : List ByteArray) (K : Nat) (s : ByteArray) (A : List S74) (n i kk m m' kk' v2 v3 a b : Int) (B T : List Int) (h60 : kk ≤ 60) (hm : wrap64 (i + kk) = m) (hmn : m ≤ n) (h0 : 0 ≤ m) (hmB : m < (B.length : Int)) (hi0 : 0 ≤ i) (hiA : i < (A.length : Int)) (hm' : wrap64 (m - 1) = m') (h0' : 0 ≤ m') (hmA : m' < (A.length : Int))
    (f1 : (rd_T74 A i).f1 = a) (f2 : (rd_T74 A m').f2 = b) (b1 : 0 ≤ a) (b2 : a ≤ b) (b3 : b ≤ (s.size : Int)) (hiT : i < (T.length : Int)) (hiB : i < (B.length : Int)) (hk' : wrap64 (kk + 1) = kk') (hv2 : wrap64 (2 + rd B m) = v2) (hv3 : wrap64 (3 + rd B m) = v3) (E : ByteArray) (hE : s.extract a.toNat b.toNat = E) :
    impl_fewest.l2 l (K + 2) s A n B T i kk = if InW l E then (if v2 ≤ rd B i then impl_fewest.l2 l K s A n (B.set i.toNat v2) (T.set i.toNat kk) i kk' else impl_fewest.l2 l K s A n B T i kk')
      else if kk > 1 then impl_fewest.l2 l K s A n B T i kk'
      else (if v3 ≤ rd B i then impl_fewest.l2 l K s A n (B.set i.toNat v3) (T.set i.toNat kk) i kk' else impl_fewest.l2 l K s A n B T i kk') := by
  rw [show K + 2 = (K + 1) + 1 from rfl, impl_fewest.l2, if_pos h60, hm, decide_eq_true hmn, impl_fewest.j3, if_pos rfl, hm, hm', if_pos hi0, if_pos hiA, if_pos h0', if_pos hmA, f1, f2, if_pos b1, if_pos b2, if_pos b3, hE, hk', hv2, hv3]
  by_cases c : InW l E
  · rw [if_pos c, if_pos c, if_pos h0, if_pos hmB, if_pos hiB]
    by_cases e : v2 ≤ rd B i
    · rw [if_pos e, if_pos e, if_pos hiT]
    · rw [if_neg e, if_neg e]
  · rw [if_neg c, if_neg c]
    by_cases g : kk > 1
    · rw [if_pos g, if_pos g]
    · rw [if_neg g, if_neg g, if_pos h0, if_pos hmB, if_pos hiB]
      by_cases e : v3 ≤ rd B i
      · rw [if_pos e, if_pos e, if_pos hiT]
      · rw [if_neg e, if_neg e]
set_option maxHeartbeats 2000000 in
theorem inner_step (l : List ByteArray) (hr : Rise l) (hl : l.length ≤ 1000) (s : ByteArray) (n : Nat) (P PL : List Int) (A : List S74) (G : Geo s n PL A) (hnl : n ≤ 1048576) (i kk : Nat) (B T C F : List Int) (h : Inn n i kk B T C F) (hi : i < n) (h1 : 1 ≤ kk) (h60 : kk ≤ 60) (hk : i + kk ≤ n) :
    ∃ B' T' C' F', Inn n i (kk + 1) B' T' C' F' ∧ ∀ K, 20 ≤ K →
      spec_l08Fewest.l1 (K + 2) l s (n : Int) C F (i : Int) (kk : Int) P PL = spec_l08Fewest.l1 K l s (n : Int) C' F' (i : Int) ((kk + 1 : Nat) : Int) P PL ∧
      impl_fewest.l2 l (K + 2) s A (n : Int) B T (i : Int) (kk : Int) = impl_fewest.l2 l K s A (n : Int) B' T' (i : Int) ((kk + 1 : Nat) : Int) := by
  have hpl := G.lP
  have hal := G.lA
  have b1 := G.bd i (i + kk) (by omega) (by omega)
  have u := h.up (i + kk) (by omega) hk
  have f1 := G.f1 i (by omega)
  have f2 := G.f2 (i + kk - 1) (by omega)
  rw [show i + kk - 1 + 1 = i + kk by omega] at f2
  have lB := h.lB; have lT := h.lT; have lC := h.lC; have lF := h.lF
  obtain ⟨E, hE⟩ : ∃ E, s.extract (rd PL (i : Int)).toNat (rd PL ((i + kk : Nat) : Int)).toNat = E := ⟨_, rfl⟩
  have spec := fun K hK => spec_step l (fun E K hK => word_eq l hr hl E K hK) K hK s (n : Int) (i : Int) (kk : Int) ((i + kk : Nat) : Int) ((kk + 1 : Nat) : Int) (rd C ((i + kk : Nat) : Int) + 2) (rd C ((i + kk : Nat) : Int) + 3) C F P PL (by omega) (wAdd (by omega)) (by omega) (by omega) (by omega) (by omega) (by omega) (by omega) b1.1 b1.2.1 b1.2.2 (by omega) (by omega) (wSucc (by omega)) (w64 (by omega) (by omega)) (w64 (by omega) (by omega)) E hE
  have impl := fun K => impl_step l K s A (n : Int) (i : Int) (kk : Int) ((i + kk : Nat) : Int) ((i + kk - 1 : Nat) : Int) ((kk + 1 : Nat) : Int) (rd C ((i + kk : Nat) : Int) + 2) (rd C ((i + kk : Nat) : Int) + 3) _ _ B T (by omega) (wAdd (by omega)) (by omega) (by omega) (by omega) (by omega) (by omega) (wPred (by omega) (by omega)) (by omega) (by omega) f1 f2 b1.1 b1.2.1 b1.2.2 (by omega) (by omega) (wSucc (by omega)) (by rw [u.1, Int.add_comm]; exact w64 (by omega) (by omega)) (by rw [u.1, Int.add_comm]; exact w64 (by omega) (by omega)) E hE
  simp only [Int.toNat_natCast] at spec impl
  have hown := h.own
  clear hE f1 f2 b1 hpl hal
  by_cases c : InW l E
  · by_cases d : rd F (i : Int) = 0 ∨ rd C ((i + kk : Nat) : Int) + 2 ≤ rd C (i : Int)
    · refine ⟨_, _, _, _, h.put hi h1 hk 2 (by omega), fun K hK => ⟨?_, ?_⟩⟩
      · rw [spec K hK, if_pos c, if_pos d]
      · rw [impl K, if_pos c, if_pos (by rcases hown with x | x <;> omega)]
    · refine ⟨_, _, _, _, h.skip (by rcases hown with x | x <;> omega), fun K hK => ⟨?_, ?_⟩⟩
      · rw [spec K hK, if_pos c, if_neg d]
      · rw [impl K, if_pos c, if_neg (by rcases hown with x | x <;> omega)]
  · by_cases g : (kk : Int) > 1
    · refine ⟨_, _, _, _, h.skip (by omega), fun K hK => ⟨?_, ?_⟩⟩
      · rw [spec K hK, if_neg c, if_pos g]
      · rw [impl K, if_neg c, if_pos g]
    · by_cases d : rd F (i : Int) = 0 ∨ rd C ((i + kk : Nat) : Int) + 3 ≤ rd C (i : Int)
      · refine ⟨_, _, _, _, h.put hi h1 hk 3 (by omega), fun K hK => ⟨?_, ?_⟩⟩
        · rw [spec K hK, if_neg c, if_neg g, if_pos d]
        · rw [impl K, if_neg c, if_neg g, if_pos (by rcases hown with x | x <;> omega)]
      · refine ⟨_, _, _, _, h.skip (by rcases hown with x | x <;> omega), fun K hK => ⟨?_, ?_⟩⟩
        · rw [spec K hK, if_neg c, if_neg g, if_neg d]
        · rw [impl K, if_neg c, if_neg g, if_neg (by rcases hown with x | x <;> omega)]
/-- All lengths at one place. -/
theorem inner_all (l : List ByteArray) (hr : Rise l) (hl : l.length ≤ 1000) (s : ByteArray) (n : Nat) (P PL : List Int) (A : List S74) (G : Geo s n PL A) (hnl : n ≤ 1048576) (i : Nat) (hi : i < n) : ∀ (d kk : Nat) (B T C F : List Int), Inn n i kk B T C F → 1 ≤ kk → kk + d = 61 →
    ∃ M kz B' T' C' F', Inn n i kz B' T' C' F' ∧ 1 < kz ∧ ∀ K, 20 ≤ K →
      spec_l08Fewest.l1 (K + M) l s (n : Int) C F (i : Int) (kk : Int) P PL = spec_l08Fewest.l0 K l s (n : Int) C' F' ((i : Int) - 1) P PL ∧
      impl_fewest.l2 l (K + M) s A (n : Int) B T (i : Int) (kk : Int) = impl_fewest.l1 l K s A (n : Int) B' T' ((i : Int) - 1) := by
  intro d
  induction d with
  | zero =>
    intro kk B T C F h h1 hd
    refine ⟨2, kk, B, T, C, F, h, by omega, fun K hK => ⟨?_, ?_⟩⟩
    · rw [show K + 2 = (K + 1) + 1 from rfl, spec_l08Fewest.l1, if_neg (by omega), spec_l08Fewest.j2, if_neg (by decide), wDown (by omega)]
    · rw [show K + 2 = (K + 1) + 1 from rfl, impl_fewest.l2, if_neg (by omega), impl_fewest.j3, if_neg (by decide), wDown (by omega)]
  | succ d ih =>
    intro kk B T C F h h1 hd
    by_cases c : i + kk ≤ n
    · obtain ⟨B1, T1, C1, F1, g, e⟩ := inner_step l hr hl s n P PL A G hnl i kk B T C F h hi h1 (by omega) c
      obtain ⟨M, kz, B2, T2, C2, F2, g2, hz, e2⟩ := ih (kk + 1) B1 T1 C1 F1 g (by omega) (by omega)
      refine ⟨M + 2, kz, B2, T2, C2, F2, g2, hz, fun K hK => ⟨?_, ?_⟩⟩
      · rw [show K + (M + 2) = (K + M) + 2 by omega, (e (K + M) (by omega)).1]
        exact (e2 K hK).1
      · rw [show K + (M + 2) = (K + M) + 2 by omega, (e (K + M) (by omega)).2]
        exact (e2 K hK).2
    · refine ⟨2, kk, B, T, C, F, h, by omega, fun K hK => ⟨?_, ?_⟩⟩
      · rw [show K + 2 = (K + 1) + 1 from rfl, spec_l08Fewest.l1, if_pos (by omega), wAdd (by omega), decide_eq_false (by omega), spec_l08Fewest.j2, if_neg (by decide), wDown (by omega)]
      · rw [show K + 2 = (K + 1) + 1 from rfl, impl_fewest.l2, if_pos (by omega), wAdd (by omega), decide_eq_false (by omega), impl_fewest.j3, if_neg (by decide), wDown (by omega)]
/-- What holds between two places. -/
structure Out (n m : Nat) (B T C F : List Int) : Prop where
  lB : B.length = n + 1
  lT : T.length = n
  lC : C.length = n + 1
  lF : F.length = n + 1
  up : ∀ j : Nat, m ≤ j → j ≤ n → rd B (j : Int) = rd C (j : Int) ∧ 0 ≤ rd C (j : Int) ∧ rd C (j : Int) ≤ 3 * ((n : Int) - j)
  tk : ∀ j : Nat, m ≤ j → j < n → rd T (j : Int) = rd F (j : Int) ∧ 1 ≤ rd F (j : Int) ∧ (j : Int) + rd F (j : Int) ≤ n
  lo : ∀ j : Nat, j < m → rd F (j : Int) = 0
theorem outer_all (l : List ByteArray) (hr : Rise l) (hl : l.length ≤ 1000) (s : ByteArray) (n : Nat) (P PL : List Int) (A : List S74) (G : Geo s n PL A) (hnl : n ≤ 1048576) : ∀ (m : Nat) (B T C F : List Int), Out n m B T C F → m ≤ n →
    ∃ M B' T' C' F', Out n 0 B' T' C' F' ∧ ∀ K, 20 ≤ K →
      spec_l08Fewest.l0 (K + M) l s (n : Int) C F ((m : Int) - 1) P PL = spec_l08Fewest.l2 K (n : Int) F' [] 0 ∧
      impl_fewest.l1 l (K + M) s A (n : Int) B T ((m : Int) - 1) = impl_fewest.l3 l K (n : Int) T' [] 0 := by
  intro m
  induction m with
  | zero =>
    intro B T C F h hm
    refine ⟨1, B, T, C, F, h, fun K hK => ⟨?_, ?_⟩⟩
    · rw [spec_l08Fewest.l0, if_neg (by omega)]
    · rw [impl_fewest.l1, if_neg (by omega)]
  | succ m ih =>
    intro B T C F h hm
    have lB := h.lB
    have hB : m < B.length := by omega
    have e0 : ((m + 1 : Nat) : Int) - 1 = (m : Int) := by omega
    have g : Inn n m 1 (B.set m 1099511627776) T C F := by
      refine ⟨by rw [List.length_set]; exact h.lB, h.lT, h.lC, h.lF, fun j hj hn => ?_, fun j hj hn => h.tk j hj hn, fun j hj => h.lo j (by omega), .inl ⟨rfl, ?_, h.lo m (by omega)⟩⟩
      · rw [rd_set _ _ _ _ hB, if_neg (by omega)]
        exact h.up j hj hn
      · rw [rd_set _ _ _ _ hB, if_pos rfl]
    obtain ⟨M, kz, B1, T1, C1, F1, g1, hz, e1⟩ := inner_all l hr hl s n P PL A G hnl m (by omega) 60 1 _ T C F g (by omega) (by omega)
    have o : Out n m B1 T1 C1 F1 := by
      rcases g1.own with x | x
      · omega
      · refine ⟨g1.lB, g1.lT, g1.lC, g1.lF, fun j hj hn => ?_, fun j hj hn => ?_, fun j hj => g1.lo j hj⟩
        · by_cases q : j = m
          · subst q; exact ⟨x.2.1, x.2.2.1, x.2.2.2.1⟩
          · exact g1.up j (by omega) hn
        · by_cases q : j = m
          · subst q; exact x.2.2.2.2
          · exact g1.tk j (by omega) hn
    obtain ⟨M2, B2, T2, C2, F2, o2, e2⟩ := ih B1 T1 C1 F1 o (by omega)
    refine ⟨M2 + M + 1, B2, T2, C2, F2, o2, fun K hK => ⟨?_, ?_⟩⟩
    · rw [show K + (M2 + M + 1) = (K + M2 + M) + 1 by omega, spec_l08Fewest.l0, e0, if_pos (by omega)]
      exact ((e1 (K + M2) (by omega)).1).trans (e2 K hK).1
    · rw [show K + (M2 + M + 1) = (K + M2 + M) + 1 by omega, impl_fewest.l1, e0, if_pos (by omega), if_pos (by omega), if_pos (by omega), Int.toNat_natCast]
      exact ((e1 (K + M2) (by omega)).2).trans (e2 K hK).2
/-! the row of lengths -/
def Cuts (n : Nat) : Nat → List Int → Prop
  | _, [] => True
  | i, t :: r => 1 ≤ t ∧ (i : Int) + t ≤ n ∧ Cuts n (i + t.toNat) r
theorem l2_step (k : Nat) (n : Int) (F out : List Int) (i t m : Int) (h1 : i < n) (h2 : 0 ≤ i) (h3 : i < (F.length : Int)) (h4 : out.length < 17592186044416) (ht : rd F i = t) (hm : wrap64 (i + t) = m) : spec_l08Fewest.l2 (k + 1) n F out i = spec_l08Fewest.l2 k n F (out ++ [t]) m := by
  rw [spec_l08Fewest.l2, ht, hm, if_pos h1, if_pos h2, if_pos h3, if_pos h4]
theorem l3_step (l : List ByteArray) (k : Nat) (n : Int) (F out : List Int) (i t m : Int) (h1 : i < n) (h2 : 0 ≤ i) (h3 : i < (F.length : Int)) (h4 : out.length < 17592186044416) (ht : rd F i = t) (hm : wrap64 (i + t) = m) : impl_fewest.l3 l (k + 1) n F out i = impl_fewest.l3 l k n F (out ++ [t]) m := by
  rw [impl_fewest.l3, ht, hm, if_pos h1, if_pos h2, if_pos h3, if_pos h4]
theorem cuts_out (l : List ByteArray) (n : Nat) (hn : n ≤ 1048576) (B T C F : List Int) (h : Out n 0 B T C F) : ∀ (d i : Nat), n ≤ i + d → i ≤ n →
    ∃ r, Cuts n i r ∧ r.length + i ≤ n ∧ ∀ (out : List Int) (k : Nat), d < k → out.length ≤ i → spec_l08Fewest.l2 k (n : Int) F out (i : Int) = some (out ++ r) ∧ impl_fewest.l3 l k (n : Int) T out (i : Int) = some (out ++ r) := by
  intro d
  induction d with
  | zero =>
    intro i h1 h2
    refine ⟨[], trivial, by simpa using h2, fun out k hk ho => ?_⟩
    obtain ⟨k, rfl⟩ : ∃ m, k = m + 1 := ⟨k - 1, by omega⟩
    rw [spec_l08Fewest.l2, impl_fewest.l3, if_neg (by omega), if_neg (by omega)]
    simp
  | succ d ih =>
    intro i h1 h2
    by_cases c : i < n
    · obtain ⟨e, p1, p2⟩ := h.tk i (by omega) c
      obtain ⟨t, ht⟩ : ∃ t, rd F (i : Int) = t := ⟨_, rfl⟩
      rw [ht] at e p1 p2
      obtain ⟨r, g1, g2, g3⟩ := ih (i + t.toNat) (by omega) (by omega)
      refine ⟨t :: r, ⟨p1, p2, g1⟩, by rw [List.length_cons]; omega, fun out k hk ho => ?_⟩
      obtain ⟨k, rfl⟩ : ∃ m, k = m + 1 := ⟨k - 1, by omega⟩
      have lF := h.lF; have lT := h.lT
      have g := g3 (out ++ [t]) k (by omega) (by rw [List.length_append, List.length_singleton]; omega)
      rw [l2_step k (n : Int) F out (i : Int) t ((i + t.toNat : Nat) : Int) (by omega) (by omega) (by omega) (by omega) ht (wTo (by omega) (by omega)), l3_step l k (n : Int) T out (i : Int) t ((i + t.toNat : Nat) : Int) (by omega) (by omega) (by omega) (by omega) e (wTo (by omega) (by omega)), g.1, g.2]
      simp
    · refine ⟨[], trivial, by simp; omega, fun out k hk ho => ?_⟩
      obtain ⟨k, rfl⟩ : ∃ m, k = m + 1 := ⟨k - 1, by omega⟩
      rw [spec_l08Fewest.l2, impl_fewest.l3, if_neg (by omega), if_neg (by omega)]
      simp
theorem rd_rep (n i : Nat) : rd (List.replicate n (0 : Int)) (i : Int) = 0 := by
  unfold rd
  rw [Int.toNat_natCast, List.getD_eq_getElem?_getD, List.getElem?_replicate]
  split <;> rfl
theorem fewest_l0 (l : List ByteArray) (hl : l.length ≤ 1000) (s : ByteArray) (k : Nat) : ∀ (d i : Nat), i + d = l.length → impl_fewest.l0 l (k + d) s l (l.length : Int) (i : Int) = impl_fewest.l0 l k s l (l.length : Int) (l.length : Int) := by
  intro d
  induction d with
  | zero =>
    intro i hi
    obtain rfl : i = l.length := by omega
    rfl
  | succ d ih =>
    intro i hi
    have h1 : i < l.length := by omega
    rw [show k + (d + 1) = (k + d) + 1 from rfl, impl_fewest.l0, if_pos (by omega), if_pos (by omega), if_pos (by omega), w64s h1 (by omega)]
    exact ih (i + 1) (by omega)
/-- Both texts' rows of lengths. -/
theorem fewest_both (l : List ByteArray) (hr : Rise l) (hl : l.length ≤ 1000) (hy : ∀ y ∈ l, y.size ≤ 1048576) (s : ByteArray) (n : Nat) (P PL : List Int) (A : List S74) (G : Geo s n PL A) (hnl : n ≤ 1048576) (hs : s.size ≤ 1048576) (hP : P.length = n) (hread : ∀ k, s.size + 13 ≤ k → impl_read.f k s = some A) :
    ∃ r M, Cuts n 0 r ∧ r.length ≤ n ∧ ∀ k, M ≤ k → spec_l08Fewest.f k l P PL s = some r ∧ impl_fewest.f k l s = some r := by
  have hal : (A.length : Int) = (n : Int) := by rw [G.lA]
  have o : Out n n (List.replicate (n + 1) 0) (List.replicate n 0) (List.replicate (n + 1) 0) (List.replicate (n + 1) 0) := by
    refine ⟨by simp, by simp, by simp, by simp, fun j hj hn => ?_, fun j hj hn => by omega, fun j hj => rd_rep _ _⟩
    rw [rd_rep]
    omega
  obtain ⟨M, B, T, C, F, o2, e⟩ := outer_all l hr hl s n P PL A G hnl n _ _ _ _ o (Nat.le_refl n)
  obtain ⟨r, g1, g2, g3⟩ := cuts_out l n hnl B T C F o2 n 0 (by omega) (by omega)
  refine ⟨r, M + n + l.length + 1048700, g1, by omega, fun k hk => ⟨?_, ?_⟩⟩
  · obtain ⟨K, rfl⟩ : ∃ K, k = K + M := ⟨k - M, by omega⟩
    have w1 : wrap64 ((n : Int) + 1) = ((n + 1 : Nat) : Int) := wSucc (by omega)
    have w2 : wrap64 ((n : Int) - 1) = (n : Int) - 1 := wDown (by omega)
    unfold spec_l08Fewest.f
    rw [hP, w1, w2, if_pos (by omega), if_pos (by omega), Int.toNat_natCast, (e K (by omega)).1]
    simpa using (g3 [] K (by omega) (by simp)).1
  · obtain ⟨K, rfl⟩ : ∃ K, k = K + M + 1 + l.length := ⟨k - M - 1 - l.length, by omega⟩
    have w1 : wrap64 ((n : Int) + 1) = ((n + 1 : Nat) : Int) := wSucc (by omega)
    have w2 : wrap64 ((n : Int) - 1) = (n : Int) - 1 := wDown (by omega)
    have fits : MapS.Fits l s := ⟨by omega, by omega, List.all_eq_true.2 fun y h => decide_eq_true (by have := hy y h; omega)⟩
    have f0 := fewest_l0 l hl s (K + M + 1) l.length 0 (by omega)
    unfold impl_fewest.f
    rw [if_pos fits]
    refine f0.trans ?_
    rw [impl_fewest.l0, if_neg (by omega), hread (K + M) (by omega), Option.bind_some, hal, w1, w2, if_pos (by omega), if_pos (by omega), if_pos (by omega), if_pos (by omega), Int.toNat_natCast, Int.toNat_natCast, (e K (by omega)).2]
    simpa using (g3 [] K (by omega) (by simp)).2
/-! the pieces -/
def pieces (s : ByteArray) (PL : List Int) : Nat → List Int → List ByteArray
  | _, [] => []
  | i, t :: r => s.extract (rd PL (i : Int)).toNat (rd PL ((i + t.toNat : Nat) : Int)).toNat :: pieces s PL (i + t.toNat) r
theorem pieces_len (s : ByteArray) (PL : List Int) : ∀ (r : List Int) (i : Nat), (pieces s PL i r).length = r.length
  | [], _ => rfl
  | t :: r, i => by unfold pieces; rw [List.length_cons, List.length_cons, pieces_len s PL r]
theorem rd_mid (a : List Int) (t : Int) (r : List Int) : rd (a ++ t :: r) (a.length : Int) = t := by
  unfold rd
  rw [Int.toNat_natCast]
  simp
theorem cut_spec (k : Nat) (s : ByteArray) (R : List Int) (out : List ByteArray) (P PL : List Int) (i x t m x' : Int) (h1 : x < (R.length : Int)) (h2 : 0 ≤ i) (h3 : i < (PL.length : Int)) (h4 : 0 ≤ x) (ht : rd R x = t) (hm : wrap64 (i + t) = m) (h5 : 0 ≤ m) (h6 : m < (PL.length : Int)) (b1 : 0 ≤ rd PL i) (b2 : rd PL i ≤ rd PL m) (b3 : rd PL m ≤ (s.size : Int)) (ho : out.length < 8796093022208) (hx' : wrap64 (x + 1) = x') :
    spec_l08Cut.l0 (k + 1) s R out i x P PL = spec_l08Cut.l0 k s R (out ++ [s.extract (rd PL i).toNat (rd PL m).toNat]) m x' P PL := by
  rw [spec_l08Cut.l0, ht, hm, hx', if_pos h1, if_pos h2, if_pos h3, if_pos h4, if_pos h5, if_pos h6, if_pos b1, if_pos b2, if_pos b3, if_pos ho]
theorem cut_impl (k : Nat) (s : ByteArray) (A : List S74) (R : List Int) (out : List ByteArray) (i x n t m m' x' a b : Int) (h1 : x < n) (h2 : 0 ≤ x) (h3 : x < (R.length : Int)) (h4 : 0 ≤ i) (h5 : i < (A.length : Int)) (ht : rd R x = t) (hm : wrap64 (i + t) = m) (hm' : wrap64 (m - 1) = m') (h6 : 0 ≤ m') (h7 : m' < (A.length : Int)) (f1 : (rd_T74 A i).f1 = a) (f2 : (rd_T74 A m').f2 = b) (b1 : 0 ≤ a) (b2 : a ≤ b) (b3 : b ≤ (s.size : Int)) (ho : out.length < 8796093022208) (hx' : wrap64 (x + 1) = x') :
    impl_FewestWords.l0 (k + 1) s A out i R n x = impl_FewestWords.l0 k s A (out ++ [s.extract a.toNat b.toNat]) m R n x' := by
  rw [impl_FewestWords.l0, ht, hm, hm', hx', if_pos h1, if_pos h2, if_pos h3, if_pos h4, if_pos h5, if_pos h6, if_pos h7, f1, f2, if_pos b1, if_pos b2, if_pos b3, if_pos ho]
set_option maxHeartbeats 2000000 in
theorem cut_both (s : ByteArray) (n : Nat) (P PL : List Int) (A : List S74) (G : Geo s n PL A) (hnl : n ≤ 1048576) : ∀ (r pre : List Int) (i k : Nat) (out : List ByteArray), Cuts n i r → r.length < k → pre.length + r.length ≤ 1048576 → out.length ≤ pre.length →
    spec_l08Cut.l0 k s (pre ++ r) out (i : Int) (pre.length : Int) P PL = some (out ++ pieces s PL i r) ∧
    impl_FewestWords.l0 k s A out (i : Int) (pre ++ r) ((pre ++ r).length : Int) (pre.length : Int) = some (out ++ pieces s PL i r) := by
  have hpl := G.lP
  have hal := G.lA
  intro r
  induction r with
  | nil =>
    intro pre i k out hc hk hl ho
    obtain ⟨k, rfl⟩ : ∃ m, k = m + 1 := ⟨k - 1, by omega⟩
    rw [List.append_nil, spec_l08Cut.l0, impl_FewestWords.l0, if_neg (by omega), if_neg (by omega)]
    simp [pieces]
  | cons t r ih =>
    intro pre i k out hc hk hl ho
    obtain ⟨k, rfl⟩ : ∃ m, k = m + 1 := ⟨k - 1, by omega⟩
    obtain ⟨h1, h2, h3⟩ := hc
    rw [List.length_cons] at hk hl
    have b1 := G.bd i (i + t.toNat) (by omega) (by omega)
    have f1 := G.f1 i (by omega)
    have f2 := G.f2 (i + t.toNat - 1) (by omega)
    rw [show i + t.toNat - 1 + 1 = i + t.toNat by omega] at f2
    have hm := rd_mid pre t r
    have hle : ((pre ++ t :: r).length : Int) = (pre.length : Int) + 1 + (r.length : Int) := by rw [List.length_append, List.length_cons]; omega
    have g := ih (pre ++ [t]) (i + t.toNat) k (out ++ [s.extract (rd PL (i : Int)).toNat (rd PL ((i + t.toNat : Nat) : Int)).toNat]) h3 (by omega) (by rw [List.length_append, List.length_singleton]; omega) (by rw [List.length_append, List.length_append, List.length_singleton, List.length_singleton]; omega)
    rw [show pre ++ [t] ++ r = pre ++ t :: r by simp, show (pre ++ [t]).length = pre.length + 1 by simp] at g
    have hsum : pieces s PL i (t :: r) = s.extract (rd PL (i : Int)).toNat (rd PL ((i + t.toNat : Nat) : Int)).toNat :: pieces s PL (i + t.toNat) r := rfl
    have hout : (out.length : Int) < 8796093022208 := by omega
    constructor
    · rw [cut_spec k s (pre ++ t :: r) out P PL (i : Int) (pre.length : Int) t ((i + t.toNat : Nat) : Int) ((pre.length + 1 : Nat) : Int) (by omega) (by omega) (by omega) (by omega) hm (wTo (by omega) (by omega)) (by omega) (by omega) b1.1 b1.2.1 b1.2.2 (by omega) (wSucc (by omega)), g.1, hsum]
      simp
    · rw [cut_impl k s A (pre ++ t :: r) out (i : Int) (pre.length : Int) ((pre ++ t :: r).length : Int) t ((i + t.toNat : Nat) : Int) ((i + t.toNat - 1 : Nat) : Int) ((pre.length + 1 : Nat) : Int) _ _ (by omega) (by omega) (by omega) (by omega) (by omega) hm (wTo (by omega) (by omega)) (wPred (by omega) (by omega)) (by omega) (by omega) f1 f2 b1.1 b1.2.1 b1.2.2 (by omega) (wSucc (by omega)), g.2, hsum]
      simp
/-- Both answers. -/
theorem both (l : List ByteArray) (hy : ∀ y ∈ l, y.size ≤ 1048576) (s : ByteArray) (hs : s.size ≤ 1048576) :
    ∃ a M, a.length ≤ 1048576 ∧ ∀ k, M ≤ k → spec_FewestWords.f k l s = some a ∧ impl_FewestWords.f k l s = some a := by
  by_cases c : (s.size : Int) > 65536
  · refine ⟨[], 1, by simp, fun k hk => ⟨?_, ?_⟩⟩
    · unfold spec_FewestWords.f
      rw [if_pos c]
    · obtain ⟨k, rfl⟩ : ∃ m, k = m + 1 := ⟨k - 1, by omega⟩
      unfold impl_FewestWords.f impl_long.f
      rw [Option.bind_some, if_pos (by simpa using c), impl_FewestWords.j0, if_pos rfl]
  · have hF := fault_eq l hy
    obtain ⟨r0, _, _, h00⟩ := hF 2200200 (Nat.le_refl _)
    by_cases z : ∃ q, spec_WordsFault.f 2200200 l = some q ∧ q = 0
    · obtain ⟨q, hq, rfl⟩ := z
      obtain ⟨q', hq', _, hgo⟩ := hF 2200200 (Nat.le_refl _)
      rw [hq] at hq'
      obtain rfl := Option.some.inj hq'
      obtain ⟨hl, hrise⟩ := hgo rfl
      have hz : ∀ k, 2200200 ≤ k → spec_WordsFault.f k l = some 0 ∧ impl_WordsFault.f k l = some 0 := by
        intro k hk
        obtain ⟨q2, h1, h2, _⟩ := hF k hk
        have := at_rounds (g := fun k => spec_WordsFault.f k l) (fun k => spec_WordsFault.mono l k) hk hq
        rw [h1] at this
        obtain rfl := Option.some.inj this
        exact ⟨h1, h2⟩
      obtain ⟨n, P, PL, A, G, hnl, hP, hrd⟩ := geo_of s hs
      obtain ⟨r, M, hc, hrl, hb⟩ := fewest_both l (rise_of l hrise) hl hy s n P PL A G hnl hs hP (fun k hk => (hrd k hk).2)
      refine ⟨pieces s PL 0 r, M + 2200200 + 1048700 + 1048700, by rw [pieces_len]; omega, fun k hk => ⟨?_, ?_⟩⟩
      · have e := (cut_both s n P PL A G hnl r [] 0 k [] hc (by omega) (by simp; omega) (by simp)).1
        unfold spec_FewestWords.f spec_l08Cut.f
        rw [if_neg c, (hz k (by omega)).1, Option.bind_some, if_pos rfl, (hrd k (by omega)).1, Option.bind_some]
        show (Option.bind (Option.bind (spec_l08Fewest.f k l P PL s) _) _) = _
        rw [(hb k (by omega)).1, Option.bind_some]
        simpa using e
      · obtain ⟨k, rfl⟩ : ∃ m, k = m + 1 := ⟨k - 1, by omega⟩
        have e := (cut_both s n P PL A G hnl r [] 0 k [] hc (by omega) (by simp; omega) (by simp)).2
        unfold impl_FewestWords.f impl_long.f
        rw [Option.bind_some, if_neg (by simpa using c), (hz (k + 1) (by omega)).2, Option.bind_some, impl_FewestWords.j0, if_neg (by decide), (hrd k (by omega)).2, Option.bind_some, (hb k (by omega)).2, Option.bind_some]
        simpa using e
    · refine ⟨[], 2200200, by simp, fun k hk => ?_⟩
      obtain ⟨q, h1, h2, _⟩ := hF k hk
      have hq : q ≠ 0 := fun h => z (by
        obtain ⟨q2, g1, _, _⟩ := hF 2200200 (Nat.le_refl _)
        have := at_rounds (g := fun k => spec_WordsFault.f k l) (fun k => spec_WordsFault.mono l k) hk g1
        rw [h1] at this
        exact ⟨q2, g1, (Option.some.inj this).symm.trans h⟩)
      constructor
      · unfold spec_FewestWords.f
        rw [if_neg c, h1, Option.bind_some, if_neg hq]
      · obtain ⟨k, rfl⟩ : ∃ m, k = m + 1 := ⟨k - 1, by omega⟩
        unfold impl_FewestWords.f impl_long.f
        rw [Option.bind_some, if_neg (by simpa using c), h2, Option.bind_some, impl_FewestWords.j0, if_pos (by simpa using hq)]
theorem law (l : List ByteArray) (s : ByteArray) (hm : l.length ≤ maxLen ∧ ∀ y ∈ l, y.size ≤ maxLen) : ∃ k, laws_FnExactFewestWords.f k l s = some true := by
  by_cases c : (s.size : Int) > 1048576
  · refine ⟨0, ?_⟩
    unfold laws_FnExactFewestWords.f
    rw [if_pos c]
  · obtain ⟨r, hr, hg⟩ := sz_eq l hm.1 hm.2 2000000 (by omega)
    by_cases c2 : r < 0
    · refine ⟨2000000, ?_⟩
      unfold laws_FnExactFewestWords.f
      rw [if_neg c, hr, Option.bind_some, if_pos c2]
    · obtain ⟨hl, hy⟩ := hg c2
      obtain ⟨a, M, ha, hb⟩ := both l hy s (by omega)
      obtain ⟨K, hK⟩ : ∃ K, K = M + 9000000 := ⟨_, rfl⟩
      refine ⟨K + 1, ?_⟩
      obtain ⟨r', hr', hg'⟩ := sz_eq l hm.1 hm.2 (K + 1) (by omega)
      have c3 : ¬ r' < 0 := by
        have := at_rounds (g := fun k => laws_szStringS.f k l 1048576) (fun k => laws_szStringS.mono l 1048576 k) (show 2000000 ≤ K + 1 by omega) hr
        rw [hr'] at this
        obtain rfl := Option.some.inj this
        exact c2
      have t1 := toStringS_eq l (K + 1) (by omega) (by omega)
      have t2 := toStringS_eq l K (by omega) (by omega)
      have e1 := eqStringS_eq l (K + 1) (by omega) (by omega)
      have e2 := eqStringS_eq a (K + 1) (by omega) (by omega)
      have e3 := eqStringS_eq a K (by omega) (by omega)
      have m1 := markStringS_eq l (K + 1) (by omega) (by omega)
      have m2 := markStringS_eq a K (by omega) (by omega)
      have h2 := heldStringS_eq a K (by omega) (by omega)
      unfold laws_FnExactFewestWords.f
      rw [if_neg c, hr', Option.bind_some, if_neg c3, t1, Option.bind_some, (hb (K + 1) (by omega)).1, Option.bind_some, Option.bind_some, (hb (K + 1) (by omega)).2, Option.bind_some, e2, Option.bind_some, if_pos rfl, Option.bind_some, e1, Option.bind_some, if_pos rfl, m1, Option.bind_some, if_neg (by omega), Option.bind_some]
      show laws_FnExactFewestWords.j0 (K + 1) l s a a (!true) = some true
      rw [laws_FnExactFewestWords.j0, if_neg (by decide), m2, Option.bind_some, h2, Option.bind_some, if_neg (by omega), if_pos rfl, t2, Option.bind_some, (hb K (by omega)).2, Option.bind_some, e3, Option.bind_some, if_pos rfl, Option.bind_some, if_neg (by omega), if_pos rfl]
theorem FnExactFewestWords : laws_FnExactFewestWords.Pure := fun l s h _ => law l s h

end Go.Proofs.YtmlhnpggjkoinaaDoor.Pure

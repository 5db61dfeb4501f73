/- The program's Words returns what the reference's returns. For every input: the law answers true; each argument reads afterwards as it read before. -/
import Derived.Test.YtmlhnpggjkoinaaDoorPFnExactWordsx
import Derived.Test.YtmlhnpggjkoinaaDoorWordFWords
import Derived.Test.YtmlhnpggjkoinaaDoorOutStringSWords
import Derived.Test.YtmlhnpggjkoinaaDoorEvKit
set_option linter.unusedSimpArgs false
set_option linter.unusedVariables false
namespace Go.Proofs.YtmlhnpggjkoinaaDoor.Pure
open Go.RowKit Go.Proofs.YtmlhnpggjkoinaaDoor.PFnExactWords Go.Proofs.YtmlhnpggjkoinaaDoorW.PrintWords Go.Proofs.YtmlhnpggjkoinaaDoorW.PrintLast Go.Proofs.YtmlhnpggjkoinaaDoorW.PrintMore Go.Proofs.YtmlhnpggjkoinaaDoor.Lib Go.Proofs.YtmlhnpggjkoinaaDoor.EvKit

/-- A point that makes a piece a word. -/
def wanted (p : Int) : Bool := wl p || wp p || dg p || (kindOf p).2 == 9
def hasW (s : ByteArray) : Bool := (pts s).any wanted
theorem ev_from {g g' : Nat → Option (List ByteArray)} {r : List ByteArray} (K : Nat) (h : ∀ k, K ≤ k → g k = g' k) (e : Ev g' r) : Ev g r := by
  obtain ⟨K', hK⟩ := e
  exact ⟨K + K', fun k hk => (h k (by omega)).trans (hK k (by omega))⟩
theorem drop_any (L : List Int) (n : Nat) (h : n < L.length) : (L.drop n).any wanted = (wanted (at0 L n) || (L.drop (n + 1)).any wanted) := by
  rw [List.drop_eq_getElem_cons h, List.any_cons, at0_eq L n h]
theorem specL1 (P X : List ByteArray) (i : Nat) (hi : i < P.length) (hX : X.length ≤ i) (hP : P.length ≤ 1048577) (L : List Int) (hL : L.length ≤ 1048576) (oL : in64s L) (r : List ByteArray) : ∀ (d n : Nat) (b : Bool), n + d = L.length →
    Ev (fun k => spec_Words.l0 k P (if (b || (L.drop n).any wanted) = true then X ++ [rdOf ByteArray.empty P (i : Int)] else X) ((i + 1 : Nat) : Int)) r → Ev (fun k => spec_Words.l1 k P X (i : Int) L b (n : Int)) r := by
  intro d
  induction d with
  | zero =>
    intro n b hn h
    refine succ_ (ev_from 0 (fun k _ => ?_) h)
    rw [spec_Words.l1, if_neg (by omega), w64s hi (by omega), show n = L.length by omega, List.drop_length, List.any_nil, Bool.or_false, if_pos (show 0 ≤ (i : Int) by omega), if_pos (show (i : Int) < (P.length : Int) by omega), if_pos (show X.length < 8796093022208 by omega)]
    cases b <;> rfl
  | succ d ih =>
    intro n b hn h
    have hlt : n < L.length := by omega
    have ho := oL n hlt
    have hd := drop_any L n hlt
    refine succ_ (ev_from 60 (fun k hk => ?_) (ih (n + 1) (b || wanted (at0 L n)) (by omega) (by rw [Bool.or_assoc, ← hd]; exact h)))
    rw [spec_Words.l1, if_pos (by omega), if_pos (by omega), rd_at0 L n hlt, wd_eq k (by omega) _ ho, Option.bind_some, w64s hlt (by omega)]
    cases b
    · rw [if_neg (by decide), Bool.false_or]
      simp only [wd1, wd2, wd5]
      unfold wanted
      cases c1 : wl (at0 L n)
      · rw [if_neg (by decide)]
        cases c2 : dg (at0 L n)
        · rw [if_neg (by decide)]
          cases c3 : wp (at0 L n)
          · rw [if_neg (by decide), scrS k (by omega) _ ho, Option.bind_some]; rfl
          · rw [if_pos rfl]; rfl
        · rw [if_pos rfl, Bool.or_true]; rfl
      · rw [if_pos rfl]; rfl
    · rw [if_pos rfl, Bool.true_or]
theorem implL1 (P X : List ByteArray) (s : ByteArray) (i : Nat) (hi : i < P.length) (hX : X.length ≤ i) (hP : P.length ≤ 1048577) (L : List Int) (hL : L.length ≤ 1048576) (oL : in64s L) (r : List ByteArray) : ∀ (d n : Nat), n + d = L.length →
    Ev (fun k => impl_Words.l0 k (if (L.drop n).any wanted = true then X ++ [s] else X) P (P.length : Int) ((i + 1 : Nat) : Int)) r → Ev (fun k => impl_Words.l1 k X s P (P.length : Int) (i : Int) L (L.length : Int) (n : Int)) r := by
  intro d
  induction d with
  | zero =>
    intro n hn h
    refine succ_ (ev_from 0 (fun k _ => ?_) h)
    rw [impl_Words.l1, if_neg (by omega), w64s hi (by omega), show n = L.length by omega, List.drop_length, List.any_nil, if_neg (by decide)]
  | succ d ih =>
    intro n hn h
    have hlt : n < L.length := by omega
    have ho := oL n hlt
    have hd := drop_any L n hlt
    by_cases c : wanted (at0 L n) = true
    · rw [hd, c, Bool.true_or, if_pos rfl] at h
      refine succ_ (ev_from 60 (fun k hk => ?_) h)
      rw [impl_Words.l1, if_pos (by omega), if_pos (by omega), if_pos (by omega), rd_at0 L n hlt, wordLetterI k (by omega) _ ho, Option.bind_some, w64s hi (by omega), if_pos (show X.length < 8796093022208 by omega), wordPartI k (by omega) _ ho, isDigitI k (by omega) _ ho, scrI k (by omega) _ ho]
      unfold wanted at c
      cases c1 : wl (at0 L n)
      · rw [if_neg (by decide), Option.bind_some]
        cases c2 : wp (at0 L n)
        · rw [if_neg (by decide), Option.bind_some]
          cases c3 : dg (at0 L n)
          · rw [c1, c2, c3] at c
            rw [if_neg (by decide), Option.bind_some, if_pos (by simpa using c)]
          · rw [if_pos rfl]
        · rw [if_pos rfl]
      · rw [if_pos rfl]
    · have cf : wanted (at0 L n) = false := by simpa using c
      rw [hd, cf, Bool.false_or] at h
      refine succ_ (ev_from 60 (fun k hk => ?_) (ih (n + 1) (by omega) h))
      unfold wanted at cf
      simp only [Bool.or_eq_false_iff] at cf
      obtain ⟨⟨⟨c1, c2⟩, c3⟩, c4⟩ := cf
      rw [impl_Words.l1, if_pos (by omega), if_pos (by omega), if_pos (by omega), rd_at0 L n hlt, wordLetterI k (by omega) _ ho, Option.bind_some, c1, if_neg (by decide), wordPartI k (by omega) _ ho, Option.bind_some, c2, if_neg (by decide), isDigitI k (by omega) _ ho, Option.bind_some, c3, if_neg (by decide), scrI k (by omega) _ ho, Option.bind_some, if_neg (by simpa using c4), w64s hlt (by omega)]
theorem specL0 (P : List ByteArray) (hP : P.length ≤ 1048577) (hs : ∀ s ∈ P, s.size ≤ 1048576) : ∀ (d i : Nat) (X : List ByteArray), i + d = P.length → X.length ≤ i → Ev (fun k => spec_Words.l0 k P X (i : Int)) (X ++ (P.drop i).filter hasW) := by
  intro d
  induction d with
  | zero =>
    intro i X hn hX
    refine succ_ (ev_from 0 (fun k _ => ?_) (Ev.now _))
    rw [spec_Words.l0, if_neg (by omega), show i = P.length by omega, List.drop_length, List.filter_nil, List.append_nil]
  | succ d ih =>
    intro i X hn hX
    have hi : i < P.length := by omega
    have hz := hs _ (List.getElem_mem hi)
    have hL := pts_len P[i]
    have e : P.drop i = P[i] :: P.drop (i + 1) := List.drop_eq_getElem_cons hi
    refine succ_ (ev_from 1048600 (fun k hk => ?_) (specL1 P X i hi hX hP (pts P[i]) (by omega) (fun n hn => pts_in64 _ (pts_ok _) n hn) _ (pts P[i]).length 0 false (by omega) ?_))
    · rw [spec_Words.l0, if_pos (by omega), if_pos (by omega), rdS_nat P i hi, specPoints_eq _ k (by omega) hz, Option.bind_some]; rfl
    · rw [Bool.false_or, List.drop_zero, rdS_nat P i hi, e]
      by_cases c : (pts P[i]).any wanted = true
      · have := ih (i + 1) (X ++ [P[i]]) (by omega) (by rw [List.length_append, List.length_singleton]; omega)
        rw [if_pos c, List.filter_cons_of_pos (by exact c)]
        rwa [List.append_assoc] at this
      · have := ih (i + 1) X (by omega) (by omega)
        rw [if_neg c, List.filter_cons_of_neg (by exact c)]
        exact this
theorem implL0 (P : List ByteArray) (hP : P.length ≤ 1048577) (hs : ∀ s ∈ P, s.size ≤ 1048576) : ∀ (d i : Nat) (X : List ByteArray), i + d = P.length → X.length ≤ i → Ev (fun k => impl_Words.l0 k X P (P.length : Int) (i : Int)) (X ++ (P.drop i).filter hasW) := by
  intro d
  induction d with
  | zero =>
    intro i X hn hX
    refine succ_ (ev_from 0 (fun k _ => ?_) (Ev.now _))
    rw [impl_Words.l0, if_neg (by omega), show i = P.length by omega, List.drop_length, List.filter_nil, List.append_nil]
  | succ d ih =>
    intro i X hn hX
    have hi : i < P.length := by omega
    have hz := hs _ (List.getElem_mem hi)
    have hL := pts_len P[i]
    have e : P.drop i = P[i] :: P.drop (i + 1) := List.drop_eq_getElem_cons hi
    refine succ_ (ev_from 1048600 (fun k hk => ?_) (implL1 P X P[i] i hi hX hP (pts P[i]) (by omega) (fun n hn => pts_in64 _ (pts_ok _) n hn) _ (pts P[i]).length 0 (by omega) ?_))
    · rw [impl_Words.l0, if_pos (by omega), if_pos (by omega), if_pos (by omega), rdS_nat P i hi, points_eq _ k (by omega) hz, Option.bind_some]; rfl
    · rw [List.drop_zero, e]
      by_cases c : (pts P[i]).any wanted = true
      · have := ih (i + 1) (X ++ [P[i]]) (by omega) (by rw [List.length_append, List.length_singleton]; omega)
        rw [if_pos c, List.filter_cons_of_pos (by exact c)]
        rwa [List.append_assoc] at this
      · have := ih (i + 1) X (by omega) (by omega)
        rw [if_neg c, List.filter_cons_of_neg (by exact c)]
        exact this
theorem pcs_size (s : ByteArray) (C : List Int) : ∀ (d i : Nat), ∀ x ∈ pcs s C d i, x.size ≤ s.size
  | 0, _, x, hx => by cases hx
  | d + 1, i, x, hx => by
    unfold pcs at hx
    rcases List.mem_cons.1 hx with rfl | hx
    · rw [ByteArray.size_extract]; omega
    · exact pcs_size s C d (i + 1) x hx
def allP (s : ByteArray) (T : Tls) : List ByteArray := pcs s (wordsOf s T) ((wordsOf s T).length - 1) 0
def wordsL (s : ByteArray) (T : Tls) : List ByteArray := (allP s T).filter hasW
theorem allP_len (s : ByteArray) (T : Tls) (hs : s.size ≤ 1048576) : (allP s T).length ≤ 1048577 := by
  have := wordsOf_len s T hs
  unfold allP
  rw [pcs_len]; omega
theorem spec_ev (s : ByteArray) (T : Tls) (hs : s.size ≤ 1048576) : Ev (fun k => spec_Words.f k s T) (wordsL s T) := by
  have hl := wordsOf_len s T hs
  have h := specL0 (allP s T) (allP_len s T hs) (fun x hx => Nat.le_trans (pcs_size s _ _ _ x hx) hs) (allP s T).length 0 [] (by omega) (by simp)
  refine ev_from 5000000 (fun k hk => ?_) h
  unfold spec_Words.f
  rw [specWC_eq s T k hk, Option.bind_some, piecesS_eq s _ (by omega) (wordsOf_rises s T) k (by omega), Option.bind_some]; rfl
theorem impl_ev (s : ByteArray) (T : Tls) (hs : s.size ≤ 1048576) : Ev (fun k => impl_Words.f k s T) (wordsL s T) := by
  have hl := wordsOf_len s T hs
  have h := implL0 (allP s T) (allP_len s T hs) (fun x hx => Nat.le_trans (pcs_size s _ _ _ x hx) hs) (allP s T).length 0 [] (by omega) (by simp)
  refine ev_from 5000000 (fun k hk => ?_) h
  unfold impl_Words.f
  rw [implWC_eq s T k hk, Option.bind_some, piecesI_eq s _ (by omega) (wordsOf_rises s T) k (by omega), Option.bind_some]; rfl
theorem FnExactWords : laws_FnExactWords.Pure := by
  intro s t _ ht
  obtain ⟨htl, _⟩ := ht
  by_cases c : (s.size : Int) > 1048576
  · refine ⟨1, ?_⟩
    unfold laws_FnExactWords.f
    rw [if_pos c]
  · have hs : s.size ≤ 1048576 := by omega
    by_cases c2 : (t.length : Int) > 1048576
    · refine ⟨1, ?_⟩
      unfold laws_FnExactWords.f
      rw [if_neg c, szTailorS_eq t htl, Option.bind_some, if_pos c2, if_pos (by omega)]
    · obtain ⟨K1, h1⟩ := spec_ev s (t.map asTail) hs
      obtain ⟨K2, h2⟩ := impl_ev s (t.map asTail) hs
      replace h1 : ∀ k, K1 ≤ k → spec_Words.f k s (t.map asTail) = some (wordsL s (t.map asTail)) := h1
      replace h2 : ∀ k, K2 ≤ k → impl_Words.f k s (t.map asTail) = some (wordsL s (t.map asTail)) := h2
      refine ⟨K1 + K2 + 5000001, ?_⟩
      have hl : (wordsL s (t.map asTail)).length ≤ 1048577 := Nat.le_trans (List.length_filter_le _ _) (allP_len s _ hs)
      have hT : (t.map asTail).length ≤ 1048576 := by rw [List.length_map]; omega
      unfold laws_FnExactWords.f
      rw [if_neg c, szTailorS_eq t htl, Option.bind_some, if_neg c2, if_neg (by omega), toTailorS_eq t _ (by omega) (by omega), Option.bind_some, h1 _ (by omega), Option.bind_some, Option.bind_some, h2 _ (by omega), Option.bind_some]
      have h2' := h2 (K1 + K2 + 5000000) (by omega)
      clear h1 h2
      generalize wordsL s (t.map asTail) = l at hl h2'
      rw [eqStringS_eq l _ (by omega) (by omega), Option.bind_some, if_pos rfl, Option.bind_some, eqTailorS_eq _ _ (by omega) hT, Option.bind_some, if_pos rfl]
      obtain ⟨y, hy⟩ := markTailorS_eq (t.map asTail) (K1 + K2 + 5000001) hT (by omega)
      rw [hy, Option.bind_some, if_neg (by omega)]
      rw [Option.bind_some]
      rw [show K1 + K2 + 5000001 = (K1 + K2 + 5000000) + 1 from rfl, laws_FnExactWords.j0, if_neg (by decide), markStringS_eq l _ (by omega) (by omega), Option.bind_some]
      rw [heldStringS_eq l _ (by omega) (by omega), Option.bind_some, if_neg (by omega), if_pos rfl, toTailorS_eq t _ (by omega) (by omega), Option.bind_some, h2', Option.bind_some, eqStringS_eq l _ (by omega) (by omega), Option.bind_some, if_pos rfl, Option.bind_some, if_neg (by omega), if_pos rfl]
end Go.Proofs.YtmlhnpggjkoinaaDoor.Pure

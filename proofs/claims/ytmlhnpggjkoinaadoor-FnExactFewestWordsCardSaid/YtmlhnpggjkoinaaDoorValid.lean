/- A text is of points alone where its points, written, are the text again. Plain Lean. -/
import Derived.Test.YtmlhnpggjkoinaaDoorDec
import Derived.Lib.MapLaws
import Derived.Lib.ValidLaws
import Derived.Lib.Strings
set_option linter.unusedSimpArgs false
set_option linter.unusedVariables false
namespace Go.Proofs.YtmlhnpggjkoinaaDoor.Lib
open Go.RowKit Go.Proofs.YtmlhnpggjkoinaaDoorW.PrintWords Go.Proofs.YtmlhnpggjkoinaaDoorW.PrintLast Go.Proofs.YtmlhnpggjkoinaaDoorW.PrintMore

theorem encZ_enc (p : Int) (h : isPt p = true) : Go.Lib.encodeRuneZ p = enc p := by
  have := (isPt_iff p).1 h
  unfold enc
  by_cases c1 : p < 128
  · rw [if_pos c1, Go.Lib.encodeRuneZ_one (by omega) (by omega)]
  · rw [if_neg c1]
    by_cases c2 : p < 2048
    · rw [if_pos c2, Go.Lib.encodeRuneZ_two (by omega) (by omega)]
    · rw [if_neg c2]
      by_cases c3 : p < 65536
      · rw [if_pos c3, Go.Lib.encodeRuneZ_three (by omega)]
      · rw [if_neg c3, Go.Lib.encodeRuneZ_four (by omega) (by omega)]
theorem enc_encodeRune (p : Int) (h : isPt p = true) : (Go.Lib.encodeRune p).map (fun b => (b.toNat : Int)) = enc p := by
  unfold Go.Lib.encodeRune
  rw [encZ_enc p h, List.map_map]
  have hr := (isPt_iff p).1 h
  have := enc_range (p := p) (by omega) (by omega)
  conv => rhs; rw [← List.map_id (enc p)]
  apply List.map_congr_left
  intro x hx
  have := this x hx
  show ((x.toNat.toUInt8).toNat : Int) = x
  rw [show x.toNat.toUInt8 = UInt8.ofNat x.toNat from rfl, UInt8.toNat_ofNat']
  omega
theorem fixPt_pt (p : Int) (h : isPt p = true) : fixPt p = p := by unfold fixPt; rw [if_pos h]
theorem valid_from (s : ByteArray) : ∀ (d i : Nat), s.size ≤ i + d → i ≤ s.size →
    (Go.Lib.validD (s.data.toList.drop i) = true ∧ encAll ((atsFrom s d i).map At.p) = (bytesOf s).drop i) ∨ (Go.Lib.validD (s.data.toList.drop i) = false ∧ s.size - i < (encAll ((atsFrom s d i).map At.p)).length)
  | 0, i, hd, hi => by
    refine .inl ?_
    have e : s.data.toList.drop i = [] := List.drop_eq_nil_of_le (by rw [data_length]; omega)
    have e2 : (bytesOf s).drop i = [] := List.drop_eq_nil_of_le (by rw [bytesOf_length]; omega)
    rw [e, e2]
    exact ⟨rfl, rfl⟩
  | d + 1, i, hd, hi => by
    by_cases c : i < s.size
    · have hw := dec_width s i c
      have hne : s.data.toList.drop i ≠ [] := by
        intro h
        have := congrArg List.length h
        rw [List.length_drop, data_length] at this
        simp at this
        omega
      have hd' : Go.Lib.decodeL (s.data.toList.drop i) = dec s i := Go.Lib.decodeL_drop s i
      have ih := valid_from s d (i + (dec s i).2) (by omega) hw.2.2
      have ea : atsFrom s (d + 1) i = atOf s i :: atsFrom s d (i + (dec s i).2) := by
        show (if i < s.size then _ else _) = _
        rw [if_pos c]
      have ep : (atOf s i).p = ((dec s i).1 : Int) := rfl
      rw [ea, List.map_cons, encAll, ep, fixPt_pt _ (dec_range s i), Go.Lib.validD_step _ hne, hd', List.drop_drop]
      by_cases b : (dec s i).1 = 65533 ∧ (dec s i).2 = 1
      · refine .inr ⟨if_pos b, ?_⟩
        rw [List.length_append]
        have e3 : (enc ((dec s i).1 : Int)).length = 3 := by rw [b.1]; decide
        rcases ih with ⟨_, h⟩ | ⟨_, h⟩
        · rw [h, e3, List.length_drop, bytesOf_length]; omega
        · omega
      · rw [if_neg b]
        have g := Go.Lib.encode_decode (s.data.toList.drop i) hne (by rw [hd']; exact b)
        rw [hd'] at g
        have g2 : enc ((dec s i).1 : Int) = ((bytesOf s).drop i).take (dec s i).2 := by
          rw [← enc_encodeRune _ (dec_range s i), g]
          unfold bytesOf
          rw [List.map_take, List.map_drop]
        have g3 : (enc ((dec s i).1 : Int)).length = (dec s i).2 := by
          rw [g2, List.length_take, List.length_drop, bytesOf_length]; omega
        rcases ih with ⟨v, h⟩ | ⟨v, h⟩
        · refine .inl ⟨v, ?_⟩
          rw [h, g2, ← List.drop_drop, List.take_append_drop]
        · refine .inr ⟨v, ?_⟩
          rw [List.length_append, g3]
          omega
    · exact valid_from s d i (by omega) hi |> fun h => by
        have e1 : atsFrom s (d + 1) i = [] := by
          show (if i < s.size then _ else _) = _
          rw [if_neg c]
        have e2 : atsFrom s d i = [] := by
          cases d with
          | zero => rfl
          | succ d => show (if i < s.size then _ else _) = _; rw [if_neg c]
        rw [e1]
        rw [e2] at h
        exact h
theorem toList_inj {s t : ByteArray} (h : s.toList = t.toList) : s = t := by
  rw [Go.Lib.toList_data, Go.Lib.toList_data] at h
  apply bytesOf_inj
  unfold bytesOf
  rw [h]
/-- The points, written, are the text: where the text is of points alone. -/
theorem text_valid (s : ByteArray) : ((strOfNums (encAll (pts s))).toList = s.toList) ↔ Go.Lib.validD s.data.toList = true := by
  have h := valid_from s s.size 0 (by omega) (by omega)
  rw [List.drop_zero, List.drop_zero] at h
  constructor
  · intro e
    rcases h with ⟨v, _⟩ | ⟨_, h⟩
    · exact v
    · exfalso
      have e2 := congrArg (fun z => (bytesOf z).length) (toList_inj e)
      rw [bytesOf_strOfNums _ (encAll_range _), bytesOf_length] at e2
      unfold pts ats at e2
      omega
  · intro v
    rcases h with ⟨_, h⟩ | ⟨v2, _⟩
    · unfold pts ats
      rw [h, strOfNums_bytesOf]
    · rw [v] at v2; cases v2
end Go.Proofs.YtmlhnpggjkoinaaDoor.Lib

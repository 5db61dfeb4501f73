/- The points of a text, in plain Lean: the model's own decoder, place by place. -/
import Derived.Test.YtmlhnpggjkoinaaDoorLib
import Derived.Shelf.Unicode.DecodeSlow
set_option linter.unusedSimpArgs false
set_option linter.unusedVariables false
namespace Go.Proofs.YtmlhnpggjkoinaaDoor.Lib
open Go.RowKit Go.Proofs.YtmlhnpggjkoinaaDoorW.PrintWords Go.Proofs.YtmlhnpggjkoinaaDoorW.PrintLast Go.Proofs.YtmlhnpggjkoinaaDoorW.PrintMore

/-- The point at a place, and how many bytes it has. -/
def dec (s : ByteArray) (i : Nat) : Nat × Nat := Utf8.decode s i
theorem dec_eq (s : ByteArray) (i : Nat) : dec s i = Go.Lib.decodeN (s.size - i) (s.get! i).toNat (s.get! (i + 1)).toNat (s.get! (i + 2)).toNat (s.get! (i + 3)).toNat := Go.Lib.decode_at s i
theorem get!_lt (s : ByteArray) (i : Nat) : (s.get! i).toNat < 256 := (s.get! i).toNat_lt
theorem bt_get! (s : ByteArray) (i : Nat) : bt s (i : Int) = ((s.get! i).toNat : Int) := by
  unfold bt
  rw [Int.toNat_natCast]
  split
  · rename_i h
    have h' : i < s.data.size := h
    show ((s.data[i]'h').toNat : Int) = ((s.data[i]!).toNat : Int)
    rw [getElem!_pos s.data i h']
  · rename_i h
    have h' : ¬ i < s.data.size := h
    show (0 : Int) = ((s.data[i]!).toNat : Int)
    rw [getElem!_neg s.data i h']
    rfl
theorem extract_get! (s : ByteArray) (i j : Nat) : (s.extract i s.size).get! j = s.get! (i + j) := by
  show (s.extract i s.size).data[j]! = s.data[i + j]!
  have e : (s.extract i s.size).data = s.data.extract i s.size := ByteArray.data_extract
  rw [e]
  by_cases h : i + j < s.data.size
  · have hs : s.size = s.data.size := rfl
    rw [getElem!_pos s.data (i + j) h, getElem!_pos _ j (by rw [Array.size_extract]; omega), Array.getElem_extract]
  · have hs : s.size = s.data.size := rfl
    rw [getElem!_neg s.data (i + j) h, getElem!_neg _ j (by rw [Array.size_extract]; omega)]
theorem decodeGo_extract (s : ByteArray) (i : Nat) (h : i < s.size) : Go.Lib.decodeGo (s.extract i s.size) = dec s i := by
  have hsz : (s.extract i s.size).size = s.size - i := by rw [ByteArray.size_extract]; omega
  unfold Go.Lib.decodeGo
  rw [hsz, if_neg (by omega), Go.Lib.decode_at, dec_eq, hsz]
  simp only [extract_get!, Nat.sub_zero, Nat.zero_add, Nat.add_zero]
theorem dec_width (s : ByteArray) (i : Nat) (h : i < s.size) : 1 ≤ (dec s i).2 ∧ (dec s i).2 ≤ 4 ∧ i + (dec s i).2 ≤ s.size := by
  rw [dec_eq]
  unfold Go.Lib.decodeN
  have hn : 1 ≤ s.size - i := by omega
  generalize hz : s.size - i = n at hn
  have hs : s.size = i + n := by omega
  rw [hs]
  repeat' split
  all_goals simp only
  all_goals omega
theorem dec_range (s : ByteArray) (i : Nat) : isPt ((dec s i).1 : Int) = true := by
  rw [isPt_iff, dec_eq]
  have h0 := get!_lt s i
  have h1 := get!_lt s (i + 1)
  generalize (s.get! i).toNat = b0 at h0
  generalize (s.get! (i + 1)).toNat = b1 at h1
  unfold Go.Lib.decodeN
  repeat' split
  all_goals simp only
  all_goals omega
/-- A point that a text bears: what, from where, to where, a byte that is no point's. -/
structure At where
  p : Int
  a : Nat
  b : Nat
  bad : Bool
def atOf (s : ByteArray) (i : Nat) : At := ⟨((dec s i).1 : Int), i, i + (dec s i).2, decide ((dec s i).1 = 65533) && decide ((dec s i).2 = 1)⟩
/-- The points from place i on. -/
def atsFrom (s : ByteArray) : Nat → Nat → List At
  | 0, _ => []
  | d + 1, i => if i < s.size then atOf s i :: atsFrom s d (i + (dec s i).2) else []
theorem atsFrom_more (s : ByteArray) : ∀ (d e i : Nat), s.size ≤ i + d → d ≤ e → atsFrom s e i = atsFrom s d i
  | 0, e, i, h, _ => by
    cases e with
    | zero => rfl
    | succ e => show (if i < s.size then _ else _) = _; rw [if_neg (by omega)]; rfl
  | d + 1, e, i, h, he => by
    obtain ⟨e, rfl⟩ : ∃ m, e = m + 1 := ⟨e - 1, by omega⟩
    show (if i < s.size then _ else _) = (if i < s.size then _ else _)
    by_cases hi : i < s.size
    · rw [if_pos hi, if_pos hi, atsFrom_more s d e _ (by have := dec_width s i hi; omega) (by omega)]
    · rw [if_neg hi, if_neg hi]
theorem atsFrom_len (s : ByteArray) : ∀ (d i : Nat), i ≤ s.size → (atsFrom s d i).length + i ≤ s.size
  | 0, i, h => by simp [atsFrom]; exact h
  | d + 1, i, h => by
    unfold atsFrom
    by_cases hi : i < s.size
    · have w := dec_width s i hi
      have := atsFrom_len s d (i + (dec s i).2) w.2.2
      rw [if_pos hi, List.length_cons]
      omega
    · rw [if_neg hi]; simp; exact h
/-- The points of a text. -/
def ats (s : ByteArray) : List At := atsFrom s s.size 0
def pts (s : ByteArray) : List Int := (ats s).map At.p
theorem ats_len (s : ByteArray) : (ats s).length ≤ s.size := by have := atsFrom_len s s.size 0 (by omega); unfold ats; omega
theorem pts_len (s : ByteArray) : (pts s).length ≤ s.size := by unfold pts; rw [List.length_map]; exact ats_len s
theorem atsFrom_pt (s : ByteArray) : ∀ (d i : Nat), ∀ x ∈ atsFrom s d i, isPt x.p = true
  | 0, _, x, hx => by cases hx
  | d + 1, i, x, hx => by
    unfold atsFrom at hx
    split at hx
    · rcases List.mem_cons.1 hx with rfl | hx
      · exact dec_range s i
      · exact atsFrom_pt s d _ x hx
    · cases hx
theorem pts_pt (s : ByteArray) : ∀ p ∈ pts s, isPt p = true := by
  intro p hp
  obtain ⟨x, hx, rfl⟩ := List.mem_map.1 hp
  exact atsFrom_pt s s.size 0 x hx

/-! what the reference's reader tells, in numbers -/
theorem enc_length (p : Int) : (enc p).length = if p < 128 then 1 else if p < 2048 then 2 else if p < 65536 then 3 else 4 := by
  unfold enc
  repeat' split
  all_goals rfl
def lastN (p : Int) (n : Nat) : Int × Int × Bool := if isPt p = true then (if (enc (fixPt p)).length = n then (p, (n : Int), true) else (65533, 1, false)) else (65533, 1, false)
def told (x : Nat × Nat) : Int × Int × Bool := ((x.1 : Int), (x.2 : Int), !(decide (x.1 = 65533) && decide (x.2 = 1)))
theorem last_enc (p : Int) (n : Nat) : lastN p n = if (0 ≤ p ∧ p ≤ 1114111 ∧ (p < 55296 ∨ p > 57343)) ∧ (if p < 128 then 1 else if p < 2048 then 2 else if p < 65536 then 3 else 4) = n then (p, (n : Int), true) else (65533, 1, false) := by
  unfold lastN
  by_cases h : isPt p = true
  · have hr := (isPt_iff p).1 h
    have hf : fixPt p = p := by unfold fixPt; rw [if_pos h]
    rw [if_pos h, hf, enc_length]
    by_cases h2 : (if p < 128 then 1 else if p < 2048 then 2 else if p < 65536 then 3 else 4) = n
    · rw [if_pos h2, if_pos ⟨hr, h2⟩]
    · rw [if_neg h2, if_neg (fun h => h2 h.2)]
  · have hr := fun h' => h ((isPt_iff p).2 h')
    rw [if_neg h, if_neg (fun h => hr h.1)]
def cont (n k b : Nat) : Prop := k < n ∧ 128 ≤ b ∧ b ≤ 191
instance (n k b : Nat) : Decidable (cont n k b) := inferInstanceAs (Decidable (_ ∧ _))
def specN (n b0 b1 b2 b3 : Nat) : Int × Int × Bool :=
  if b0 < 128 then ((b0 : Int), 1, true)
  else if 194 ≤ b0 ∧ b0 < 224 then (if cont n 1 b1 then lastN ((b0 : Int) % 32 * 64 + (b1 : Int) % 64) 2 else (65533, 1, false))
  else if 224 ≤ b0 ∧ b0 < 240 then (if 2 < n ∧ cont n 1 b1 ∧ cont n 2 b2 then lastN (((b0 : Int) % 16 * 64 + (b1 : Int) % 64) * 64 + (b2 : Int) % 64) 3 else (65533, 1, false))
  else if 240 ≤ b0 ∧ b0 < 245 then (if 3 < n ∧ cont n 1 b1 ∧ cont n 2 b2 ∧ cont n 3 b3 then lastN ((((b0 : Int) % 8 * 64 + (b1 : Int) % 64) * 64 + (b2 : Int) % 64) * 64 + (b3 : Int) % 64) 4 else (65533, 1, false))
  else (65533, 1, false)
theorem told_bad : told (65533, 1) = (65533, 1, false) := by decide
theorem told_good (c n : Nat) (h : 2 ≤ n) : told (c, n) = ((c : Int), (n : Int), true) := by
  unfold told
  simp only [show (decide (n = 1)) = false from decide_eq_false (by omega), Bool.and_false, Bool.not_false]
theorem specN_eq (n b0 b1 b2 b3 : Nat) (h0 : b0 < 256) (h1 : b1 < 256) (h2 : b2 < 256) (h3 : b3 < 256) : specN n b0 b1 b2 b3 = told (Go.Lib.decodeN n b0 b1 b2 b3) := by
  unfold specN Go.Lib.decodeN
  by_cases c0 : b0 < 128
  · rw [if_pos c0, if_pos c0]
    unfold told
    simp only [show (decide (b0 = 65533)) = false from decide_eq_false (by omega), Bool.false_and, Bool.not_false]
    rfl
  rw [if_neg c0, if_neg c0]
  by_cases c1 : 194 ≤ b0 ∧ b0 < 224
  · rw [if_pos c1]
    by_cases d : cont n 1 b1
    · unfold cont at d
      rw [if_pos (show cont n 1 b1 from d), if_pos (show b0 / 32 = 6 ∧ 1 < n ∧ b1 / 64 = 2 by omega), if_pos (by omega), told_good _ _ (by omega), last_enc, if_pos (by
        refine ⟨by omega, ?_⟩
        rw [if_neg (by omega), if_pos (by omega)])]
      simp
    · unfold cont at d
      rw [if_neg (show ¬ cont n 1 b1 from d), if_neg (show ¬ (b0 / 32 = 6 ∧ 1 < n ∧ b1 / 64 = 2) by omega), if_neg (by omega), if_neg (by omega), told_bad]
  rw [if_neg c1]
  by_cases c2 : 224 ≤ b0 ∧ b0 < 240
  · rw [if_pos c2, if_neg (show ¬ (b0 / 32 = 6 ∧ 1 < n ∧ b1 / 64 = 2) by omega)]
    by_cases d : 2 < n ∧ cont n 1 b1 ∧ cont n 2 b2
    · rw [if_pos d]
      unfold cont at d
      rw [if_pos (show b0 / 16 = 14 ∧ (1 < n ∧ b1 / 64 = 2) ∧ (2 < n ∧ b2 / 64 = 2) by omega), last_enc]
      have e : ((b0 : Int) % 16 * 64 + (b1 : Int) % 64) * 64 + (b2 : Int) % 64 = ((b0 % 16 * 4096 + b1 % 64 * 64 + b2 % 64 : Nat) : Int) := by omega
      rw [e]
      generalize b0 % 16 * 4096 + b1 % 64 * 64 + b2 % 64 = c at *
      by_cases v : c ≥ 2048 ∧ (c < 55296 ∨ (57344 ≤ c ∧ c ≤ 1114111))
      · have hc : c < 65536 := by omega
        rw [if_pos v, told_good _ _ (by omega), if_pos (by
          refine ⟨by omega, ?_⟩
          rw [if_neg (by omega), if_neg (by omega), if_pos (by omega)])]
      · rw [if_neg v, told_bad, if_neg]
        rintro ⟨g1, g2⟩
        split at g2
        · omega
        · split at g2 <;> omega
    · rw [if_neg d]
      unfold cont at d
      rw [if_neg (show ¬ (b0 / 16 = 14 ∧ (1 < n ∧ b1 / 64 = 2) ∧ (2 < n ∧ b2 / 64 = 2)) by omega), if_neg (by omega), told_bad]
  rw [if_neg c2]
  by_cases c3 : 240 ≤ b0 ∧ b0 < 245
  · rw [if_pos c3, if_neg (show ¬ (b0 / 32 = 6 ∧ 1 < n ∧ b1 / 64 = 2) by omega), if_neg (show ¬ (b0 / 16 = 14 ∧ (1 < n ∧ b1 / 64 = 2) ∧ (2 < n ∧ b2 / 64 = 2)) by omega)]
    by_cases d : 3 < n ∧ cont n 1 b1 ∧ cont n 2 b2 ∧ cont n 3 b3
    · rw [if_pos d]
      unfold cont at d
      rw [if_pos (show b0 / 8 = 30 ∧ (1 < n ∧ b1 / 64 = 2) ∧ (2 < n ∧ b2 / 64 = 2) ∧ (3 < n ∧ b3 / 64 = 2) by omega), last_enc]
      have e : (((b0 : Int) % 8 * 64 + (b1 : Int) % 64) * 64 + (b2 : Int) % 64) * 64 + (b3 : Int) % 64 = ((b0 % 8 * 262144 + b1 % 64 * 4096 + b2 % 64 * 64 + b3 % 64 : Nat) : Int) := by omega
      rw [e]
      generalize b0 % 8 * 262144 + b1 % 64 * 4096 + b2 % 64 * 64 + b3 % 64 = c at *
      by_cases v : c ≥ 65536 ∧ (c < 55296 ∨ (57344 ≤ c ∧ c ≤ 1114111))
      · rw [if_pos v, told_good _ _ (by omega), if_pos (by
          refine ⟨by omega, ?_⟩
          rw [if_neg (by omega), if_neg (by omega), if_neg (by omega)])]
      · rw [if_neg v, told_bad, if_neg]
        rintro ⟨g1, g2⟩
        split at g2
        · omega
        · split at g2
          · omega
          · split at g2 <;> omega
    · rw [if_neg d]
      unfold cont at d
      rw [if_neg (show ¬ (b0 / 8 = 30 ∧ (1 < n ∧ b1 / 64 = 2) ∧ (2 < n ∧ b2 / 64 = 2) ∧ (3 < n ∧ b3 / 64 = 2)) by omega), told_bad]
  rw [if_neg c3]
  by_cases e1 : b0 / 32 = 6 ∧ 1 < n ∧ b1 / 64 = 2
  · rw [if_pos e1, if_neg (by omega), told_bad]
  rw [if_neg e1, if_neg (show ¬ (b0 / 16 = 14 ∧ (1 < n ∧ b1 / 64 = 2) ∧ (2 < n ∧ b2 / 64 = 2)) by omega)]
  by_cases e2 : b0 / 8 = 30 ∧ (1 < n ∧ b1 / 64 = 2) ∧ (2 < n ∧ b2 / 64 = 2) ∧ (3 < n ∧ b3 / 64 = 2)
  · rw [if_pos e2, if_neg (by omega), told_bad]
  · rw [if_neg e2, told_bad]
theorem spec_dec (s : ByteArray) (i : Nat) : specN (s.size - i) (s.get! i).toNat (s.get! (i + 1)).toNat (s.get! (i + 2)).toNat (s.get! (i + 3)).toNat = told (dec s i) := by
  rw [dec_eq]
  exact specN_eq _ _ _ _ _ (get!_lt _ _) (get!_lt _ _) (get!_lt _ _) (get!_lt _ _)

end Go.Proofs.YtmlhnpggjkoinaaDoor.Lib

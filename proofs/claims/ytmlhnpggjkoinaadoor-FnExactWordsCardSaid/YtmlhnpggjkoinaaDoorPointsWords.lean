/- What the printed functions that read a text's points come to: read, points; l01Next, l01Points. -/
import Derived.Test.YtmlhnpggjkoinaaDoorPFnExactWordsx
import Derived.Test.YtmlhnpggjkoinaaDoorDec
import Derived.Test.YtmlhnpggjkoinaaDoorWriteWords
set_option linter.unusedSimpArgs false
set_option linter.unusedVariables false
namespace Go.Proofs.YtmlhnpggjkoinaaDoor.PFnExactWords
open Go.RowKit Go.Proofs.YtmlhnpggjkoinaaDoorW.PrintWords Go.Proofs.YtmlhnpggjkoinaaDoorW.PrintLast Go.Proofs.YtmlhnpggjkoinaaDoorW.PrintMore Go.Proofs.YtmlhnpggjkoinaaDoor.Lib

/-- A point, as the program's 'at'. -/
def asAt (x : At) : S74 := ⟨x.p, (x.a : Int), (x.b : Int), x.bad⟩
theorem rdA_nat (xs : List S74) (n : Nat) (h : n < xs.length) : rd_T74 xs (n : Int) = xs[n] := by
  simp [rd_T74, List.getD_eq_getElem?_getD, List.getElem?_eq_getElem h]
theorem read_l0 (s : ByteArray) (hs : s.size ≤ 1048576) : ∀ (d k i : Nat) (x : List S74), s.size ≤ i + d → d < k → i ≤ s.size → x.length ≤ i → impl_read.l0 k s x (i : Int) = some (x ++ (atsFrom s d i).map asAt) := by
  intro d
  induction d with
  | zero =>
    intro k i x hd hk hi hx
    obtain ⟨k, rfl⟩ : ∃ m, k = m + 1 := ⟨k - 1, by omega⟩
    rw [impl_read.l0, if_neg (by omega)]
    simp [atsFrom]
  | succ d ih =>
    intro k i x hd hk hi hx
    obtain ⟨k, rfl⟩ : ∃ m, k = m + 1 := ⟨k - 1, by omega⟩
    by_cases hlt : i < s.size
    · have w := dec_width s i hlt
      have r := (isPt_iff _).1 (dec_range s i)
      rw [impl_read.l0, if_pos (by omega), if_pos (by omega), if_pos (by omega), Int.toNat_natCast]
      unfold utf8_DecodeRuneInString.f
      rw [decodeGo_extract s i hlt]
      simp only [Option.bind_some]
      have w1 : wrap64 ((dec s i).1 : Int) = ((dec s i).1 : Int) := w64 (by omega) (by omega)
      have w2 : wrap64 ((i : Int) + ((dec s i).2 : Int)) = ((i + (dec s i).2 : Nat) : Int) := by rw [w64 (by omega) (by omega)]; omega
      have hx4 : x.length < 4398046511104 := by omega
      rw [w1, w2]
      simp only [if_pos hx4]
      have key : ∀ b : Bool, b = (decide ((dec s i).1 = 65533) && decide ((dec s i).2 = 1)) → impl_read.l0 k s (x ++ [(⟨((dec s i).1 : Int), (i : Int), ((i + (dec s i).2 : Nat) : Int), b⟩ : S74)]) ((i + (dec s i).2 : Nat) : Int) = some (x ++ (atsFrom s (d + 1) i).map asAt) := by
        intro b hb
        rw [ih k (i + (dec s i).2) _ (by omega) (by omega) (by omega) (by simp; omega), atsFrom, if_pos hlt]
        simp [asAt, atOf, hb]
      by_cases h5 : ((dec s i).1 : Int) = 65533
      · rw [if_pos h5]
        refine (key _ ?_)
        have h6 : (dec s i).1 = 65533 := by omega
        rw [decide_eq_true h6, Bool.true_and, Bool.eq_iff_iff]
        simp only [beq_iff_eq, decide_eq_true_eq]
        omega
      · rw [if_neg h5]
        refine (key _ ?_)
        have h6 : ¬ (dec s i).1 = 65533 := by omega
        rw [decide_eq_false h6, Bool.false_and]
    · rw [impl_read.l0, if_neg (by omega), atsFrom, if_neg hlt]
      simp
theorem read_eq (s : ByteArray) (k : Nat) (hk : s.size + 1 ≤ k) (hs : s.size ≤ 1048576) : impl_read.f k s = some ((ats s).map asAt) := by
  unfold impl_read.f
  have := read_l0 s hs s.size k 0 [] (by omega) (by omega) (by omega) (by simp)
  simpa [ats] using this
theorem points_l0 (l : List S74) (hl : l.length ≤ 1048576) : ∀ (d n k : Nat) (x : List Int), n + d = l.length → d < k → x.length = n → impl_points.l0 k x l (l.length : Int) (n : Int) = some (x ++ (l.drop n).map (fun a => a.f0)) := by
  intro d
  induction d with
  | zero =>
    intro n k x hn hk hx
    obtain ⟨k, rfl⟩ : ∃ m, k = m + 1 := ⟨k - 1, by omega⟩
    rw [impl_points.l0, if_neg (by omega), List.drop_eq_nil_of_le (by omega)]
    simp
  | succ d ih =>
    intro n k x hn hk hx
    obtain ⟨k, rfl⟩ : ∃ m, k = m + 1 := ⟨k - 1, by omega⟩
    have hlt : n < l.length := by omega
    rw [impl_points.l0, if_pos (by omega), if_pos (by omega), if_pos (by omega), if_pos (by omega), rdA_nat l n hlt, w64s hlt (by omega), ih (n + 1) k _ (by omega) (by omega) (by simp; omega), List.drop_eq_getElem_cons hlt]
    simp only [List.map_cons, List.append_assoc, List.cons_append, List.nil_append]
theorem points_eq (s : ByteArray) (k : Nat) (hk : s.size + 1 ≤ k) (hs : s.size ≤ 1048576) : impl_points.f k s = some (pts s) := by
  unfold impl_points.f
  rw [read_eq s k hk hs]
  simp only [Option.bind_some]
  have hl : ((ats s).map asAt).length ≤ s.size := by rw [List.length_map]; exact ats_len s
  have := points_l0 ((ats s).map asAt) (by omega) ((ats s).map asAt).length 0 k [] (by omega) (by omega) (by simp)
  refine (show _ = _ from this).trans ?_
  simp [pts, asAt]

theorem next_round (s : ByteArray) (hs : s.size ≤ 1048576) (k i n j : Nat) (p : Int) (hj : j ≤ n) (hin : i + n < s.size) (hp : 0 ≤ p ∧ p ≤ 100000000) :
    spec_l01Next.l0 (k + 1) s (i : Int) (n : Int) p (j : Int) = if 128 ≤ (s.get! (i + j)).toNat ∧ (s.get! (i + j)).toNat ≤ 191 then spec_l01Next.l0 k s (i : Int) (n : Int) (p * 64 + ((s.get! (i + j)).toNat : Int) % 64) ((j + 1 : Nat) : Int) else some (65533, 1, false) := by
  have w : wrap64 ((i : Int) + (j : Int)) = ((i + j : Nat) : Int) := by rw [w64 (by omega) (by omega)]; omega
  have hb := get!_lt s (i + j)
  rw [spec_l01Next.l0, if_pos (by omega), w, if_pos (by omega), if_pos (by omega), bt_get!]
  generalize (s.get! (i + j)).toNat = b at hb
  have wb : wrap64 ((b : Int)) = (b : Int) := w64 (by omega) (by omega)
  have mb : Int.tmod (b : Int) 64 = (b : Int) % 64 := Int.tmod_eq_emod_of_nonneg (by omega)
  have wp : wrap64 (wrap64 (p * 64) + (b : Int) % 64) = p * 64 + (b : Int) % 64 := by rw [w64 (x := p * 64) (by omega) (by omega), w64 (by omega) (by omega)]
  have wj : wrap64 ((j : Int) + 1) = ((j + 1 : Nat) : Int) := by rw [w64 (by omega) (by omega)]; omega
  rw [wb, mb, wp, wj]
  by_cases h1 : (b : Int) < 128
  · rw [if_pos h1, if_neg (by omega)]
  · rw [if_neg h1]
    by_cases h2 : (b : Int) > 191
    · rw [if_pos h2, if_neg (by omega)]
    · rw [if_neg h2, if_pos (by omega)]
theorem next_last (s : ByteArray) (k i n : Nat) (p : Int) (hn : n ≤ 3) (hp : 0 ≤ p) : spec_l01Next.l0 (k + 2) s (i : Int) (n : Int) p ((n + 1 : Nat) : Int) = some (lastN p (n + 1)) := by
  have wn : wrap64 ((n : Int) + 1) = ((n + 1 : Nat) : Int) := by rw [w64 (by omega) (by omega)]; omega
  rw [spec_l01Next.l0, if_neg (by omega), isPointS_eq, wn, Option.bind_some]
  have key : (if isPt p = true then ((spec_l01Write.f (k+1) p).bind fun t115 => (if (t115.size : Int) = ((n + 1 : Nat) : Int) then (some (p, ((n + 1 : Nat) : Int), true)) else (some (65533, 1, false)))) else (some (65533, 1, false))) = some (lastN p (n + 1)) := by
    unfold lastN
    by_cases h : isPt p = true
    · rw [if_pos h, if_pos h, specWrite_eq, Option.bind_some, strOfNums_size]
      by_cases e : (enc (fixPt p)).length = n + 1
      · have e' : (((enc (fixPt p)).length : Nat) : Int) = ((n + 1 : Nat) : Int) := congrArg Int.ofNat e
        rw [if_pos e', if_pos e]
      · have e' : ¬ (((enc (fixPt p)).length : Nat) : Int) = ((n + 1 : Nat) : Int) := by omega
        rw [if_neg e', if_neg e]
    · rw [if_neg h, if_neg h]
  exact key
theorem next_j2 (s : ByteArray) (hs : s.size ≤ 1048576) (k i n : Nat) (p : Int) (hk : 8 ≤ k) (hn : 1 ≤ n ∧ n ≤ 3) (hi : i < s.size) (hp : 0 ≤ p ∧ p < 32) :
    spec_l01Next.j2 k s (i : Int) (n : Int) p = some (
      if n < s.size - i then
        (if n = 1 then (if cont (s.size - i) 1 (s.get! (i + 1)).toNat then lastN (p * 64 + ((s.get! (i + 1)).toNat : Int) % 64) 2 else (65533, 1, false))
        else if n = 2 then (if cont (s.size - i) 1 (s.get! (i + 1)).toNat ∧ cont (s.size - i) 2 (s.get! (i + 2)).toNat then lastN ((p * 64 + ((s.get! (i + 1)).toNat : Int) % 64) * 64 + ((s.get! (i + 2)).toNat : Int) % 64) 3 else (65533, 1, false))
        else (if cont (s.size - i) 1 (s.get! (i + 1)).toNat ∧ cont (s.size - i) 2 (s.get! (i + 2)).toNat ∧ cont (s.size - i) 3 (s.get! (i + 3)).toNat then lastN (((p * 64 + ((s.get! (i + 1)).toNat : Int) % 64) * 64 + ((s.get! (i + 2)).toNat : Int) % 64) * 64 + ((s.get! (i + 3)).toNat : Int) % 64) 4 else (65533, 1, false)))
      else (65533, 1, false)) := by
  obtain ⟨k, rfl⟩ : ∃ m, k = m + 8 := ⟨k - 8, by omega⟩
  have w : wrap64 ((i : Int) + (n : Int)) = ((i + n : Nat) : Int) := by rw [w64 (by omega) (by omega)]; omega
  rw [spec_l01Next.j2, w]
  by_cases hin : i + n < s.size
  · rw [if_neg (by omega), if_pos (show n < s.size - i by omega)]
    have b1 := get!_lt s (i + 1)
    have b2 := get!_lt s (i + 2)
    have b3 := get!_lt s (i + 3)
    have r1 := next_round s hs (k + 6) i n 1 p (by omega) hin (by omega)
    rw [show ((1 : Nat) : Int) = 1 from rfl] at r1
    rw [show k + 7 = k + 6 + 1 from rfl, r1]
    have c1 : cont (s.size - i) 1 (s.get! (i + 1)).toNat = (128 ≤ (s.get! (i + 1)).toNat ∧ (s.get! (i + 1)).toNat ≤ 191) := by unfold cont; exact propext ⟨fun h => h.2, fun h => ⟨by omega, h⟩⟩
    simp only [c1]
    by_cases d1 : 128 ≤ (s.get! (i + 1)).toNat ∧ (s.get! (i + 1)).toNat ≤ 191
    · rw [if_pos d1]
      by_cases n1 : n = 1
      · subst n1
        rw [if_pos rfl, if_pos d1, show k + 6 = (k + 4) + 2 from rfl, next_last s (k + 4) i 1 _ (by omega) (by omega)]
      · rw [if_neg n1]
        rw [show k + 6 = k + 5 + 1 from rfl, next_round s hs (k + 5) i n 2 _ (by omega) hin (by omega)]
        have c2 : cont (s.size - i) 2 (s.get! (i + 2)).toNat = (128 ≤ (s.get! (i + 2)).toNat ∧ (s.get! (i + 2)).toNat ≤ 191) := by unfold cont; exact propext ⟨fun h => h.2, fun h => ⟨by omega, h⟩⟩
        simp only [c2]
        by_cases d2 : 128 ≤ (s.get! (i + 2)).toNat ∧ (s.get! (i + 2)).toNat ≤ 191
        · rw [if_pos d2]
          by_cases n2 : n = 2
          · subst n2
            rw [if_pos rfl, if_pos ⟨d1, d2⟩, show k + 5 = (k + 3) + 2 from rfl, next_last s (k + 3) i 2 _ (by omega) (by omega)]
          · have n3 : n = 3 := by omega
            subst n3
            rw [if_neg (by omega), show k + 5 = k + 4 + 1 from rfl, next_round s hs (k + 4) i 3 3 _ (by omega) hin (by omega)]
            have c3 : cont (s.size - i) 3 (s.get! (i + 3)).toNat = (128 ≤ (s.get! (i + 3)).toNat ∧ (s.get! (i + 3)).toNat ≤ 191) := by unfold cont; exact propext ⟨fun h => h.2, fun h => ⟨by omega, h⟩⟩
            simp only [c3]
            by_cases d3 : 128 ≤ (s.get! (i + 3)).toNat ∧ (s.get! (i + 3)).toNat ≤ 191
            · rw [if_pos d3, if_pos ⟨d1, d2, d3⟩, show k + 4 = (k + 2) + 2 from rfl, next_last s (k + 2) i 3 _ (by omega) (by omega)]
            · rw [if_neg d3, if_neg (fun h => d3 h.2.2)]
        · rw [if_neg d2]
          simp only [d2, false_and, and_false, if_false, ite_self]
    · rw [if_neg d1]
      simp only [d1, false_and, if_false, ite_self]
  · rw [if_pos (by omega), if_neg (by omega)]
theorem next_eq (s : ByteArray) (hs : s.size ≤ 1048576) (k i : Nat) (hk : 12 ≤ k) (hi : i < s.size) : spec_l01Next.f k s (i : Int) = some (told (dec s i)) := by
  obtain ⟨k, rfl⟩ : ∃ m, k = m + 12 := ⟨k - 12, by omega⟩
  rw [← spec_dec]
  have hb := get!_lt s i
  unfold spec_l01Next.f specN
  rw [if_pos (by omega), if_pos (by omega), bt_get!]
  have wb : wrap64 (((s.get! i).toNat : Int)) = ((s.get! i).toNat : Int) := w64 (by omega) (by omega)
  rw [wb]
  generalize (s.get! i).toNat = b at hb
  by_cases h0 : b < 128
  · rw [if_pos (by omega), if_pos h0]
  rw [if_neg (by omega), if_neg h0]
  have m1 : Int.tmod (b : Int) 32 = (b : Int) % 32 := Int.tmod_eq_emod_of_nonneg (by omega)
  have m2 : Int.tmod (b : Int) 16 = (b : Int) % 16 := Int.tmod_eq_emod_of_nonneg (by omega)
  have m3 : Int.tmod (b : Int) 8 = (b : Int) % 8 := Int.tmod_eq_emod_of_nonneg (by omega)
  have e1 := next_j2 s hs (k + 11) i 1 ((b : Int) % 32) (by omega) (by omega) hi (by omega)
  have e2 := next_j2 s hs (k + 10) i 2 ((b : Int) % 16) (by omega) (by omega) hi (by omega)
  have e3 := next_j2 s hs (k + 10) i 3 ((b : Int) % 8) (by omega) (by omega) hi (by omega)
  rw [show ((1 : Nat) : Int) = 1 from rfl] at e1
  rw [show ((2 : Nat) : Int) = 2 from rfl] at e2
  rw [show ((3 : Nat) : Int) = 3 from rfl] at e3
  have j1 : ∀ c : Bool, c = decide (224 ≤ b ∧ b < 240) → spec_l01Next.j1 (k + 11) s (i : Int) (b : Int) c = some (if 224 ≤ b ∧ b < 240 then (if 2 < s.size - i ∧ cont (s.size - i) 1 (s.get! (i + 1)).toNat ∧ cont (s.size - i) 2 (s.get! (i + 2)).toNat then lastN (((b : Int) % 16 * 64 + ((s.get! (i + 1)).toNat : Int) % 64) * 64 + ((s.get! (i + 2)).toNat : Int) % 64) 3 else (65533, 1, false)) else if 240 ≤ b ∧ b < 245 then (if 3 < s.size - i ∧ cont (s.size - i) 1 (s.get! (i + 1)).toNat ∧ cont (s.size - i) 2 (s.get! (i + 2)).toNat ∧ cont (s.size - i) 3 (s.get! (i + 3)).toNat then lastN ((((b : Int) % 8 * 64 + ((s.get! (i + 1)).toNat : Int) % 64) * 64 + ((s.get! (i + 2)).toNat : Int) % 64) * 64 + ((s.get! (i + 3)).toNat : Int) % 64) 4 else (65533, 1, false)) else (65533, 1, false)) := by
    intro c hc
    rw [spec_l01Next.j1, m2, m3, e2, e3, hc]
    by_cases g : 224 ≤ b ∧ b < 240
    · rw [if_pos (decide_eq_true g), if_pos g]
      by_cases z : 2 < s.size - i
      · rw [if_pos z, if_neg (by omega), if_pos rfl]
        by_cases y : cont (s.size - i) 1 (s.get! (i + 1)).toNat ∧ cont (s.size - i) 2 (s.get! (i + 2)).toNat
        · rw [if_pos y, if_pos ⟨z, y⟩]
        · rw [if_neg y, if_neg (fun h => y h.2)]
      · rw [if_neg z, if_neg (fun h => z h.1)]
    · rw [if_neg (by simpa using g), if_neg g]
      by_cases g2 : 240 ≤ b ∧ b < 245
      · rw [if_pos (by omega), if_pos (by omega), if_pos g2]
        by_cases z : 3 < s.size - i
        · rw [if_pos z, if_neg (by omega), if_neg (by omega)]
          by_cases y : cont (s.size - i) 1 (s.get! (i + 1)).toNat ∧ cont (s.size - i) 2 (s.get! (i + 2)).toNat ∧ cont (s.size - i) 3 (s.get! (i + 3)).toNat
          · rw [if_pos y, if_pos ⟨z, y⟩]
          · rw [if_neg y, if_neg (fun h => y h.2)]
        · rw [if_neg z, if_neg (fun h => z h.1)]
      · rw [if_neg g2]
        by_cases g3 : (b : Int) ≥ 240
        · rw [if_pos g3, if_neg (by omega)]
        · rw [if_neg g3]
  have j0 : ∀ c : Bool, c = decide (194 ≤ b ∧ b < 224) → spec_l01Next.j0 (k + 12) s (i : Int) (b : Int) c = some (if 194 ≤ b ∧ b < 224 then (if cont (s.size - i) 1 (s.get! (i + 1)).toNat then lastN ((b : Int) % 32 * 64 + ((s.get! (i + 1)).toNat : Int) % 64) 2 else (65533, 1, false)) else if 224 ≤ b ∧ b < 240 then (if 2 < s.size - i ∧ cont (s.size - i) 1 (s.get! (i + 1)).toNat ∧ cont (s.size - i) 2 (s.get! (i + 2)).toNat then lastN (((b : Int) % 16 * 64 + ((s.get! (i + 1)).toNat : Int) % 64) * 64 + ((s.get! (i + 2)).toNat : Int) % 64) 3 else (65533, 1, false)) else if 240 ≤ b ∧ b < 245 then (if 3 < s.size - i ∧ cont (s.size - i) 1 (s.get! (i + 1)).toNat ∧ cont (s.size - i) 2 (s.get! (i + 2)).toNat ∧ cont (s.size - i) 3 (s.get! (i + 3)).toNat then lastN ((((b : Int) % 8 * 64 + ((s.get! (i + 1)).toNat : Int) % 64) * 64 + ((s.get! (i + 2)).toNat : Int) % 64) * 64 + ((s.get! (i + 3)).toNat : Int) % 64) 4 else (65533, 1, false)) else (65533, 1, false)) := by
    intro c hc
    rw [spec_l01Next.j0, m1, e1, hc]
    by_cases g : 194 ≤ b ∧ b < 224
    · rw [if_pos (decide_eq_true g), if_pos g, if_pos rfl]
      by_cases z : 1 < s.size - i
      · rw [if_pos z]
      · rw [if_neg z, if_neg (fun h => z h.1)]
    · rw [if_neg (by simpa using g), if_neg g]
      by_cases g2 : (b : Int) ≥ 224
      · rw [if_pos g2]
        exact j1 _ (decide_eq_decide.2 (by omega))
      · rw [if_neg g2]
        exact j1 _ (decide_eq_false (by omega)).symm
  by_cases g : (b : Int) ≥ 194
  · rw [if_pos g]
    exact j0 _ (decide_eq_decide.2 (by omega))
  · rw [if_neg g]
    exact j0 _ (decide_eq_false (by omega)).symm
theorem specPoints_l0 (s : ByteArray) (hs : s.size ≤ 1048576) : ∀ (d k i : Nat) (x : List Int), s.size ≤ i + d → d + 12 < k → i ≤ s.size → x.length ≤ i → spec_l01Points.l0 k s x (i : Int) = some (x ++ (atsFrom s d i).map At.p) := by
  intro d
  induction d with
  | zero =>
    intro k i x hd hk hi hx
    obtain ⟨k, rfl⟩ : ∃ m, k = m + 1 := ⟨k - 1, by omega⟩
    rw [spec_l01Points.l0, if_neg (by omega)]
    simp [atsFrom]
  | succ d ih =>
    intro k i x hd hk hi hx
    obtain ⟨k, rfl⟩ : ∃ m, k = m + 1 := ⟨k - 1, by omega⟩
    by_cases hlt : i < s.size
    · have w := dec_width s i hlt
      rw [spec_l01Points.l0, if_pos (by omega), next_eq s hs k i (by omega) hlt]
      simp only [Option.bind_some, told]
      have w2 : wrap64 ((i : Int) + ((dec s i).2 : Int)) = ((i + (dec s i).2 : Nat) : Int) := by rw [w64 (by omega) (by omega)]; omega
      rw [w2, if_pos (show x.length < 17592186044416 by omega), ih k (i + (dec s i).2) _ (by omega) (by omega) (by omega) (by simp; omega), atsFrom, if_pos hlt]
      simp [atOf]
    · rw [spec_l01Points.l0, if_neg (by omega), atsFrom, if_neg hlt]
      simp
theorem specPoints_eq (s : ByteArray) (k : Nat) (hk : s.size + 13 ≤ k) (hs : s.size ≤ 1048576) : spec_l01Points.f k s = some (pts s) := by
  unfold spec_l01Points.f
  have := specPoints_l0 s hs s.size k 0 [] (by omega) (by omega) (by omega) (by simp)
  simpa [pts, ats] using this

end Go.Proofs.YtmlhnpggjkoinaaDoor.PFnExactWords

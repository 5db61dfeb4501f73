/- What is written of points is well written. -/
import Derived.Test.YtnbedmihgnjdpaaDoorValid
import Derived.Lib.DecodeN
set_option linter.unusedSimpArgs false
set_option linter.unusedVariables false
namespace Go.Proofs.YtnbedmihgnjdpaaDoor.Lib
open Go.RowKit Go.Proofs.YtnbedmihgnjdpaaDoorW.PrintWords Go.Proofs.YtnbedmihgnjdpaaDoorW.PrintLast
theorem dN1 (n b0 b1 b2 b3 : Nat) (h : b0 < 128) : Go.Lib.decodeN n b0 b1 b2 b3 = (b0, 1) := by unfold Go.Lib.decodeN; rw [if_pos h]
theorem dN2 (n m b2 b3 : Nat) (h : 128 ≤ m ∧ m < 2048) (hn : 1 < n) : Go.Lib.decodeN n (192 + m / 64) (128 + m % 64) b2 b3 = (m, 2) := by
  unfold Go.Lib.decodeN
  rw [if_neg (by omega), if_pos ⟨by omega, hn, by omega⟩, if_pos (by omega)]
  congr 1; omega
theorem dN3 (n m b3 : Nat) (h : 2048 ≤ m ∧ m < 65536 ∧ (m < 55296 ∨ m > 57343)) (hn : 2 < n) : Go.Lib.decodeN n (224 + m / 4096) (128 + m / 64 % 64) (128 + m % 64) b3 = (m, 3) := by
  unfold Go.Lib.decodeN
  have e : (224 + m / 4096) % 16 * 4096 + (128 + m / 64 % 64) % 64 * 64 + (128 + m % 64) % 64 = m := by omega
  rw [if_neg (by omega), if_neg (by omega), if_pos ⟨by omega, ⟨by omega, by omega⟩, ⟨by omega, by omega⟩⟩, e, if_pos (by omega)]
theorem dN4 (n m : Nat) (h : 65536 ≤ m ∧ m ≤ 1114111) (hn : 3 < n) : Go.Lib.decodeN n (240 + m / 262144) (128 + m / 4096 % 64) (128 + m / 64 % 64) (128 + m % 64) = (m, 4) := by
  unfold Go.Lib.decodeN
  have e : (240 + m / 262144) % 8 * 262144 + (128 + m / 4096 % 64) % 64 * 4096 + (128 + m / 64 % 64) % 64 * 64 + (128 + m % 64) % 64 = m := by omega
  rw [if_neg (by omega), if_neg (by omega), if_neg (by omega), if_pos ⟨by omega, ⟨by omega, by omega⟩, ⟨by omega, by omega⟩, ⟨by omega, by omega⟩⟩, e, if_pos (by omega)]
def u8 (z : Int) : UInt8 := z.toNat.toUInt8
theorem u8_nat (n : Nat) (h : n < 256) : (u8 (n : Int)).toNat = n := by
  unfold u8
  rw [Int.toNat_natCast, show n.toUInt8 = UInt8.ofNat n from rfl, UInt8.toNat_ofNat']
  omega
theorem valid_enc (q : Int) (h : isPt q = true) (t : List UInt8) : Go.Lib.validD ((enc q).map u8 ++ t) = Go.Lib.validD t := by
  have hr := (isPt_iff q).1 h
  obtain ⟨m, rfl⟩ : ∃ m : Nat, q = (m : Int) := ⟨q.toNat, by omega⟩
  unfold enc
  by_cases c1 : (m : Int) < 128
  · rw [if_pos c1]
    rw [Go.Lib.validD_step _ (by simp), Go.Lib.decodeL_N]
    simp only [List.map_cons, List.map_nil, List.cons_append, List.nil_append, List.getD_cons_zero, u8_nat m (by omega)]
    rw [dN1 _ _ _ _ _ (by omega), if_neg (by simp; omega)]
    simp
  rw [if_neg c1]
  by_cases c2 : (m : Int) < 2048
  · rw [if_pos c2]
    rw [Go.Lib.validD_step _ (by simp), Go.Lib.decodeL_N]
    have e0 : (192 + (m : Int) / 64) = ((192 + m / 64 : Nat) : Int) := by omega
    have e1 : (128 + (m : Int) % 64) = ((128 + m % 64 : Nat) : Int) := by omega
    rw [e0, e1]
    simp only [List.map_cons, List.map_nil, List.cons_append, List.nil_append, List.getD_cons_zero, List.getD_cons_succ, u8_nat (192 + m / 64) (by omega), u8_nat (128 + m % 64) (by omega)]
    rw [dN2 _ m _ _ (by omega) (by simp), if_neg (by simp)]
    simp
  rw [if_neg c2]
  by_cases c3 : (m : Int) < 65536
  · rw [if_pos c3]
    rw [Go.Lib.validD_step _ (by simp), Go.Lib.decodeL_N]
    have e0 : (224 + (m : Int) / 4096) = ((224 + m / 4096 : Nat) : Int) := by omega
    have e1 : (128 + (m : Int) / 64 % 64) = ((128 + m / 64 % 64 : Nat) : Int) := by omega
    have e2 : (128 + (m : Int) % 64) = ((128 + m % 64 : Nat) : Int) := by omega
    rw [e0, e1, e2]
    simp only [List.map_cons, List.map_nil, List.cons_append, List.nil_append, List.getD_cons_zero, List.getD_cons_succ, u8_nat (224 + m / 4096) (by omega), u8_nat (128 + m / 64 % 64) (by omega), u8_nat (128 + m % 64) (by omega)]
    rw [dN3 _ m _ (by omega) (by simp), if_neg (by simp)]
    simp
  rw [if_neg c3]
  rw [Go.Lib.validD_step _ (by simp), Go.Lib.decodeL_N]
  have e0 : (240 + (m : Int) / 262144) = ((240 + m / 262144 : Nat) : Int) := by omega
  have e1 : (128 + (m : Int) / 4096 % 64) = ((128 + m / 4096 % 64 : Nat) : Int) := by omega
  have e2 : (128 + (m : Int) / 64 % 64) = ((128 + m / 64 % 64 : Nat) : Int) := by omega
  have e3 : (128 + (m : Int) % 64) = ((128 + m % 64 : Nat) : Int) := by omega
  rw [e0, e1, e2, e3]
  simp only [List.map_cons, List.map_nil, List.cons_append, List.nil_append, List.getD_cons_zero, List.getD_cons_succ, u8_nat (240 + m / 262144) (by omega), u8_nat (128 + m / 4096 % 64) (by omega), u8_nat (128 + m / 64 % 64) (by omega), u8_nat (128 + m % 64) (by omega)]
  rw [dN4 _ m (by omega) (by simp), if_neg (by simp)]
  simp
theorem valid_encAll : ∀ l : List Int, Go.Lib.validD ((encAll l).map u8) = true
  | [] => rfl
  | p :: l => by
    rw [encAll, List.map_append, valid_enc _ (isPt_fix p), valid_encAll l]
theorem valid_written (l : List Int) : Go.Lib.validD (strOfNums (encAll l)).data.toList = true := by
  have h := valid_encAll l
  have e : (strOfNums (encAll l)).data.toList = (encAll l).map u8 := by
    unfold strOfNums
    simp [u8]
  rw [e]; exact h
theorem dec_enc (q : Int) (h : isPt q = true) (t : List UInt8) : Go.Lib.decodeL ((enc q).map u8 ++ t) = (q.toNat, (enc q).length) := by
  have hr := (isPt_iff q).1 h
  obtain ⟨m, rfl⟩ : ∃ m : Nat, q = (m : Int) := ⟨q.toNat, by omega⟩
  rw [Go.Lib.decodeL_N, Int.toNat_natCast]
  unfold enc
  by_cases c1 : (m : Int) < 128
  · rw [if_pos c1]
    simp only [List.map_cons, List.map_nil, List.cons_append, List.nil_append, List.getD_cons_zero, u8_nat m (by omega)]
    rw [dN1 _ _ _ _ _ (by omega)]; rfl
  rw [if_neg c1]
  by_cases c2 : (m : Int) < 2048
  · rw [if_pos c2]
    have e0 : (192 + (m : Int) / 64) = ((192 + m / 64 : Nat) : Int) := by omega
    have e1 : (128 + (m : Int) % 64) = ((128 + m % 64 : Nat) : Int) := by omega
    rw [e0, e1]
    simp only [List.map_cons, List.map_nil, List.cons_append, List.nil_append, List.getD_cons_zero, List.getD_cons_succ, u8_nat (192 + m / 64) (by omega), u8_nat (128 + m % 64) (by omega)]
    rw [dN2 _ m _ _ (by omega) (by simp)]; rfl
  rw [if_neg c2]
  by_cases c3 : (m : Int) < 65536
  · rw [if_pos c3]
    have e0 : (224 + (m : Int) / 4096) = ((224 + m / 4096 : Nat) : Int) := by omega
    have e1 : (128 + (m : Int) / 64 % 64) = ((128 + m / 64 % 64 : Nat) : Int) := by omega
    have e2 : (128 + (m : Int) % 64) = ((128 + m % 64 : Nat) : Int) := by omega
    rw [e0, e1, e2]
    simp only [List.map_cons, List.map_nil, List.cons_append, List.nil_append, List.getD_cons_zero, List.getD_cons_succ, u8_nat (224 + m / 4096) (by omega), u8_nat (128 + m / 64 % 64) (by omega), u8_nat (128 + m % 64) (by omega)]
    rw [dN3 _ m _ (by omega) (by simp)]; rfl
  rw [if_neg c3]
  have e0 : (240 + (m : Int) / 262144) = ((240 + m / 262144 : Nat) : Int) := by omega
  have e1 : (128 + (m : Int) / 4096 % 64) = ((128 + m / 4096 % 64 : Nat) : Int) := by omega
  have e2 : (128 + (m : Int) / 64 % 64) = ((128 + m / 64 % 64 : Nat) : Int) := by omega
  have e3 : (128 + (m : Int) % 64) = ((128 + m % 64 : Nat) : Int) := by omega
  rw [e0, e1, e2, e3]
  simp only [List.map_cons, List.map_nil, List.cons_append, List.nil_append, List.getD_cons_zero, List.getD_cons_succ, u8_nat (240 + m / 262144) (by omega), u8_nat (128 + m / 4096 % 64) (by omega), u8_nat (128 + m / 64 % 64) (by omega), u8_nat (128 + m % 64) (by omega)]
  rw [dN4 _ m (by omega) (by simp)]; rfl
theorem bytes_written (l : List Int) : (strOfNums (encAll l)).data.toList = (encAll l).map u8 := by
  unfold strOfNums
  simp [u8]
theorem pts_from (s : ByteArray) : ∀ (l : List Int) (A : List UInt8) (d : Nat), (∀ p ∈ l, isPt p = true) → s.data.toList = A ++ (encAll l).map u8 → s.size ≤ A.length + d → (atsFrom s d A.length).map At.p = l
  | [], A, d, _, he, hd => by
    have hsz : s.size = A.length := by
      have := congrArg List.length he
      rw [data_length] at this
      simpa [encAll] using this
    cases d with
    | zero => rfl
    | succ d => rw [atsFrom, if_neg (by omega)]; rfl
  | p :: l, A, d, hp, he, hd => by
    have hpp := hp p (by simp)
    have h1 := enc_len p
    have hsz : s.size = A.length + ((enc p).length + (encAll l).length) := by
      have := congrArg List.length he
      rw [data_length] at this
      simpa [encAll, fixPt_pt p hpp] using this
    cases d with
    | zero => omega
    | succ d =>
      have hdec : dec s A.length = (p.toNat, (enc p).length) := by
        have e := Go.Lib.decodeL_drop s A.length
        rw [he] at e
        have e2 : (A ++ (encAll (p :: l)).map u8).drop A.length = (enc p).map u8 ++ (encAll l).map u8 := by simp [encAll, fixPt_pt p hpp]
        rw [e2, dec_enc p hpp] at e
        exact e.symm
      have hr := (isPt_iff p).1 hpp
      rw [atsFrom, if_pos (by omega), List.map_cons]
      have ih := pts_from s l (A ++ (enc p).map u8) d (fun q hq => hp q (by simp [hq])) (by rw [he]; simp [encAll, fixPt_pt p hpp]) (by simp; omega)
      rw [hdec]
      have e3 : (A ++ (enc p).map u8).length = A.length + (enc p).length := by simp
      rw [e3] at ih
      rw [ih]
      congr 1
      show ((dec s A.length).1 : Int) = p
      rw [hdec]
      show ((p.toNat : Nat) : Int) = p
      omega
theorem pts_written (l : List Int) (h : ∀ p ∈ l, isPt p = true) : pts (strOfNums (encAll l)) = l := by
  unfold pts ats
  exact pts_from _ l [] _ h (by rw [bytes_written]; rfl) (by simp)
end Go.Proofs.YtnbedmihgnjdpaaDoor.Lib

/- Plain facts that this seat's proofs share: whole numbers of 64 bits, lists, strings of bytes. No program stands here. -/
import Derived.Test.YtnbedmihgnjdpaaDoorVQC
import Derived.Laws.BitsLemmas
set_option linter.unusedSimpArgs false
set_option linter.unusedVariables false
namespace Go.Proofs.YtnbedmihgnjdpaaDoor.Lib
open Go.RowKit Go.Proofs.YtnbedmihgnjdpaaDoorW.PrintWords Go.Proofs.YtnbedmihgnjdpaaDoorW.PrintLast Go.Proofs.YtnbedmihgnjdpaaDoorW.PrintMore
theorem w64 {x : Int} (h0 : -9223372036854775808 ≤ x) (h1 : x ≤ 9223372036854775807) : wrap64 x = x := by
  unfold wrap64; omega
theorem w64s {n m : Nat} (h : n < m) (hm : m ≤ 9223372036854775807) : wrap64 ((n : Int) + 1) = ((n + 1 : Nat) : Int) := by
  unfold wrap64; omega
theorem rd_nat (xs : List Int) (n : Nat) (h : n < xs.length) : rd xs (n : Int) = xs[n] := by
  simp [rd, List.getD_eq_getElem?_getD, List.getElem?_eq_getElem h]
def laidRow {α β : Type} (f : α → β) (z : β) (l : List α) (i : Nat) : List β := (l.take i).map f ++ List.replicate (l.length - i) z
theorem bytesOf_strOfNums (xs : List Int) (h : ∀ x ∈ xs, 0 ≤ x ∧ x ≤ 255) : bytesOf (strOfNums xs) = xs := by
  unfold bytesOf
  rw [strOfNums_data, List.map_map]
  refine (List.map_congr_left fun x hx => ?_).trans (List.map_id xs)
  have := h x hx
  simp only [Function.comp_apply, id_eq, UInt8.toNat_ofNat']
  omega
theorem strOfNums_bytesOf (s : ByteArray) : strOfNums (bytesOf s) = s := by
  unfold strOfNums bytesOf
  rw [List.map_map]
  have : (s.data.toList.map ((fun n : Int => UInt8.ofNat n.toNat) ∘ fun b : UInt8 => (b.toNat : Int))) = s.data.toList := by
    refine (List.map_congr_left fun x _ => ?_).trans (List.map_id _)
    simp
  rw [this]
theorem bytesOf_inj {s t : ByteArray} (h : bytesOf s = bytesOf t) : s = t := by
  rw [← strOfNums_bytesOf s, h, strOfNums_bytesOf]
def isPt (p : Int) : Bool := decide (0 ≤ p) && decide (p ≤ 1114111) && (decide (p < 55296) || decide (p > 57343))
def fixPt (p : Int) : Int := if isPt p = true then p else 65533
theorem isPt_iff (p : Int) : isPt p = true ↔ (0 ≤ p ∧ p ≤ 1114111 ∧ (p < 55296 ∨ p > 57343)) := by
  simp [isPt, and_assoc]
theorem isPt_fix (p : Int) : isPt (fixPt p) = true := by
  unfold fixPt
  split
  · assumption
  · decide
theorem fixPt_range (p : Int) : 0 ≤ fixPt p ∧ fixPt p ≤ 1114111 ∧ (fixPt p < 55296 ∨ fixPt p > 57343) := (isPt_iff _).1 (isPt_fix p)
def enc (p : Int) : List Int :=
  if p < 128 then [p] else if p < 2048 then [192 + p / 64, 128 + p % 64]
  else if p < 65536 then [224 + p / 4096, 128 + p / 64 % 64, 128 + p % 64]
  else [240 + p / 262144, 128 + p / 4096 % 64, 128 + p / 64 % 64, 128 + p % 64]
theorem enc_len (p : Int) : 1 ≤ (enc p).length ∧ (enc p).length ≤ 4 := by
  unfold enc; split
  · simp
  · split
    · simp
    · split <;> simp
theorem enc_range {p : Int} (h0 : 0 ≤ p) (h1 : p ≤ 1114111) : ∀ x ∈ enc p, 0 ≤ x ∧ x ≤ 255 := by
  intro x hx
  unfold enc at hx
  split at hx
  · simp at hx; omega
  · split at hx
    · simp at hx; omega
    · split at hx
      · simp at hx; omega
      · simp at hx; omega
def encAll : List Int → List Int
  | [] => []
  | p :: l => enc (fixPt p) ++ encAll l
theorem encAll_len (l : List Int) : (encAll l).length ≤ 4 * l.length := by
  induction l with
  | nil => simp [encAll]
  | cons p l ih => have := enc_len (fixPt p); simp [encAll]; omega
end Go.Proofs.YtnbedmihgnjdpaaDoor.Lib

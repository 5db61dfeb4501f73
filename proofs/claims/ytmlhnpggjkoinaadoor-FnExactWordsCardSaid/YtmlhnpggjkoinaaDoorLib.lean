/- Plain facts that this seat's proofs share: whole numbers of 64 bits, lists, strings of bytes. No program stands here. -/
import Derived.Test.YtmlhnpggjkoinaaDoorVWG
import Derived.Laws.BitsLemmas
set_option linter.unusedSimpArgs false
set_option linter.unusedVariables false
namespace Go.Proofs.YtmlhnpggjkoinaaDoor.Lib
open Go.RowKit Go.Proofs.YtmlhnpggjkoinaaDoorW.PrintWords Go.Proofs.YtmlhnpggjkoinaaDoorW.PrintLast Go.Proofs.YtmlhnpggjkoinaaDoorW.PrintMore

theorem bd64 {x : Int} (h : (Lit.int .i64 x).wf = true) : -9223372036854775808 ≤ x ∧ x ≤ 9223372036854775807 := by
  simpa [Lit.wf, IntKind.min, IntKind.max, IntKind.signed, IntKind.bits] using h
theorem w64 {x : Int} (h0 : -9223372036854775808 ≤ x) (h1 : x ≤ 9223372036854775807) : wrap64 x = x := by
  unfold wrap64; omega
theorem w64s {n m : Nat} (h : n < m) (hm : m ≤ 9223372036854775807) : wrap64 ((n : Int) + 1) = ((n + 1 : Nat) : Int) := by
  unfold wrap64; omega
theorem rd_nat (xs : List Int) (n : Nat) (h : n < xs.length) : rd xs (n : Int) = xs[n] := by
  simp [rd, List.getD_eq_getElem?_getD, List.getElem?_eq_getElem h]
theorem bind_some' {α β : Type} (a : α) (f : α → Option β) : (some a).bind f = f a := rfl

/-! loops -/
/-- A loop whose counter runs from 0 to N, its state told at every place. -/
theorem forLoop {σ ρ : Type} (g : Nat → σ → Int → Option ρ) (N : Nat) (st : Nat → σ) (r : ρ) (step : ∀ k i, i < N → g (k + 1) (st i) (i : Int) = g k (st (i + 1)) ((i + 1 : Nat) : Int)) (stop : ∀ k, g (k + 1) (st N) (N : Int) = some r) :
    ∀ k, N < k → g k (st 0) 0 = some r := by
  have key : ∀ d i k, i + d = N → d < k → g k (st i) (i : Int) = some r := by
    intro d
    induction d with
    | zero =>
      intro i k hi hk
      obtain ⟨k, rfl⟩ : ∃ m, k = m + 1 := ⟨k - 1, by omega⟩
      obtain rfl : i = N := by omega
      exact stop k
    | succ d ih =>
      intro i k hi hk
      obtain ⟨k, rfl⟩ : ∃ m, k = m + 1 := ⟨k - 1, by omega⟩
      rw [step k i (by omega)]
      exact ih (i + 1) k (by omega) (by omega)
  intro k hk
  exact key N 0 k (by omega) hk
/-- The row of which the first i elements have been laid. -/
def laidRow {α β : Type} (f : α → β) (z : β) (l : List α) (i : Nat) : List β := (l.take i).map f ++ List.replicate (l.length - i) z
theorem laidRow_zero {α β : Type} (f : α → β) (z : β) (l : List α) : laidRow f z l 0 = List.replicate l.length z := by simp [laidRow]
theorem laidRow_all {α β : Type} (f : α → β) (z : β) (l : List α) : laidRow f z l l.length = l.map f := by simp [laidRow]
theorem laidRow_length {α β : Type} (f : α → β) (z : β) (l : List α) (i : Nat) (h : i ≤ l.length) : (laidRow f z l i).length = l.length := by simp [laidRow]; omega
theorem laidRow_set {α β : Type} (f : α → β) (z : β) (l : List α) (i : Nat) (h : i < l.length) : (laidRow f z l i).set i (f l[i]) = laidRow f z l (i + 1) := by
  unfold laidRow
  rw [List.set_append_right _ _ (by simp; omega), List.length_map, List.length_take, Nat.min_eq_left (by omega), Nat.sub_self]
  obtain ⟨d, hd⟩ : ∃ d, l.length - i = d + 1 := ⟨l.length - i - 1, by omega⟩
  rw [hd, List.replicate_succ, List.set_cons_zero, List.take_succ_eq_append_getElem h, List.map_append, List.append_assoc, show l.length - (i + 1) = d by omega]
  rfl

/-! strings and rows of bytes -/
theorem bytesOf_strOfNums (xs : List Int) (h : ∀ x ∈ xs, 0 ≤ x ∧ x ≤ 255) : bytesOf (strOfNums xs) = xs := by
  unfold bytesOf
  rw [strOfNums_data, List.map_map]
  refine (List.map_congr_left fun x hx => ?_).trans (List.map_id xs)
  have := h x hx
  simp only [Function.comp_apply, id_eq, UInt8.toNat_ofNat']
  omega
theorem strOfNums_bytesOf (s : ByteArray) : strOfNums (bytesOf s) = s := by
  unfold strOfNums bytesOf
  rw [List.map_map]
  have : (s.data.toList.map ((fun n : Int => UInt8.ofNat n.toNat) ∘ fun b : UInt8 => (b.toNat : Int))) = s.data.toList := by
    refine (List.map_congr_left fun x _ => ?_).trans (List.map_id _)
    simp
  rw [this]
theorem bytesOf_range (s : ByteArray) : ∀ x ∈ bytesOf s, 0 ≤ x ∧ x ≤ 255 := by
  intro x hx
  unfold bytesOf at hx
  obtain ⟨b, _, rfl⟩ := List.mem_map.1 hx
  have := b.toNat_lt
  omega
theorem bytesOf_inj {s t : ByteArray} (h : bytesOf s = bytesOf t) : s = t := by
  rw [← strOfNums_bytesOf s, h, strOfNums_bytesOf]

/-! UTF-8 -/
/-- A point of Unicode. -/
def isPt (p : Int) : Bool := decide (0 ≤ p) && decide (p ≤ 1114111) && (decide (p < 55296) || decide (p > 57343))
def fixPt (p : Int) : Int := if isPt p = true then p else 65533
theorem isPt_iff (p : Int) : isPt p = true ↔ (0 ≤ p ∧ p ≤ 1114111 ∧ (p < 55296 ∨ p > 57343)) := by
  simp [isPt, and_assoc]
theorem isPt_false (p : Int) : isPt p = false ↔ ¬ (0 ≤ p ∧ p ≤ 1114111 ∧ (p < 55296 ∨ p > 57343)) := by
  rw [← isPt_iff]; simp
theorem isPt_fix (p : Int) : isPt (fixPt p) = true := by
  unfold fixPt
  split
  · assumption
  · decide
theorem fixPt_range (p : Int) : 0 ≤ fixPt p ∧ fixPt p ≤ 1114111 ∧ (fixPt p < 55296 ∨ fixPt p > 57343) := (isPt_iff _).1 (isPt_fix p)
/-- The bytes of a point. -/
def enc (p : Int) : List Int :=
  if p < 128 then [p] else if p < 2048 then [192 + p / 64, 128 + p % 64]
  else if p < 65536 then [224 + p / 4096, 128 + p / 64 % 64, 128 + p % 64]
  else [240 + p / 262144, 128 + p / 4096 % 64, 128 + p / 64 % 64, 128 + p % 64]
theorem enc_len (p : Int) : 1 ≤ (enc p).length ∧ (enc p).length ≤ 4 := by
  unfold enc; split
  · simp
  · split
    · simp
    · split <;> simp
theorem enc_range {p : Int} (h0 : 0 ≤ p) (h1 : p ≤ 1114111) : ∀ x ∈ enc p, 0 ≤ x ∧ x ≤ 255 := by
  intro x hx
  unfold enc at hx
  split at hx
  · simp at hx; omega
  · split at hx
    · simp at hx; omega
    · split at hx
      · simp at hx; omega
      · simp at hx; omega
/-- A row of points, written. -/
def encAll : List Int → List Int
  | [] => []
  | p :: l => enc (fixPt p) ++ encAll l
theorem encAll_len (l : List Int) : (encAll l).length ≤ 4 * l.length := by
  induction l with
  | nil => simp [encAll]
  | cons p l ih => have := enc_len (fixPt p); simp [encAll]; omega
theorem encAll_range (l : List Int) : ∀ x ∈ encAll l, 0 ≤ x ∧ x ≤ 255 := by
  induction l with
  | nil => simp [encAll]
  | cons p l ih =>
    intro x hx
    simp only [encAll, List.mem_append] at hx
    rcases hx with hx | hx
    · have := fixPt_range p
      exact enc_range (by omega) (by omega) x hx
    · exact ih x hx
theorem encAll_append (a b : List Int) : encAll (a ++ b) = encAll a ++ encAll b := by
  induction a with
  | nil => rfl
  | cons p a ih => simp [encAll, ih]

end Go.Proofs.YtmlhnpggjkoinaaDoor.Lib

/- What the printed functions that tell a point's category and script come to: one plain function 'kindOf'. -/
import Derived.Test.YtmlhnpggjkoinaaDoorPFnExactWordsx
import Derived.Test.YtmlhnpggjkoinaaDoorTables
set_option linter.unusedSimpArgs false
set_option linter.unusedVariables false
namespace Go.Proofs.YtmlhnpggjkoinaaDoor.PFnExactWords
open Go.RowKit Go.Proofs.YtmlhnpggjkoinaaDoorW.PrintWords Go.Proofs.YtmlhnpggjkoinaaDoorW.PrintLast Go.Proofs.YtmlhnpggjkoinaaDoorW.PrintMore Go.Proofs.YtmlhnpggjkoinaaDoor.Lib

theorem inF_eq (p x y : Int) : impl_in.f p x y = some (decide (x ≤ p ∧ p ≤ y)) := by
  unfold impl_in.f
  by_cases h : p ≥ x
  · rw [if_pos h]; exact congrArg some (decide_eq_decide.2 (by omega))
  · rw [if_neg h]; exact congrArg some (decide_eq_false (by omega)).symm
theorem eq_iv (p c : Int) : (p = c) = (c ≤ p ∧ p ≤ c) := propext ⟨fun h => by omega, fun h => by omega⟩

/-! a point of a cased script -/
theorem bits_and255 (p : Int) (h0 : 0 ≤ p) (h1 : p < 4096) : Go.bits .and .i64 p 255 = p % 256 := bits_mask .i64 12 (by decide) (fun n a b => by rw [IntKind.wrap_i64]; omega) 8 (by decide) p h0 h1
theorem bits_andNot255 (p : Int) (h0 : 512 ≤ p) (h1 : p < 1280) : Go.bits .andNot .i64 p 255 = p - p % 256 := by
  obtain ⟨n, rfl⟩ : ∃ n : Nat, p = (n : Int) + 512 := ⟨(p - 512).toNat, by omega⟩
  have hn : n < 768 := by omega
  have key : ∀ m : Fin 768, Go.bits .andNot .i64 ((m.val : Int) + 512) 255 = ((m.val : Int) + 512) - ((m.val : Int) + 512) % 256 := by decide +kernel
  exact key ⟨n, hn⟩
theorem kind_j1 (k : Nat) (x s : Int) (c : Bool) : impl_kind.j1 (k + 1) x s c = some (if c = true then (5, s) else if 68 ≤ x ∧ x ≤ 71 then (6, s) else if 80 ≤ x ∧ x ≤ 89 then (8, s) else (0, 0)) := by
  simp only [impl_kind.j1, inF_eq, Option.bind_some, decide_eq_true_eq]
  repeat' split
  all_goals rfl
theorem kind_j0 (k : Nat) (x s : Int) (c : Bool) : impl_kind.j0 (k + 2) x s c = some (if c = true then (4, s) else if x < 64 ∨ (72 ≤ x ∧ x ≤ 75) ∨ (96 ≤ x ∧ x ≤ 97) then (5, s) else if 68 ≤ x ∧ x ≤ 71 then (6, s) else if 80 ≤ x ∧ x ≤ 89 then (8, s) else (0, 0)) := by
  simp only [impl_kind.j0, inF_eq, Option.bind_some, decide_eq_true_eq, kind_j1, if_true]
  by_cases h0 : c = true
  · simp only [if_pos h0]
  · simp only [if_neg h0]
    by_cases h1 : x < 64
    · simp only [if_pos h1, if_pos (Or.inl h1 : x < 64 ∨ (72 ≤ x ∧ x ≤ 75) ∨ (96 ≤ x ∧ x ≤ 97))]
    · simp only [if_neg h1]
      by_cases h2 : 72 ≤ x ∧ x ≤ 75
      · simp only [if_pos h2, if_pos (Or.inr (Or.inl h2) : x < 64 ∨ (72 ≤ x ∧ x ≤ 75) ∨ (96 ≤ x ∧ x ≤ 97))]
      · simp only [if_neg h2]
        by_cases h3 : 96 ≤ x ∧ x ≤ 97
        · simp only [if_pos h3, if_pos (Or.inr (Or.inr h3) : x < 64 ∨ (72 ≤ x ∧ x ≤ 75) ∨ (96 ≤ x ∧ x ≤ 97))]
        · simp only [if_neg h3, if_neg (show ¬ (x < 64 ∨ (72 ≤ x ∧ x ≤ 75) ∨ (96 ≤ x ∧ x ≤ 97)) by omega)]
/-- The category of place x in a cased script's block. -/
def casedCat (x : Int) : Int := if x ≤ 31 ∨ (64 ≤ x ∧ x ≤ 67) then 4 else if x ≤ 63 ∨ (72 ≤ x ∧ x ≤ 75) ∨ (96 ≤ x ∧ x ≤ 97) then 5 else if 68 ≤ x ∧ x ≤ 71 then 6 else if 80 ≤ x ∧ x ≤ 89 then 8 else 0
def casedKind (p : Int) : Int × Int := if casedCat (p % 256) = 0 then (0, 0) else (casedCat (p % 256), p / 256)

/-! the others -/
def findE : List Rw → Option (Int × Int) → Int → Option (Int × Int)
  | [], e, _ => e
  | r :: T, e, p => if r.a ≤ p ∧ p ≤ r.b then some (r.c, r.s) else findE T e p
theorem findE_app (T U : List Rw) (e : Option (Int × Int)) (p : Int) : findE (T ++ U) e p = findE T (findE U e p) p := by
  induction T with
  | nil => rfl
  | cons r T ih => simp only [List.cons_append, findE, ih]
theorem findE_findT (T : List Rw) (p : Int) : findE T (some (0, 0)) p = some (findT T p) := by
  induction T with
  | nil => rfl
  | cons r T ih =>
    simp only [findE, findT, ih]
    split <;> rfl
theorem findE_none (T : List Rw) (e : Option (Int × Int)) (lo hi p : Int) (h : T.all (fun r => decide (r.b < lo) || decide (hi ≤ r.a)) = true) (h0 : lo ≤ p) (h1 : p < hi) : findE T e p = e := by
  induction T with
  | nil => rfl
  | cons r T ih =>
    simp only [List.all_cons, Bool.and_eq_true, Bool.or_eq_true, decide_eq_true_eq] at h
    simp only [findE]
    rw [if_neg (by omega)]
    exact ih h.2
def T9 : List Rw := [⟨10016, 10025, 8, 0⟩, ⟨24576, 26623, 7, 9⟩]
def T8 : List Rw := [⟨9728, 9753, 4, 1⟩, ⟨9984, 10009, 10, 0⟩, ⟨10032, 10035, 10, 0⟩] ++ T9
def T2 : List Rw := [⟨0, 31, 1, 0⟩, ⟨127, 159, 1, 0⟩, ⟨32, 32, 2, 0⟩, ⟨160, 160, 2, 0⟩, ⟨8064, 8064, 2, 0⟩, ⟨48, 57, 8, 0⟩, ⟨65, 90, 4, 1⟩, ⟨97, 122, 5, 1⟩, ⟨33, 126, 9, 0⟩, ⟨173, 173, 11, 0⟩, ⟨161, 191, 10, 0⟩, ⟨1280, 1311, 7, 5⟩, ⟨1360, 1369, 8, 5⟩, ⟨1536, 1567, 7, 6⟩, ⟨1568, 1579, 3, 6⟩, ⟨1584, 1584, 3, 6⟩, ⟨1585, 1585, 3, 6⟩, ⟨1616, 1625, 8, 6⟩, ⟨1792, 1810, 7, 7⟩, ⟨1824, 1844, 7, 7⟩, ⟨1857, 1883, 7, 7⟩, ⟨12288, 23459, 7, 7⟩, ⟨2048, 2095, 7, 8⟩, ⟨4096, 4159, 3, 0⟩, ⟨7680, 7748, 10, 0⟩, ⟨7760, 7785, 10, 0⟩, ⟨7936, 7947, 11, 0⟩, ⟨7953, 7953, 11, 0⟩, ⟨7954, 7954, 11, 0⟩]
def E7 (p : Int) : Option (Int × Int) := if 8192 ≤ p ∧ p ≤ 9631 then (if Int.tmod (wrap64 (p - 8192)) 512 < 416 then some (if Int.tmod (wrap64 (p - 8192)) 512 < 208 then (4, 1) else (5, 1)) else findE T8 (some (0, 0)) p) else findE T8 (some (0, 0)) p
theorem kind_j9 (k : Nat) (p : Int) (c : Bool) : impl_kind.j9 (k + 1) p c = if c = true then some (10, 0) else findE T9 (some (0, 0)) p := by
  simp only [impl_kind.j9, inF_eq, Option.bind_some, decide_eq_true_eq, T9, findE]
theorem kind_j8 (k : Nat) (p : Int) (c : Bool) : impl_kind.j8 (k + 2) p c = if c = true then some (if Int.tmod (wrap64 (p - 8192)) 512 < 208 then (4, 1) else (5, 1)) else findE T8 (some (0, 0)) p := by
  simp only [impl_kind.j8, inF_eq, Option.bind_some, decide_eq_true_eq, T8, List.cons_append, List.nil_append, findE, kind_j9, if_true]
  split
  · split <;> rfl
  · rfl
theorem kind_j7 (k : Nat) (p : Int) (c : Bool) : impl_kind.j7 (k + 3) p c = if c = true then some (11, 0) else E7 p := by
  simp only [impl_kind.j7, inF_eq, Option.bind_some, decide_eq_true_eq, kind_j8, if_true, E7]
  simp only [Bool.false_eq_true, if_false]
theorem kind_j6 (k : Nat) (p : Int) (c : Bool) : impl_kind.j6 (k + 4) p c = if c = true then some (10, 0) else findE [⟨7936, 7947, 11, 0⟩, ⟨7953, 7953, 11, 0⟩, ⟨7954, 7954, 11, 0⟩] (E7 p) p := by
  simp only [impl_kind.j6, inF_eq, Option.bind_some, decide_eq_true_eq, kind_j7, if_true, findE, beq_iff_eq, eq_iv]
theorem kind_j5 (k : Nat) (p : Int) (c : Bool) : impl_kind.j5 (k + 5) p c = if c = true then some (7, 7) else findE [⟨2048, 2095, 7, 8⟩, ⟨4096, 4159, 3, 0⟩, ⟨7680, 7748, 10, 0⟩, ⟨7760, 7785, 10, 0⟩, ⟨7936, 7947, 11, 0⟩, ⟨7953, 7953, 11, 0⟩, ⟨7954, 7954, 11, 0⟩] (E7 p) p := by
  simp only [impl_kind.j5, inF_eq, Option.bind_some, decide_eq_true_eq, kind_j6, if_true, findE]
theorem kind_j4 (k : Nat) (p : Int) (c : Bool) : impl_kind.j4 (k + 6) p c = if c = true then some (3, 6) else findE [⟨1616, 1625, 8, 6⟩, ⟨1792, 1810, 7, 7⟩, ⟨1824, 1844, 7, 7⟩, ⟨1857, 1883, 7, 7⟩, ⟨12288, 23459, 7, 7⟩, ⟨2048, 2095, 7, 8⟩, ⟨4096, 4159, 3, 0⟩, ⟨7680, 7748, 10, 0⟩, ⟨7760, 7785, 10, 0⟩, ⟨7936, 7947, 11, 0⟩, ⟨7953, 7953, 11, 0⟩, ⟨7954, 7954, 11, 0⟩] (E7 p) p := by
  simp only [impl_kind.j4, inF_eq, Option.bind_some, decide_eq_true_eq, kind_j5, if_true, findE]
theorem kind_j3 (k : Nat) (p : Int) (c : Bool) : impl_kind.j3 (k + 7) p c = if c = true then some (2, 0) else findE (T2.drop 5) (E7 p) p := by
  simp only [impl_kind.j3, inF_eq, Option.bind_some, decide_eq_true_eq, kind_j4, if_true, findE, T2, List.drop_succ_cons, List.drop_zero, beq_iff_eq, eq_iv]
theorem kind_j2 (k : Nat) (p : Int) (c : Bool) : impl_kind.j2 (k + 8) p c = if c = true then some (1, 0) else findE (T2.drop 2) (E7 p) p := by
  simp only [impl_kind.j2, inF_eq, Option.bind_some, decide_eq_true_eq, kind_j3, if_true, beq_iff_eq, eq_iv]
  simp only [T2, List.drop_succ_cons, List.drop_zero, findE]
/-- The category and the script of a point. -/
def kindOf (p : Int) : Int × Int :=
  if 512 ≤ p ∧ p < 1280 then casedKind p
  else if 8192 ≤ p ∧ p < 9728 then (if p % 512 < 208 then (4, 1) else if p % 512 < 416 then (5, 1) else (0, 0))
  else findT (T2 ++ T8) p
theorem kind_eq (k : Nat) (hk : 12 ≤ k) (p : Int) (hp : -9223372036854775808 ≤ p ∧ p ≤ 9223372036854775807) : impl_kind.f k p = some (kindOf p) := by
  obtain ⟨k, rfl⟩ : ∃ m, k = m + 8 := ⟨k - 8, by omega⟩
  unfold impl_kind.f impl_block.f kindOf
  by_cases hc : 512 ≤ p ∧ p < 1280
  · rw [if_pos hc.1, if_pos hc.2, if_pos hc, bits_and255 p (by omega) (by omega), bits_andNot255 p hc.1 hc.2]
    simp only [Option.bind_some, inF_eq]
    rw [if_pos (by omega)]
    have e : (p - p % 256) / 256 = p / 256 := by omega
    have h0 : 0 ≤ p % 256 := by omega
    rw [e]
    obtain ⟨x, hx⟩ : ∃ x, p % 256 = x := ⟨_, rfl⟩
    unfold casedKind
    rw [hx] at h0 ⊢
    obtain ⟨k', rfl⟩ : ∃ m, k = m + 2 := ⟨k - 2, by omega⟩
    rw [show k' + 2 + 8 = (k' + 8) + 2 from rfl]
    have fin : ∀ c : Bool, c = decide (x ≤ 31 ∨ (64 ≤ x ∧ x ≤ 67)) → impl_kind.j0 (k' + 8 + 2) x (p / 256) c = some (if casedCat x = 0 then (0, 0) else (casedCat x, p / 256)) := by
      intro c hcc
      rw [kind_j0, hcc]
      unfold casedCat
      simp only [decide_eq_true_eq]
      by_cases a1 : x ≤ 31 ∨ (64 ≤ x ∧ x ≤ 67)
      · simp [a1]
      · by_cases a2 : x ≤ 63 ∨ (72 ≤ x ∧ x ≤ 75) ∨ (96 ≤ x ∧ x ≤ 97)
        · have a2' : x < 64 ∨ (72 ≤ x ∧ x ≤ 75) ∨ (96 ≤ x ∧ x ≤ 97) := by omega
          simp [a1, a2, a2']
        · have a2' : ¬ (x < 64 ∨ (72 ≤ x ∧ x ≤ 75) ∨ (96 ≤ x ∧ x ≤ 97)) := by omega
          by_cases a3 : 68 ≤ x ∧ x ≤ 71
          · simp [a1, a2, a2', a3]
          · by_cases a4 : 80 ≤ x ∧ x ≤ 89
            · simp [a1, a2, a2', a3, a4]
            · simp [a1, a2, a2', a3, a4]
    by_cases h1 : x < 32
    · rw [if_pos h1]
      exact fin true (decide_eq_true (by omega)).symm
    · rw [if_neg h1]
      exact fin _ (decide_eq_decide.2 (by omega))
  · have hb : (if p ≥ 512 then (if p < 1280 then some (Go.bits .andNot .i64 p 255, Go.bits .and .i64 p 255) else some (0, 0)) else some ((0 : Int), (0 : Int))) = some (0, 0) := by
      by_cases h : p ≥ 512
      · rw [if_pos h, if_neg (by omega)]
      · rw [if_neg h]
    rw [hb, if_neg hc]
    simp only [Option.bind_some, inF_eq, decide_eq_true_eq]
    rw [if_neg (by omega)]
    have hE : (if 0 ≤ p ∧ p ≤ 31 then impl_kind.j2 (k + 8) p true else impl_kind.j2 (k + 8) p (decide (127 ≤ p ∧ p ≤ 159))) = findE T2 (E7 p) p := by
      simp only [kind_j2, if_true, decide_eq_true_eq]
      simp only [T2, List.drop_succ_cons, List.drop_zero, findE]
    rw [hE]
    by_cases h2 : 8192 ≤ p ∧ p < 9728
    · rw [if_pos h2, findE_none T2 _ 8192 9728 p (by decide) h2.1 h2.2]
      unfold E7
      have w : Int.tmod (wrap64 (p - 8192)) 512 = p % 512 := by
        rw [w64 (by omega) (by omega), Int.tmod_eq_emod_of_nonneg (by omega)]; omega
      rw [w, findE_none T8 _ 8192 9728 p (by decide) h2.1 h2.2]
      by_cases h3 : p ≤ 9631
      · rw [if_pos ⟨h2.1, h3⟩]
        by_cases h4 : p % 512 < 416
        · rw [if_pos h4]
          by_cases h5 : p % 512 < 208
          · simp [h5]
          · simp [h4, h5]
        · simp [h4, show ¬ p % 512 < 208 by omega]
      · have h4 : ¬ p % 512 < 416 := by omega
        rw [if_neg (by omega)]
        simp [h4, show ¬ p % 512 < 208 by omega]
    · rw [if_neg h2]
      unfold E7
      rw [if_neg (by omega), ← findE_app, findE_findT]

/-! the reference's -/
def asRw (r : S100) : Rw := ⟨r.f0, r.f1, r.f2, r.f3⟩
theorem rdR_nat (xs : List S100) (n : Nat) (h : n < xs.length) : rd_T100 xs (n : Int) = xs[n] := by
  simp [rd_T100, List.getD_eq_getElem?_getD, List.getElem?_eq_getElem h]
theorem known_l1 (p : Int) (T : List S100) (hT : T.length ≤ 1000) : ∀ (d n k : Nat), n + d = T.length → d < k → spec_l01Known.l1 k p T (n : Int) = some (findT ((T.drop n).map asRw) p) := by
  intro d
  induction d with
  | zero =>
    intro n k hn hk
    obtain ⟨k, rfl⟩ : ∃ m, k = m + 1 := ⟨k - 1, by omega⟩
    rw [spec_l01Known.l1, if_neg (by omega), List.drop_eq_nil_of_le (by omega)]
    rfl
  | succ d ih =>
    intro n k hn hk
    obtain ⟨k, rfl⟩ : ∃ m, k = m + 1 := ⟨k - 1, by omega⟩
    have hlt : n < T.length := by omega
    rw [spec_l01Known.l1, if_pos (by omega), if_pos (by omega), rdR_nat T n hlt, w64s hlt (by omega), ih (n + 1) k (by omega) (by omega), List.drop_eq_getElem_cons hlt]
    simp only [List.map_cons, findT, asRw, ge_iff_le]
    by_cases h1 : T[n].f0 ≤ p
    · by_cases h2 : p ≤ T[n].f1
      · rw [if_pos h1, if_pos h2, if_pos ⟨h1, h2⟩]
      · rw [if_pos h1, if_neg h2, if_neg (fun h => h2 h.2)]
    · rw [if_neg h1, if_neg (fun h => h1 h.1)]
theorem known_l0 (p : Int) (T : List S100) (hT : T.length ≤ 1000) : ∀ (d n k : Nat), n + d = T.length → d < k →
    spec_l01Known.l0 k p T (n : Int) = some (if (findT ((T.drop n).map fun r => ⟨r.f0, r.f1, r.f2, 1⟩) (Int.tmod p 256)).2 = 1 then ((findT ((T.drop n).map fun r => ⟨r.f0, r.f1, r.f2, 1⟩) (Int.tmod p 256)).1, wrap64 (Int.tdiv p 256)) else (0, 0)) := by
  intro d
  induction d with
  | zero =>
    intro n k hn hk
    obtain ⟨k, rfl⟩ : ∃ m, k = m + 1 := ⟨k - 1, by omega⟩
    rw [spec_l01Known.l0, if_neg (by omega), List.drop_eq_nil_of_le (by omega)]
    rfl
  | succ d ih =>
    intro n k hn hk
    obtain ⟨k, rfl⟩ : ∃ m, k = m + 1 := ⟨k - 1, by omega⟩
    have hlt : n < T.length := by omega
    rw [spec_l01Known.l0, if_pos (by omega), if_pos (by omega), rdR_nat T n hlt, w64s hlt (by omega), ih (n + 1) k (by omega) (by omega), List.drop_eq_getElem_cons hlt]
    simp only [List.map_cons, findT, ge_iff_le]
    by_cases h1 : T[n].f0 ≤ Int.tmod p 256
    · by_cases h2 : Int.tmod p 256 ≤ T[n].f1
      · have c : T[n].f0 ≤ Int.tmod p 256 ∧ Int.tmod p 256 ≤ T[n].f1 := ⟨h1, h2⟩
        simp only [if_pos h1, if_pos h2, if_pos c, if_true]
      · have c : ¬ (T[n].f0 ≤ Int.tmod p 256 ∧ Int.tmod p 256 ≤ T[n].f1) := fun h => h2 h.2
        simp only [if_pos h1, if_neg h2, if_neg c]
    · have c : ¬ (T[n].f0 ≤ Int.tmod p 256 ∧ Int.tmod p 256 ≤ T[n].f1) := fun h => h1 h.1
      simp only [if_neg h1, if_neg c]
def rowsT : List S100 := (spec_l01Rows.f).getD []
def casedT : List S100 := (spec_l01Cased.f).getD []
def edgesB : List Int := ((T2 ++ T8 ++ rowsT.map asRw).flatMap fun r => [r.a, r.b + 1])
theorem rows_agree (p : Int) (hp : -9223372036854775808 ≤ p) : findT (rowsT.map asRw) p = findT (T2 ++ T8) p :=
  tables_agree _ _ edgesB (-9223372036854775808) (by decide +kernel) (by decide +kernel) (by decide +kernel) p hp
theorem cased_agree (x : Int) (h0 : 0 ≤ x) (h1 : x < 256) : findT (casedT.map fun r => ⟨r.f0, r.f1, r.f2, 1⟩) x = (casedCat x, if casedCat x = 0 then 0 else 1) := by
  obtain ⟨n, rfl⟩ : ∃ n : Nat, x = (n : Int) := ⟨x.toNat, by omega⟩
  have key : ∀ m : Fin 256, findT (casedT.map fun r => ⟨r.f0, r.f1, r.f2, 1⟩) (m.val : Int) = (casedCat (m.val : Int), if casedCat (m.val : Int) = 0 then 0 else 1) := by decide +kernel
  exact key ⟨n, by omega⟩
theorem known_j2 (k : Nat) (hk : 40 ≤ k) (p : Int) (hp : -9223372036854775808 ≤ p ∧ p ≤ 9223372036854775807) (c : Bool) (hc : c = decide (8192 ≤ p ∧ p < 9728)) (hn : ¬ (512 ≤ p ∧ p < 1280)) : spec_l01Known.j2 k p c = some (kindOf p) := by
  obtain ⟨k, rfl⟩ : ∃ m, k = m + 1 := ⟨k - 1, by omega⟩
  simp only [spec_l01Known.j2, hc, decide_eq_true_eq]
  unfold kindOf
  rw [if_neg hn]
  by_cases h : 8192 ≤ p ∧ p < 9728
  · have m : Int.tmod p 512 = p % 512 := Int.tmod_eq_emod_of_nonneg (by omega)
    rw [if_pos h, if_pos h, m]
    by_cases h5 : p % 512 < 208
    · simp [h5, show ¬ (p % 512 ≥ 416) by omega]
    · by_cases h4 : p % 512 < 416
      · simp [h5, h4, show ¬ (p % 512 ≥ 416) by omega]
      · simp [h5, h4, show p % 512 ≥ 416 by omega]
  · rw [if_neg h, if_neg h]
    have e : spec_l01Rows.f = some rowsT := rfl
    rw [e]
    simp only [Option.bind_some]
    have := known_l1 p rowsT (by decide) 32 0 k (by decide) (by omega)
    rw [List.drop_zero, rows_agree p hp.1] at this
    exact this
theorem known_eq (k : Nat) (hk : 42 ≤ k) (p : Int) (hp : -9223372036854775808 ≤ p ∧ p ≤ 9223372036854775807) : spec_l01Known.f k p = some (kindOf p) := by
  obtain ⟨k, rfl⟩ : ∃ m, k = m + 1 := ⟨k - 1, by omega⟩
  unfold spec_l01Known.f
  simp only [spec_l01Known.j0]
  by_cases h : 512 ≤ p ∧ p < 1280
  · rw [if_pos h.1, if_pos (decide_eq_true h.2)]
    have e : spec_l01Cased.f = some casedT := rfl
    rw [e]
    simp only [Option.bind_some]
    have := known_l0 p casedT (by decide) 7 0 k (by decide) (by omega)
    rw [List.drop_zero] at this
    refine (show _ = _ from this).trans ?_
    have m : Int.tmod p 256 = p % 256 := Int.tmod_eq_emod_of_nonneg (by omega)
    have d : wrap64 (Int.tdiv p 256) = p / 256 := by rw [Int.tdiv_eq_ediv_of_nonneg (by omega), w64 (by omega) (by omega)]
    rw [m, d, cased_agree _ (by omega) (by omega)]
    unfold kindOf casedKind
    rw [if_pos h]
    by_cases z : casedCat (p % 256) = 0
    · simp [z]
    · simp [z]
  · have fin : ∀ c : Bool, c = false → (if c = true then (spec_l01Cased.f).bind fun t => spec_l01Known.l0 k p t 0 else if p ≥ 8192 then spec_l01Known.j2 k p (decide (p < 9728)) else spec_l01Known.j2 k p false) = some (kindOf p) := by
      intro c hc
      rw [if_neg (by rw [hc]; simp)]
      by_cases h2 : p ≥ 8192
      · rw [if_pos h2]
        exact known_j2 k (by omega) p hp _ (decide_eq_decide.2 (by omega)) h
      · rw [if_neg h2]
        exact known_j2 k (by omega) p hp _ (decide_eq_false (by omega)).symm h
    by_cases h1 : p ≥ 512
    · rw [if_pos h1]
      exact fin _ (decide_eq_false (by omega))
    · rw [if_neg h1]
      exact fin false rfl

end Go.Proofs.YtmlhnpggjkoinaaDoor.PFnExactWords

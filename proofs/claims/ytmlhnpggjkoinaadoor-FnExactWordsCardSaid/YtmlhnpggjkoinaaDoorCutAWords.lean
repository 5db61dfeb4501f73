/- Classes of points at cuts of characters, and what is said of two points side by side: both texts say `cutG`. -/
import Derived.Test.YtmlhnpggjkoinaaDoorKindWords
set_option linter.unusedSimpArgs false
set_option linter.unusedVariables false
namespace Go.Proofs.YtmlhnpggjkoinaaDoor.PFnExactWords
open Go.RowKit Go.Proofs.YtmlhnpggjkoinaaDoorW.PrintWords Go.Proofs.YtmlhnpggjkoinaaDoorW.PrintLast Go.Proofs.YtmlhnpggjkoinaaDoorW.PrintMore Go.Proofs.YtmlhnpggjkoinaaDoor.Lib

theorem iteT {α : Type} {c : Bool} (h : c = true) (x y : α) : (if c = true then x else y) = x := if_pos h
theorem iteF {α : Type} {c : Bool} (h : c = false) (x y : α) : (if c = true then x else y) = y := if_neg (by simp [h])
theorem findT_row (c p : Int) (hc : c ≠ 0) : ∀ (T : List Rw), (findT T p).1 = c → ∃ r ∈ T, r.c = c ∧ r.a ≤ p ∧ p ≤ r.b := by
  intro T
  induction T with
  | nil => intro h; exact absurd h.symm hc
  | cons r T ih =>
    intro h
    unfold findT at h
    by_cases e : r.a ≤ p ∧ p ≤ r.b
    · rw [if_pos e] at h
      exact ⟨r, List.mem_cons_self, h, e.1, e.2⟩
    · rw [if_neg e] at h
      obtain ⟨x, hx, h2⟩ := ih h
      exact ⟨x, List.mem_cons_of_mem _ hx, h2⟩
theorem cat_row (p c : Int) (hc : c = 1 ∨ c = 3) (h : (kindOf p).1 = c) : ∃ r ∈ T2 ++ T8, r.c = c ∧ r.a ≤ p ∧ p ≤ r.b := by
  unfold kindOf at h
  by_cases a : 512 ≤ p ∧ p < 1280
  · rw [if_pos a] at h
    exfalso
    unfold casedKind at h
    by_cases b : casedCat (p % 256) = 0
    · rw [if_pos b] at h
      have h0 : (0 : Int) = c := h
      omega
    · rw [if_neg b] at h
      have h0 : casedCat (p % 256) = c := h
      unfold casedCat at h0
      repeat' split at h0
      all_goals omega
  · rw [if_neg a] at h
    by_cases b : 8192 ≤ p ∧ p < 9728
    · rw [if_pos b] at h
      exfalso
      revert h
      repeat' split
      all_goals (intro h; simp at h; omega)
    · rw [if_neg b] at h
      exact findT_row c p (by omega) _ h
theorem cat_mark (p : Int) (h : (kindOf p).1 = 3) : (1568 ≤ p ∧ p ≤ 1579) ∨ (1584 ≤ p ∧ p ≤ 1585) ∨ (4096 ≤ p ∧ p ≤ 4159) := by
  obtain ⟨r, hr, h8, h0, h1⟩ := cat_row p 3 (Or.inr rfl) h
  have e : ∀ r ∈ T2 ++ T8, r.c = 3 → (r.a, r.b) ∈ [((1568 : Int), (1579 : Int)), (1584, 1584), (1585, 1585), (1584, 1585), (4096, 4159)] := by decide +kernel
  have hf := e r hr h8
  simp only [List.mem_cons, List.not_mem_nil, or_false, Prod.mk.injEq] at hf
  omega
theorem cat_ctrl (p : Int) (h : (kindOf p).1 = 1) : (0 ≤ p ∧ p ≤ 31) ∨ (127 ≤ p ∧ p ≤ 159) := by
  obtain ⟨r, hr, h8, h0, h1⟩ := cat_row p 1 (Or.inl rfl) h
  have e : ∀ r ∈ T2 ++ T8, r.c = 1 → (r.a, r.b) ∈ [((0 : Int), (31 : Int)), (127, 159)] := by decide +kernel
  have hf := e r hr h8
  simp only [List.mem_cons, List.not_mem_nil, or_false, Prod.mk.injEq] at hf
  omega
/-- A point's class at cuts. -/
def cc (p : Int) : Int :=
  if (kindOf p).1 = 1 ∨ p = 7954 then 1 else if (kindOf p).1 = 3 ∨ p = 7936 ∨ (7744 ≤ p ∧ p ≤ 7748) then 2
  else if 1792 ≤ p ∧ p ≤ 1810 then 3 else if 1824 ≤ p ∧ p ≤ 1844 then 4 else if 1857 ≤ p ∧ p ≤ 1883 then 5
  else if (12288 ≤ p ∧ p ≤ 23459) ∧ (p - 12288) % 28 = 0 then 6 else if 12288 ≤ p ∧ p ≤ 23459 then 7 else if 7680 ≤ p ∧ p ≤ 7743 then 8 else if 7760 ≤ p ∧ p ≤ 7785 then 9 else 0
theorem isOpen_eq (p : Int) : impl_isOpen.f p = some (decide ((12288 ≤ p ∧ p ≤ 23459) ∧ (p - 12288) % 28 = 0)) := by
  unfold impl_isOpen.f impl_isSyllable.f
  rw [inF_eq, Option.bind_some, Option.bind_some]
  by_cases a : 12288 ≤ p ∧ p ≤ 23459
  · rw [iteT (decide_eq_true a), w64 (x := p - 12288) (by omega) (by omega), Int.tmod_eq_emod_of_nonneg (by omega)]
    congr 1
    by_cases b : (p - 12288) % 28 = 0
    · rw [decide_eq_true (show (12288 ≤ p ∧ p ≤ 23459) ∧ (p - 12288) % 28 = 0 from ⟨a, b⟩)]; exact beq_iff_eq.2 b
    · rw [decide_eq_false (fun h : (12288 ≤ p ∧ p ≤ 23459) ∧ (p - 12288) % 28 = 0 => b h.2)]; exact beq_eq_false_iff_ne.2 b
  · rw [iteF (decide_eq_false a), decide_eq_false (fun h : (12288 ≤ p ∧ p ≤ 23459) ∧ (p - 12288) % 28 = 0 => a h.1)]
theorem charClass_j1 (k : Nat) (p : Int) (b : Bool) : impl_charClass.j1 (k + 1) p b = some (if b = true then 2 else if 1792 ≤ p ∧ p ≤ 1810 then 3 else if 1824 ≤ p ∧ p ≤ 1844 then 4 else if 1857 ≤ p ∧ p ≤ 1883 then 5
  else if (12288 ≤ p ∧ p ≤ 23459) ∧ (p - 12288) % 28 = 0 then 6 else if 12288 ≤ p ∧ p ≤ 23459 then 7 else if 7680 ≤ p ∧ p ≤ 7743 then 8 else if 7760 ≤ p ∧ p ≤ 7785 then 9 else 0) := by
  rw [impl_charClass.j1]
  unfold impl_isSyllable.f impl_isPicture.f
  simp only [inF_eq, isOpen_eq, Option.bind_some, decide_eq_true_eq]
  repeat' split
  all_goals rfl
theorem cc_eq (k : Nat) (hk : 30 ≤ k) (p : Int) (hp : -9223372036854775808 ≤ p ∧ p ≤ 9223372036854775807) : impl_charClass.f k p = some (cc p) := by
  obtain ⟨k, rfl⟩ : ∃ m, k = m + 2 := ⟨k - 2, by omega⟩
  unfold impl_charClass.f impl_Category.f cc
  rw [kind_eq _ (by omega) p hp]
  simp only [Option.bind_some]
  by_cases a : (kindOf p).1 = 1
  · rw [if_pos a, if_pos (Or.inl a), impl_charClass.j0, iteT rfl]
  · rw [if_neg a, impl_charClass.j0]
    by_cases b : p = 7954
    · rw [iteT (beq_iff_eq.2 b), if_pos (Or.inr b)]
    · rw [iteF (beq_eq_false_iff_ne.2 b), if_neg (show ¬ ((kindOf p).1 = 1 ∨ p = 7954) from fun h => h.elim a b)]
      unfold impl_isMark.f impl_Category.f
      rw [kind_eq _ (by omega) p hp]
      simp only [Option.bind_some]
      by_cases c : (kindOf p).1 = 3
      · rw [iteT (beq_iff_eq.2 c), charClass_j1, if_pos (Or.inl c), if_pos rfl]
      · rw [iteF (beq_eq_false_iff_ne.2 c)]
        by_cases d : p = 7936
        · rw [if_pos d, charClass_j1, if_pos (Or.inr (Or.inl d)), if_pos rfl]
        · rw [if_neg d, inF_eq, Option.bind_some, charClass_j1]
          by_cases e : 7744 ≤ p ∧ p ≤ 7748
          · rw [if_pos (decide_eq_true e), if_pos (Or.inr (Or.inr e))]
          · rw [iteF (decide_eq_false e), if_neg (show ¬ ((kindOf p).1 = 3 ∨ p = 7936 ∨ (7744 ≤ p ∧ p ≤ 7748)) by omega)]
/-- What is said of a point (class c) behind another (class d). -/
def t6 (c d flags : Int) : Bool := if c = 9 ∧ d = 9 ∧ flags % 2 = 1 then false else true
def t5 (q c d : Int) (pic : Bool) (flags : Int) : Bool := if q = 7936 ∧ c = 8 ∧ pic = true then false else t6 c d flags
def t4 (q p c d : Int) (bind pic : Bool) (flags : Int) : Bool := if c = 2 then false else if (1536 ≤ p ∧ p ≤ 1567) ∧ bind = true then false else t5 q c d pic flags
def t3 (q p c d : Int) (bind pic : Bool) (flags : Int) : Bool := if (d = 5 ∨ d = 7) ∧ c = 5 then false else t4 q p c d bind pic flags
def t2 (q p c d : Int) (bind pic : Bool) (flags : Int) : Bool := if (d = 4 ∨ d = 6) ∧ (c = 4 ∨ c = 5) then false else t3 q p c d bind pic flags
def t1 (q p c d : Int) (bind pic : Bool) (flags : Int) : Bool := if d = 3 ∧ (c = 3 ∨ c = 4 ∨ c = 6 ∨ c = 7) then false else t2 q p c d bind pic flags
def t0 (q p c d : Int) (bind pic : Bool) (flags : Int) : Bool := if c = 1 ∨ d = 1 then true else t1 q p c d bind pic flags
def cutG (q p c d : Int) (bind pic : Bool) (flags : Int) : Bool := if q = 13 ∧ p = 10 then false else t0 q p c d bind pic flags
theorem lit_j6 (k : Nat) (c d flags : Int) (hf : 0 ≤ flags) (b : Bool) : impl_charCuts_1.j6 (k + 1) c d flags b = some (if b = true then false else t6 c d flags) := by
  rw [impl_charCuts_1.j6, Int.tmod_eq_emod_of_nonneg hf]
  unfold t6
  by_cases h1 : c = 9 <;> by_cases h2 : d = 9 <;> by_cases h3 : flags % 2 = 1 <;> cases b <;> simp [h1, h2, h3]
theorem lit_j5 (k : Nat) (q c d flags : Int) (hf : 0 ≤ flags) (pic b : Bool) : impl_charCuts_1.j5 (k + 2) q c d pic flags b = some (if b = true then false else t5 q c d pic flags) := by
  rw [impl_charCuts_1.j5]
  simp only [lit_j6 k c d flags hf]
  unfold t5
  generalize t6 c d flags = R
  by_cases h1 : q = 7936 <;> by_cases h2 : c = 8 <;> cases pic <;> cases b <;> simp [h1, h2]
theorem lit_j4 (k : Nat) (q p c d flags : Int) (hf : 0 ≤ flags) (bind pic b : Bool) : impl_charCuts_1.j4 (k + 3) q p c d bind pic flags b = some (if b = true then false else t4 q p c d bind pic flags) := by
  rw [impl_charCuts_1.j4, inF_eq, Option.bind_some]
  simp only [lit_j5 k q c d flags hf]
  unfold t4
  generalize t5 q c d pic flags = R
  by_cases h1 : c = 2 <;> by_cases h2 : 1536 ≤ p ∧ p ≤ 1567 <;> cases bind <;> cases b <;> simp [h1, h2]
theorem lit_j3 (k : Nat) (q p c d flags : Int) (hf : 0 ≤ flags) (bind pic b : Bool) : impl_charCuts_1.j3 (k + 4) q p c d bind pic flags b = some (if b = true then false else t3 q p c d bind pic flags) := by
  rw [impl_charCuts_1.j3]
  simp only [lit_j4 k q p c d flags hf]
  unfold t3
  generalize t4 q p c d bind pic flags = R
  by_cases h1 : d = 5 <;> by_cases h2 : d = 7 <;> by_cases h3 : c = 5 <;> cases b <;> simp [h1, h2, h3]
theorem lit_j2 (k : Nat) (q p c d flags : Int) (hf : 0 ≤ flags) (bind pic b : Bool) : impl_charCuts_1.j2 (k + 5) q p c d bind pic flags b = some (if b = true then false else t2 q p c d bind pic flags) := by
  rw [impl_charCuts_1.j2]
  simp only [lit_j3 k q p c d flags hf]
  unfold t2
  generalize t3 q p c d bind pic flags = R
  by_cases h1 : d = 4 <;> by_cases h2 : d = 6 <;> by_cases h3 : c = 4 <;> by_cases h4 : c = 5 <;> cases b <;> simp [h1, h2, h3, h4]
theorem lit_j1 (k : Nat) (q p c d flags : Int) (hf : 0 ≤ flags) (bind pic b : Bool) : impl_charCuts_1.j1 (k + 6) q p c d bind pic flags b = some (if b = true then true else t1 q p c d bind pic flags) := by
  rw [impl_charCuts_1.j1]
  simp only [lit_j2 k q p c d flags hf]
  unfold t1
  generalize t2 q p c d bind pic flags = R
  by_cases h1 : d = 3
  · by_cases g1 : c = 3
    · cases b <;> simp [h1, g1]
    · by_cases g2 : c = 4
      · cases b <;> simp [h1, g2]
      · by_cases g3 : c = 6
        · cases b <;> simp [h1, g3]
        · by_cases g4 : c = 7 <;> cases b <;> simp [h1, g1, g2, g3, g4]
  · cases b <;> simp [h1]
theorem lit_j0 (k : Nat) (q p c d flags : Int) (hf : 0 ≤ flags) (bind pic b : Bool) : impl_charCuts_1.j0 (k + 7) q p c d bind pic flags b = some (if b = true then false else t0 q p c d bind pic flags) := by
  rw [impl_charCuts_1.j0]
  simp only [lit_j1 k q p c d flags hf]
  unfold t0
  generalize t1 q p c d bind pic flags = R
  by_cases h1 : c = 1 <;> by_cases h2 : d = 1 <;> cases b <;> simp [h1, h2]
theorem lit_eq (k : Nat) (hk : 7 ≤ k) (q p c d flags : Int) (hf : 0 ≤ flags) (bind pic : Bool) : impl_charCuts_1.f k q p c d bind pic flags = some (cutG q p c d bind pic flags) := by
  obtain ⟨k, rfl⟩ : ∃ m, k = m + 7 := ⟨k - 7, by omega⟩
  unfold impl_charCuts_1.f cutG
  simp only [lit_j0 k q p c d flags hf]
  generalize t0 q p c d bind pic flags = R
  by_cases h1 : q = 13 <;> by_cases h2 : p = 10 <;> simp [h1, h2]

end Go.Proofs.YtmlhnpggjkoinaaDoor.PFnExactWords

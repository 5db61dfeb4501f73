/- First-match tables of intervals: two that agree at every edge agree everywhere. No program stands here. -/
import Derived.Test.YtmlhnpggjkoinaaDoorLib
set_option linter.unusedSimpArgs false
set_option linter.unusedVariables false
namespace Go.Proofs.YtmlhnpggjkoinaaDoor.Lib

/-- A row: from, to, two values. -/
structure Rw where
  a : Int
  b : Int
  c : Int
  s : Int

def findT : List Rw → Int → Int × Int
  | [], _ => (0, 0)
  | r :: T, p => if r.a ≤ p ∧ p ≤ r.b then (r.c, r.s) else findT T p
/-- The greatest edge that is not beyond p. -/
def rep : Int → List Int → Int → Int
  | m, [], _ => m
  | m, b :: B, p => if b ≤ p ∧ m < b then rep b B p else rep m B p
theorem rep_le : ∀ (B : List Int) (m p : Int), m ≤ p → rep m B p ≤ p
  | [], _, _, h => h
  | b :: B, m, p, h => by
    unfold rep
    split
    · rename_i hb; exact rep_le B b p hb.1
    · exact rep_le B m p h
theorem le_rep : ∀ (B : List Int) (m p : Int), m ≤ rep m B p
  | [], m, _ => Int.le_refl m
  | b :: B, m, p => by
    unfold rep
    split
    · rename_i hb; exact Int.le_trans (Int.le_of_lt hb.2) (le_rep B b p)
    · exact le_rep B m p
theorem rep_edge : ∀ (B : List Int) (m p x : Int), x ∈ B → x ≤ p → x ≤ rep m B p
  | [], _, _, _, hx, _ => by cases hx
  | b :: B, m, p, x, hx, hp => by
    unfold rep
    rcases List.mem_cons.1 hx with rfl | hx
    · split
      · exact le_rep B x p
      · rename_i h
        have h1 : ¬ m < x := fun h2 => h ⟨hp, h2⟩
        exact Int.le_trans (Int.not_lt.1 h1) (le_rep B m p)
    · split
      · exact rep_edge B b p x hx hp
      · exact rep_edge B m p x hx hp
theorem rep_mem : ∀ (B : List Int) (m p : Int), rep m B p ∈ m :: B
  | [], m, _ => List.mem_cons_self
  | b :: B, m, p => by
    unfold rep
    split
    · exact List.mem_cons_of_mem _ (rep_mem B b p)
    · rcases List.mem_cons.1 (rep_mem B m p) with h | h
      · rw [h]; exact List.mem_cons_self
      · exact List.mem_cons_of_mem _ (List.mem_cons_of_mem _ h)
def edged (T : List Rw) (B : List Int) : Bool := T.all fun r => B.contains r.a && B.contains (r.b + 1)
theorem find_rep (B : List Int) (m p : Int) (hm : m ≤ p) : ∀ (T : List Rw), edged T B = true → findT T p = findT T (rep m B p)
  | [], _ => rfl
  | r :: T, h => by
    simp only [edged, List.all_cons, Bool.and_eq_true, List.contains_iff_mem] at h
    have ih := find_rep B m p hm T (by simpa [edged] using h.2)
    have l1 := rep_le B m p hm
    have e1 := rep_edge B m p r.a h.1.1
    have e2 := rep_edge B m p (r.b + 1) h.1.2
    unfold findT
    by_cases c : r.a ≤ p ∧ p ≤ r.b
    · rw [if_pos c, if_pos ⟨e1 c.1, Int.le_trans l1 c.2⟩]
    · rw [if_neg c, if_neg (by
        rintro ⟨h1, h2⟩
        apply c
        refine ⟨Int.le_trans h1 l1, ?_⟩
        by_cases hb : r.b + 1 ≤ p
        · have := e2 hb; omega
        · omega)]
      exact ih
theorem tables_agree (T U : List Rw) (B : List Int) (m : Int) (hT : edged T B = true) (hU : edged U B = true) (h : (m :: B).all (fun b => decide (findT T b = findT U b)) = true) (p : Int) (hm : m ≤ p) : findT T p = findT U p := by
  rw [find_rep B m p hm T hT, find_rep B m p hm U hU]
  exact of_decide_eq_true (List.all_eq_true.1 h _ (rep_mem B m p))

end Go.Proofs.YtmlhnpggjkoinaaDoor.Lib

/- The program's DigitOf returns what the reference's returns. For every input: the law answers true; each argument reads afterwards as it read before. -/
import Derived.Test.YtpibhoaegbeonaaDoorPFnExactDigitOfx
import Derived.Test.YtpibhoaegbeonaaDoorLib
import Derived.Test.YtpibhoaegbeonaaDoorKindDigitOf
set_option linter.unusedSimpArgs false
set_option linter.unusedVariables false
namespace Go.Proofs.YtpibhoaegbeonaaDoor.Pure
open Go.RowKit Go.Proofs.YtpibhoaegbeonaaDoor.PFnExactDigitOf Go.Proofs.YtpibhoaegbeonaaDoorW.PrintWords Go.Proofs.YtpibhoaegbeonaaDoorW.PrintLast Go.Proofs.YtpibhoaegbeonaaDoorW.PrintMore Go.Proofs.YtpibhoaegbeonaaDoor.Lib

theorem sysStep (K : Nat) (p j r : Int) (h0 : 0 ≤ j) (h7 : j < 7) (hr : rd digRows j = r) (hb : 0 ≤ r ∧ r ≤ 100000) :
    impl_systemOf.l0 (K + 1) p digRows j = if r ≤ p ∧ p ≤ r + 9 then some (j, p - r) else impl_systemOf.l0 K p digRows (j + 1) := by
  have e7 : ((digRows.length : Nat) : Int) = 7 := rfl
  rw [impl_systemOf.l0, e7, if_pos h7, if_pos h0, hr, w64 (x := r + 9) (by omega) (by omega), inF_eq, Option.bind_some, w64 (x := j + 1) (by omega) (by omega)]
  by_cases c : r ≤ p ∧ p ≤ r + 9
  · rw [if_pos (decide_eq_true c), if_pos c, w64 (by omega) (by omega)]
  · rw [if_neg (by simp; omega), if_neg c]
theorem sysEnd (K : Nat) (p j : Int) (h7 : 7 ≤ j) : impl_systemOf.l0 (K + 1) p digRows j = some (-1, -1) := by
  have e7 : ((digRows.length : Nat) : Int) = 7 := rfl
  rw [impl_systemOf.l0, e7, if_neg (by omega)]
theorem sys_eq (p : Int) : impl_systemOf.f p = some (if 48 ≤ p ∧ p ≤ 57 then (0, p - 48) else if 592 ≤ p ∧ p ≤ 601 then (1, p - 592) else if 848 ≤ p ∧ p ≤ 857 then (2, p - 848) else if 1104 ≤ p ∧ p ≤ 1113 then (3, p - 1104)
    else if 1360 ≤ p ∧ p ≤ 1369 then (4, p - 1360) else if 1616 ≤ p ∧ p ≤ 1625 then (5, p - 1616) else if 10016 ≤ p ∧ p ≤ 10025 then (6, p - 10016) else (-1, -1)) := by
  unfold impl_systemOf.f
  rw [sysStep 7 p 0 48 (by decide) (by decide) rfl (by decide), sysStep 6 p (0 + 1) 592 (by decide) (by decide) rfl (by decide), sysStep 5 p (0 + 1 + 1) 848 (by decide) (by decide) rfl (by decide), sysStep 4 p (0 + 1 + 1 + 1) 1104 (by decide) (by decide) rfl (by decide),
    sysStep 3 p (0 + 1 + 1 + 1 + 1) 1360 (by decide) (by decide) rfl (by decide), sysStep 2 p (0 + 1 + 1 + 1 + 1 + 1) 1616 (by decide) (by decide) rfl (by decide), sysStep 1 p (0 + 1 + 1 + 1 + 1 + 1 + 1) 10016 (by decide) (by decide) rfl (by decide), sysEnd 0 p _ (by decide)]
  by_cases c1 : 48 ≤ p ∧ p ≤ 57
  · rw [if_pos (by omega), if_pos c1]
  · rw [if_neg (by omega), if_neg c1]
    by_cases c2 : 592 ≤ p ∧ p ≤ 601
    · rw [if_pos (by omega), if_pos c2]; rfl
    · rw [if_neg (by omega), if_neg c2]
      by_cases c3 : 848 ≤ p ∧ p ≤ 857
      · rw [if_pos (by omega), if_pos c3]; rfl
      · rw [if_neg (by omega), if_neg c3]
        by_cases c4 : 1104 ≤ p ∧ p ≤ 1113
        · rw [if_pos (by omega), if_pos c4]; rfl
        · rw [if_neg (by omega), if_neg c4]
          by_cases c5 : 1360 ≤ p ∧ p ≤ 1369
          · rw [if_pos (by omega), if_pos c5]; rfl
          · rw [if_neg (by omega), if_neg c5]
            by_cases c6 : 1616 ≤ p ∧ p ≤ 1625
            · rw [if_pos (by omega), if_pos c6]; rfl
            · rw [if_neg (by omega), if_neg c6]
              by_cases c7 : 10016 ≤ p ∧ p ≤ 10025
              · rw [if_pos (by omega), if_pos c7]; rfl
              · rw [if_neg (by omega), if_neg c7]
theorem ten (r : Int) (h : ∀ m : Fin 10, (kindOf ((m.val : Int) + r)).1 = 8) (p : Int) (h0 : r ≤ p) (h1 : p ≤ r + 9) : (kindOf p).1 = 8 := by
  obtain ⟨n, rfl⟩ : ∃ n : Nat, p = (n : Int) + r := ⟨(p - r).toNat, by omega⟩
  exact h ⟨n, by omega⟩
theorem findT_mem (p : Int) : ∀ (T : List Rw), (findT T p).1 = 8 → ∃ r ∈ T, (r.c = 8) ∧ r.a ≤ p ∧ p ≤ r.b := by
  intro T
  induction T with
  | nil => intro h; exact absurd h (by simp [findT])
  | cons r T ih =>
    intro h
    unfold findT at h
    by_cases c : r.a ≤ p ∧ p ≤ r.b
    · rw [if_pos c] at h
      exact ⟨r, List.mem_cons_self, h, c.1, c.2⟩
    · rw [if_neg c] at h
      obtain ⟨x, hx, h2⟩ := ih h
      exact ⟨x, List.mem_cons_of_mem _ hx, h2⟩
theorem digit_iff (p : Int) (h : (kindOf p).1 = 8) : (48 ≤ p ∧ p ≤ 57) ∨ (592 ≤ p ∧ p ≤ 601) ∨ (848 ≤ p ∧ p ≤ 857) ∨ (1104 ≤ p ∧ p ≤ 1113) ∨ (1360 ≤ p ∧ p ≤ 1369) ∨ (1616 ≤ p ∧ p ≤ 1625) ∨ (10016 ≤ p ∧ p ≤ 10025) := by
  unfold kindOf at h
  by_cases a : 512 ≤ p ∧ p < 1280
  · rw [if_pos a] at h
    unfold casedKind at h
    by_cases b : casedCat (p % 256) = 0
    · rw [if_pos b] at h; exact absurd h (by decide)
    · rw [if_neg b] at h
      unfold casedCat at h
      have h80 : 80 ≤ p % 256 ∧ p % 256 ≤ 89 := by
        simp only at h
        repeat' split at h
        all_goals first | omega | (exfalso; revert h; decide)
      omega
  · rw [if_neg a] at h
    by_cases b : 8192 ≤ p ∧ p < 9728
    · rw [if_pos b] at h
      exfalso
      revert h
      repeat' split
      all_goals decide
    · rw [if_neg b] at h
      obtain ⟨r, hr, h8, h0, h1⟩ := findT_mem p _ h
      have e : ∀ r ∈ T2 ++ T8, r.c = 8 → (r.a, r.b) ∈ [((48 : Int), (57 : Int)), (1360, 1369), (1616, 1625), (10016, 10025)] := by decide +kernel
      have hf := e r hr h8
      simp only [List.mem_cons, List.not_mem_nil, or_false, Prod.mk.injEq] at hf
      omega
theorem FnExactDigitOf : laws_FnExactDigitOf.Pure := by
  intro p hp
  have hb := bd64 hp
  refine ⟨42, ?_⟩
  unfold laws_FnExactDigitOf.f spec_DigitOf.f spec_l01Cat.f impl_DigitOf.f
  rw [known_eq 42 (by omega) p hb]
  simp only [Option.bind_some]
  have yes : ∀ r : Int, 0 ≤ r → r % 16 = 0 → r ≤ p → p ≤ r + 9 → Int.tmod (Int.tmod p 16) 10 = p - r := by
    intro r h0 hr h1 h2
    rw [show Int.tmod p 16 = p % 16 from Int.tmod_eq_emod_of_nonneg (by omega), Int.tmod_eq_emod_of_nonneg (by omega)]
    omega
  by_cases h : (kindOf p).1 = 8
  · rw [if_pos h]
    simp only [Option.bind_some]
    rcases digit_iff p h with c | c | c | c | c | c | c
    · rw [show impl_systemOf.f p = some (0, p - 48) by rw [sys_eq, if_pos c], yes 48 (by omega) (by omega) c.1 (by omega)]; simp
    · rw [show impl_systemOf.f p = some (1, p - 592) by rw [sys_eq, if_neg (by omega), if_pos c], yes 592 (by omega) (by omega) c.1 (by omega)]; simp
    · rw [show impl_systemOf.f p = some (2, p - 848) by rw [sys_eq, if_neg (by omega), if_neg (by omega), if_pos c], yes 848 (by omega) (by omega) c.1 (by omega)]; simp
    · rw [show impl_systemOf.f p = some (3, p - 1104) by rw [sys_eq, if_neg (by omega), if_neg (by omega), if_neg (by omega), if_pos c], yes 1104 (by omega) (by omega) c.1 (by omega)]; simp
    · rw [show impl_systemOf.f p = some (4, p - 1360) by rw [sys_eq, if_neg (by omega), if_neg (by omega), if_neg (by omega), if_neg (by omega), if_pos c], yes 1360 (by omega) (by omega) c.1 (by omega)]; simp
    · rw [show impl_systemOf.f p = some (5, p - 1616) by rw [sys_eq, if_neg (by omega), if_neg (by omega), if_neg (by omega), if_neg (by omega), if_neg (by omega), if_pos c], yes 1616 (by omega) (by omega) c.1 (by omega)]; simp
    · rw [show impl_systemOf.f p = some (6, p - 10016) by rw [sys_eq, if_neg (by omega), if_neg (by omega), if_neg (by omega), if_neg (by omega), if_neg (by omega), if_neg (by omega), if_pos c], yes 10016 (by omega) (by omega) c.1 (by omega)]; simp
  · rw [if_neg h]
    simp only [Option.bind_some]
    have n : ∀ r : Int, (∀ m : Fin 10, (kindOf ((m.val : Int) + r)).1 = 8) → ¬ (r ≤ p ∧ p ≤ r + 9) := fun r hr c => h (ten r hr p c.1 c.2)
    have n1 := n 48 (by decide +kernel)
    have n2 := n 592 (by decide +kernel)
    have n3 := n 848 (by decide +kernel)
    have n4 := n 1104 (by decide +kernel)
    have n5 := n 1360 (by decide +kernel)
    have n6 := n 1616 (by decide +kernel)
    have n7 := n 10016 (by decide +kernel)
    rw [show impl_systemOf.f p = some (-1, -1) by rw [sys_eq, if_neg (by omega), if_neg (by omega), if_neg (by omega), if_neg (by omega), if_neg (by omega), if_neg (by omega), if_neg (by omega)]]
    simp

end Go.Proofs.YtpibhoaegbeonaaDoor.Pure

/- Between two points: the program's literal and the reference's cut of words say the same. -/
import Derived.Test.YtmlhnpggjkoinaaDoorCutEWords
import Derived.Test.YtmlhnpggjkoinaaDoorKindWords
set_option linter.unusedSimpArgs false
set_option linter.unusedVariables false
namespace Go.Proofs.YtmlhnpggjkoinaaDoor.PFnExactWords
open Go.RowKit Go.Proofs.YtmlhnpggjkoinaaDoorW.PrintWords Go.Proofs.YtmlhnpggjkoinaaDoorW.PrintLast Go.Proofs.YtmlhnpggjkoinaaDoorW.PrintMore Go.Proofs.YtmlhnpggjkoinaaDoor.Lib

abbrev in64 (p : Int) : Prop := -9223372036854775808 ≤ p ∧ p ≤ 9223372036854775807
def wl (p : Int) : Bool := decide ((4 ≤ (kindOf p).1 ∧ (kindOf p).1 ≤ 7) ∧ (kindOf p).2 ≠ 8 ∧ (kindOf p).2 ≠ 9)
def dg (p : Int) : Bool := (kindOf p).1 == 8
def wp (p : Int) : Bool := (kindOf p).2 == 8
def sp (p : Int) : Bool := (kindOf p).1 == 2
def jt (p : Int) : Bool := decide (p = 39 ∨ p = 46 ∨ p = 58)
def pt (p : Int) : Bool := decide (p = 46 ∨ p = 44)
theorem catI (k : Nat) (hk : 42 ≤ k) (p : Int) (hp : in64 p) : impl_Category.f k p = some (kindOf p).1 := by unfold impl_Category.f; rw [kind_eq k (by omega) p hp]; rfl
theorem scrI (k : Nat) (hk : 42 ≤ k) (p : Int) (hp : in64 p) : impl_Script.f k p = some (kindOf p).2 := by unfold impl_Script.f; rw [kind_eq k (by omega) p hp]; rfl
theorem catS (k : Nat) (hk : 42 ≤ k) (p : Int) (hp : in64 p) : spec_l01Cat.f k p = some (kindOf p).1 := by unfold spec_l01Cat.f; rw [known_eq k hk p hp]; rfl
theorem scrS (k : Nat) (hk : 42 ≤ k) (p : Int) (hp : in64 p) : spec_l01Script.f k p = some (kindOf p).2 := by unfold spec_l01Script.f; rw [known_eq k hk p hp]; rfl
theorem isSpaceI (k : Nat) (hk : 42 ≤ k) (p : Int) (hp : in64 p) : impl_isSpace.f k p = some (sp p) := by unfold impl_isSpace.f; rw [catI k hk p hp]; rfl
theorem isDigitI (k : Nat) (hk : 42 ≤ k) (p : Int) (hp : in64 p) : impl_isDigit.f k p = some (dg p) := by unfold impl_isDigit.f; rw [catI k hk p hp]; rfl
theorem wordPartI (k : Nat) (hk : 42 ≤ k) (p : Int) (hp : in64 p) : impl_wordPart.f k p = some (wp p) := by unfold impl_wordPart.f; rw [scrI k hk p hp]; rfl
theorem wordLetterI (k : Nat) (hk : 42 ≤ k) (p : Int) (hp : in64 p) : impl_wordLetter.f k p = some (wl p) := by
  unfold impl_wordLetter.f impl_isLetter.f
  rw [scrI k hk p hp, catI k hk p hp, Option.bind_some, Option.bind_some, inF_eq]
  simp only [Option.bind_some, decide_eq_true_eq]
  unfold wl
  by_cases a : 4 ≤ (kindOf p).1 ∧ (kindOf p).1 ≤ 7
  · rw [if_pos a]
    by_cases b : (kindOf p).2 = 8
    · rw [if_pos b, decide_eq_false (fun h => h.2.1 b)]
    · rw [if_neg b]
      congr 1
      by_cases c : (kindOf p).2 = 9
      · rw [decide_eq_false (fun h => h.2.2 c), c]; rfl
      · rw [decide_eq_true ⟨a, b, c⟩]; exact bne_iff_ne.2 c
  · rw [if_neg a, decide_eq_false (fun h => a h.1)]
theorem w4I (k : Nat) (hk : 42 ≤ k) (p : Int) (hp : in64 p) : impl_wordCuts_4.f k p = some (wl p || dg p) := by
  unfold impl_wordCuts_4.f
  rw [wordLetterI k hk p hp, isDigitI k hk p hp, Option.bind_some]
  cases wl p <;> simp
theorem jtI (p : Int) : impl_wordCuts_2.f p = some (jt p) := by
  unfold impl_wordCuts_2.f jt
  by_cases a : p = 39
  · rw [if_pos a, decide_eq_true (.inl a)]
  · rw [if_neg a]
    by_cases b : p = 46
    · rw [if_pos b, decide_eq_true (.inr (.inl b))]
    · rw [if_neg b]
      congr 1
      by_cases c : p = 58
      · rw [decide_eq_true (.inr (.inr c))]; exact beq_iff_eq.2 c
      · rw [decide_eq_false (by rintro (h | h | h); exact a h; exact b h; exact c h)]; exact beq_eq_false_iff_ne.2 c
theorem jtS (p : Int) : spec_l07IsJoint.f p = some (jt p) := by
  have := jtI p
  unfold impl_wordCuts_2.f at this
  unfold spec_l07IsJoint.f
  exact this
theorem ptI (p : Int) : impl_wordCuts_3.f p = some (pt p) := by
  unfold impl_wordCuts_3.f pt
  by_cases a : p = 46
  · rw [if_pos a, decide_eq_true (.inl a)]
  · rw [if_neg a]
    congr 1
    by_cases c : p = 44
    · rw [decide_eq_true (.inr c)]; exact beq_iff_eq.2 c
    · rw [decide_eq_false (by rintro (h | h); exact a h; exact c h)]; exact beq_eq_false_iff_ne.2 c
theorem ptS (p : Int) : spec_l07IsPoint.f p = some (pt p) := by
  have := ptI p
  unfold impl_wordCuts_3.f at this
  unfold spec_l07IsPoint.f
  exact this
/-! the program's literal, from its last way to its first -/
def u9 (q p : Int) : Bool := !(wp q && wp p)
def u7 (q p : Int) : Bool := if (((wl q || dg q) || (q == 95)) && (p == 95)) || ((q == 95) && ((wl p || dg p) || (p == 95))) then false else u9 q p
def u5 (q p bh bf : Int) : Bool := if (dg q && pt p && dg bh) || (dg bf && pt q && dg p) then false else u7 q p
def u3 (q p bh bf : Int) : Bool := if (wl q && jt p && wl bh) || (wl bf && jt q && wl p) then false else u5 q p bh bf
def u2 (q p bh bf : Int) : Bool := if (wl q || dg q) && (wl p || dg p) then false else u3 q p bh bf
def u1 (q p bh bf : Int) : Bool := if sp q && sp p then false else u2 q p bh bf
theorem j9I (k : Nat) (hk : 42 ≤ k) (q p : Int) (hq : in64 q) (hp : in64 p) (b : Bool) : impl_wordCuts_5.j9 (k + 1) q p b = some (if b = true then false else u9 q p) := by
  rw [impl_wordCuts_5.j9, wordPartI k hk q hq, wordPartI k hk p hp]
  unfold u9
  cases b <;> cases wp q <;> cases wp p <;> rfl
theorem j8I (k : Nat) (hk : 42 ≤ k) (q p : Int) (hq : in64 q) (hp : in64 p) (b : Bool) : impl_wordCuts_5.j8 (k + 2) q p b = some (if (b || ((q == 95) && ((wl p || dg p) || (p == 95)))) = true then false else u9 q p) := by
  rw [impl_wordCuts_5.j8, w4I (k + 1) (by omega) p hp]
  simp only [j9I k hk q p hq hp, Option.bind_some]
  by_cases c : q = 95
  · have e : (q == 95) = true := beq_iff_eq.2 c
    rw [e]
    simp only [if_pos c]
    cases b <;> cases (wl p || dg p) <;> cases (p == 95) <;> rfl
  · have e : (q == 95) = false := beq_eq_false_iff_ne.2 c
    rw [e]
    simp only [if_neg c]
    cases b <;> rfl
theorem j7I (k : Nat) (hk : 42 ≤ k) (q p : Int) (hq : in64 q) (hp : in64 p) (b : Bool) : impl_wordCuts_5.j7 (k + 3) q p b = some (if b = true then false else u7 q p) := by
  rw [impl_wordCuts_5.j7, w4I (k + 2) (by omega) q hq]
  simp only [j8I k hk q p hq hp, Option.bind_some]
  unfold u7
  by_cases c : q = 95
  · have e : (q == 95) = true := beq_iff_eq.2 c
    rw [e]
    simp only [if_pos c]
    cases b <;> cases (wl q || dg q) <;> cases (p == 95) <;> rfl
  · have e : (q == 95) = false := beq_eq_false_iff_ne.2 c
    rw [e]
    simp only [if_neg c]
    cases b <;> cases (wl q || dg q) <;> cases (p == 95) <;> rfl
theorem j6I (k : Nat) (hk : 42 ≤ k) (q p bf : Int) (hq : in64 q) (hp : in64 p) (hbf : in64 bf) (b : Bool) : impl_wordCuts_5.j6 (k + 4) q p bf b = some (if (b || (dg bf && pt q && dg p)) = true then false else u7 q p) := by
  rw [impl_wordCuts_5.j6, isDigitI (k + 3) (by omega) bf hbf, ptI, isDigitI (k + 3) (by omega) p hp]
  simp only [j7I k hk q p hq hp, Option.bind_some]
  cases b <;> cases dg bf <;> cases pt q <;> cases dg p <;> rfl
theorem j5I (k : Nat) (hk : 42 ≤ k) (q p bh bf : Int) (hq : in64 q) (hp : in64 p) (hbh : in64 bh) (hbf : in64 bf) (b : Bool) : impl_wordCuts_5.j5 (k + 5) q p bh bf b = some (if b = true then false else u5 q p bh bf) := by
  rw [impl_wordCuts_5.j5, isDigitI (k + 4) (by omega) q hq, ptI, isDigitI (k + 4) (by omega) bh hbh]
  simp only [j6I k hk q p bf hq hp hbf, Option.bind_some]
  unfold u5
  generalize u7 q p = T
  generalize (dg bf && pt q && dg p) = U
  cases b <;> cases dg q <;> cases pt p <;> cases dg bh <;> cases U <;> rfl
theorem j4I (k : Nat) (hk : 42 ≤ k) (q p bh bf : Int) (hq : in64 q) (hp : in64 p) (hbh : in64 bh) (hbf : in64 bf) (b : Bool) : impl_wordCuts_5.j4 (k + 6) q p bh bf b = some (if (b || (wl bf && jt q && wl p)) = true then false else u5 q p bh bf) := by
  rw [impl_wordCuts_5.j4, wordLetterI (k + 5) (by omega) bf hbf, jtI, wordLetterI (k + 5) (by omega) p hp]
  simp only [j5I k hk q p bh bf hq hp hbh hbf, Option.bind_some]
  cases b <;> cases wl bf <;> cases jt q <;> cases wl p <;> rfl
theorem j3I (k : Nat) (hk : 42 ≤ k) (q p bh bf : Int) (hq : in64 q) (hp : in64 p) (hbh : in64 bh) (hbf : in64 bf) (b : Bool) : impl_wordCuts_5.j3 (k + 7) q p bh bf b = some (if b = true then false else u3 q p bh bf) := by
  rw [impl_wordCuts_5.j3, wordLetterI (k + 6) (by omega) q hq, jtI, wordLetterI (k + 6) (by omega) bh hbh]
  simp only [j4I k hk q p bh bf hq hp hbh hbf, Option.bind_some]
  unfold u3
  generalize u5 q p bh bf = T
  generalize (wl bf && jt q && wl p) = U
  cases b <;> cases wl q <;> cases jt p <;> cases wl bh <;> cases U <;> rfl
theorem j2I (k : Nat) (hk : 42 ≤ k) (q p bh bf : Int) (hq : in64 q) (hp : in64 p) (hbh : in64 bh) (hbf : in64 bf) (b : Bool) : impl_wordCuts_5.j2 (k + 8) q p bh bf b = some (if b = true then false else u2 q p bh bf) := by
  rw [impl_wordCuts_5.j2, w4I (k + 7) (by omega) q hq, w4I (k + 7) (by omega) p hp]
  simp only [j3I k hk q p bh bf hq hp hbh hbf, Option.bind_some]
  unfold u2
  generalize u3 q p bh bf = T
  cases b <;> cases (wl q || dg q) <;> cases (wl p || dg p) <;> rfl
theorem j1I (k : Nat) (hk : 42 ≤ k) (q p bh bf : Int) (hq : in64 q) (hp : in64 p) (hbh : in64 bh) (hbf : in64 bf) (b : Bool) : impl_wordCuts_5.j1 (k + 9) q p bh bf b = some (if b = true then true else u1 q p bh bf) := by
  rw [impl_wordCuts_5.j1, isSpaceI (k + 8) (by omega) q hq, isSpaceI (k + 8) (by omega) p hp]
  simp only [j2I k hk q p bh bf hq hp hbh hbf, Option.bind_some]
  unfold u1
  generalize u2 q p bh bf = T
  cases b <;> cases sp q <;> cases sp p <;> rfl
/-- What tailors say of two points; none: they say nothing. -/
def tl : List S54 → Int → Int → Option Bool
  | [], _, _ => none
  | r :: T, q, p => if r.f0 = q ∧ r.f1 = p then some r.f2 else tl T q p
def wcut (T : List S54) (q p bh bf : Int) (c : Bool) : Bool := match tl T q p with
  | some b => b
  | none => if c = true then (if ctl q = true ∨ ctl p = true then true else u1 q p bh bf) else false
theorem rdT_nat (T : List S54) (n : Nat) (h : n < T.length) : rd_T54 T (n : Int) = T[n] := by
  simp [rd_T54, List.getD_eq_getElem?_getD, List.getElem?_eq_getElem h]
theorem litI (T : List S54) (hT : T.length ≤ 1048576) (q p bh bf : Int) (hq : in64 q) (hp : in64 p) (hbh : in64 bh) (hbf : in64 bf) (R : List Bool) (i : Nat) (hi : i < R.length) : ∀ (d n k : Nat), n + d = T.length → d + 60 < k →
    impl_wordCuts_5.l0 k q p R (i : Int) bh bf T (T.length : Int) (n : Int) = some (wcut (T.drop n) q p bh bf (rdOf false R (i : Int))) := by
  intro d
  induction d with
  | zero =>
    intro n k hn hk
    obtain ⟨k, rfl⟩ : ∃ m, k = m + 10 := ⟨k - 10, by omega⟩
    have c1 := cc_1 q
    have c2 := cc_1 p
    rw [show k + 10 = (k + 9) + 1 from rfl, impl_wordCuts_5.l0, if_neg (by omega), if_pos (by omega), if_pos (by omega), List.drop_eq_nil_of_le (by omega), cc_eq (k + 9) (by omega) q hq, cc_eq (k + 9) (by omega) p hp]
    simp only [Option.bind_some, j1I k (by omega) q p bh bf hq hp hbh hbf]
    unfold wcut tl
    generalize rdOf false R (i : Int) = c
    generalize u1 q p bh bf = U
    cases c
    · rfl
    · simp only [if_true]
      by_cases a : ctl q = true
      · rw [if_pos (c1.2 a)]; exact congrArg some (if_pos (Or.inl a)).symm
      · rw [if_neg (fun h => a (c1.1 h))]
        by_cases b : ctl p = true
        · have e : (cc p == 1) = true := beq_iff_eq.2 (c2.2 b)
          rw [e]
          exact congrArg some (if_pos (Or.inr b)).symm
        · have e : (cc p == 1) = false := beq_eq_false_iff_ne.2 (fun h => b (c2.1 h))
          rw [e]
          exact congrArg some (if_neg (fun h => h.elim a b)).symm
  | succ d ih =>
    intro n k hn hk
    obtain ⟨k, rfl⟩ : ∃ m, k = m + 1 := ⟨k - 1, by omega⟩
    have hlt : n < T.length := by omega
    have hd : wcut (T.drop n) q p bh bf (rdOf false R (i : Int)) = if T[n].f0 = q ∧ T[n].f1 = p then T[n].f2 else wcut (T.drop (n + 1)) q p bh bf (rdOf false R (i : Int)) := by
      rw [List.drop_eq_getElem_cons hlt]
      unfold wcut
      rw [tl]
      by_cases c : T[n].f0 = q ∧ T[n].f1 = p
      · rw [if_pos c, if_pos c]
      · rw [if_neg c, if_neg c]
    rw [impl_wordCuts_5.l0, if_pos (by omega), if_pos (by omega), if_pos (by omega), rdT_nat T n hlt, w64s hlt (by omega), ih (n + 1) k (by omega) (by omega), hd]
    by_cases a : T[n].f0 = q
    · rw [if_pos a]
      by_cases b : T[n].f1 = p
      · rw [if_pos b, if_pos ⟨a, b⟩]
      · rw [if_neg b, if_neg (fun h => b h.2)]
    · rw [if_neg a, if_neg (fun h => a h.1)]
/-! the reference's words -/
theorem part_other (p : Int) (h : (kindOf p).2 = 8) : (kindOf p).1 = 7 := by
  unfold kindOf at h ⊢
  by_cases a : 512 ≤ p ∧ p < 1280
  · rw [if_pos a] at h ⊢
    exfalso
    unfold casedKind at h
    revert h
    split <;> (intro h; simp at h) <;> omega
  · rw [if_neg a] at h ⊢
    by_cases b : 8192 ≤ p ∧ p < 9728
    · rw [if_pos b] at h
      exfalso
      revert h
      repeat' split
      all_goals (intro h; simp at h)
    · rw [if_neg b] at h ⊢
      have key : ∀ T : List Rw, (∀ r ∈ T, r.s = 8 → r.c = 7) → (findT T p).2 = 8 → (findT T p).1 = 7 := by
        intro T
        induction T with
        | nil => intro _ h; simp [findT] at h
        | cons r T ih =>
          intro hT h
          unfold findT at h ⊢
          by_cases e : r.a ≤ p ∧ p ≤ r.b
          · rw [if_pos e] at h ⊢
            exact hT r List.mem_cons_self h
          · rw [if_neg e] at h ⊢
            exact ih (fun x hx => hT x (List.mem_cons_of_mem _ hx)) h
      exact key _ (by decide +kernel) h
/-- The reference's kind of a point at words. -/
def wd (p : Int) : Int := if dg p = true then 2 else if wp p = true then 5 else if wl p = true then 1 else if p = 95 then 3 else 0
theorem wd_core (k : Nat) (p c s : Int) (hs : spec_l01Script.f (k + 1) p = some s) (hpo : s = 8 → c = 7) : (if c = 8 then some 2 else if s = 8 then spec_l07Word.j0 (k + 2) p c (c == 7) else spec_l07Word.j0 (k + 2) p c false) =
    some (if (c == 8) = true then 2 else if (s == 8) = true then 5 else if decide ((4 ≤ c ∧ c ≤ 7) ∧ s ≠ 8 ∧ s ≠ 9) = true then 1 else if p = 95 then 3 else (0 : Int)) := by
  have e1 : ∀ b, spec_l07Word.j1 (k + 1) p b = some (if b = true then 1 else if p = 95 then 3 else 0) := by
    intro b
    rw [spec_l07Word.j1]
    cases b
    · by_cases c : p = 95 <;> simp [c]
    · rfl
  by_cases a : c = 8
  · rw [if_pos a, if_pos (beq_iff_eq.2 a)]
  · rw [if_neg a, if_neg (fun h => a (beq_iff_eq.1 h))]
    by_cases b : s = 8
    · have h7 := hpo b
      rw [if_pos b, if_pos (beq_iff_eq.2 b), show (c == 7) = true from beq_iff_eq.2 h7, spec_l07Word.j0, if_pos rfl]
    · rw [if_neg b, if_neg (fun h => b (beq_iff_eq.1 h)), spec_l07Word.j0, if_neg (by decide), hs, Option.bind_some]
      simp only [e1]
      by_cases d : s = 9
      · rw [if_pos d, if_neg (by decide), if_neg (show ¬ decide ((4 ≤ c ∧ c ≤ 7) ∧ s ≠ 8 ∧ s ≠ 9) = true from fun h => (of_decide_eq_true h).2.2 d)]
      · rw [if_neg d]
        by_cases y : 4 ≤ c ∧ c ≤ 7
        · rw [if_pos (show decide ((4 ≤ c ∧ c ≤ 7) ∧ s ≠ 8 ∧ s ≠ 9) = true from decide_eq_true ⟨y, b, d⟩)]
          by_cases f : c = 4
          · rw [if_pos f]; rfl
          · rw [if_neg f]
            by_cases g : c = 5
            · rw [if_pos g]; rfl
            · rw [if_neg g]
              by_cases h : c = 6
              · rw [if_pos h]; rfl
              · rw [if_neg h, show (c == 7) = true from beq_iff_eq.2 (by omega)]; rfl
        · rw [if_neg (show ¬ decide ((4 ≤ c ∧ c ≤ 7) ∧ s ≠ 8 ∧ s ≠ 9) = true from fun h => y (of_decide_eq_true h).1), if_neg (by omega), if_neg (by omega), if_neg (by omega), show (c == 7) = false from beq_eq_false_iff_ne.2 (by omega), if_neg (by decide)]
theorem wd_eq (k : Nat) (hk : 44 ≤ k) (p : Int) (hp : in64 p) : spec_l07Word.f k p = some (wd p) := by
  obtain ⟨k, rfl⟩ : ∃ m, k = m + 2 := ⟨k - 2, by omega⟩
  unfold spec_l07Word.f
  rw [catS (k + 2) (by omega) p hp, scrS (k + 2) (by omega) p hp, Option.bind_some, Option.bind_some]
  exact wd_core k p _ _ (scrS (k + 1) (by omega) p hp) (part_other p)
end Go.Proofs.YtmlhnpggjkoinaaDoor.PFnExactWords

/- Glyphs in the order of display: the program moves a vowel ahead in the whole row, the reference in the row so far; the rows are the same. -/
import Derived.Test.YtmlhnpggjkoinaaDoorCutDGlyphsOf
import Derived.Test.YtmlhnpggjkoinaaDoorFormsGlyphsOf
import Derived.Test.YtmlhnpggjkoinaaDoorOutGlyphSGlyphsOf
import Derived.Test.YtmlhnpggjkoinaaDoorEvKit
import Derived.Test.YtmlhnpggjkoinaaDoorGlyW
set_option linter.unusedSimpArgs false
set_option linter.unusedVariables false
namespace Go.Proofs.YtmlhnpggjkoinaaDoor.PFnExactGlyphsOf
open Go.RowKit Go.Proofs.YtmlhnpggjkoinaaDoorW.PrintWords Go.Proofs.YtmlhnpggjkoinaaDoorW.PrintLast Go.Proofs.YtmlhnpggjkoinaaDoorW.PrintMore Go.Proofs.YtmlhnpggjkoinaaDoor.Lib Go.Proofs.YtmlhnpggjkoinaaDoor.EvKit Go.Proofs.YtmlhnpggjkoinaaDoor.GlyW

abbrev Gl := S68
theorem ev_from {α : Type} {g g' : Nat → Option α} {r : α} (K : Nat) (h : ∀ k, K ≤ k → g k = g' k) (e : Ev g' r) : Ev g r := by
  obtain ⟨K', hK⟩ := e
  exact ⟨K + K', fun k hk => (h k (by omega)).trans (hK k (by omega))⟩
theorem ev_same {α : Type} {g g' : Nat → Option α} {r : α} (e : Ev g' r) (h : ∀ k, g k = g' k) : Ev g r := ev_from 0 (fun k _ => h k) e
/-- The Id at a place of a row. -/
def idf (x : List Gl) (j : Nat) : Int := (rd_T68 x (j : Int)).f0
def sk2 (f : Nat → Int) : Nat → Nat
  | 0 => 0
  | n + 1 => if f n = 1584 ∨ f n = 1585 then sk2 f n else n + 1
def sk1 (f : Nat → Int) : Nat → Nat
  | 0 => 0
  | n + 1 => if f n = 1585 then sk1 f n else n + 1
/-- Where the consonants begin that belong to a vowel ahead of which c places lie (d: at most so many steps). -/
def run (f : Nat → Int) : Nat → Nat → Option Nat → Option Nat
  | 0, _, st => st
  | d + 1, c, st => if sk2 f c = 0 then st else if f (sk2 f c - 1) < 1536 ∨ f (sk2 f c - 1) > 1567 then st else if sk1 f (sk2 f c - 1) = 0 then some (sk2 f c - 1)
    else if f (sk1 f (sk2 f c - 1) - 1) = 1584 then run f d (sk1 f (sk2 f c - 1)) (some (sk2 f c - 1)) else some (sk2 f c - 1)
theorem sk2_le (f : Nat → Int) : ∀ c, sk2 f c ≤ c
  | 0 => Nat.le_refl _
  | n + 1 => by
    have := sk2_le f n
    unfold sk2
    split <;> omega
theorem sk1_le (f : Nat → Int) : ∀ c, sk1 f c ≤ c
  | 0 => Nat.le_refl _
  | n + 1 => by
    have := sk1_le f n
    unfold sk1
    split <;> omega
theorem sk2_loc (f g : Nat → Int) : ∀ c, (∀ j, j < c → f j = g j) → sk2 f c = sk2 g c
  | 0, _ => rfl
  | n + 1, h => by
    unfold sk2
    rw [h n (by omega), sk2_loc f g n (fun j hj => h j (by omega))]
theorem sk1_loc (f g : Nat → Int) : ∀ c, (∀ j, j < c → f j = g j) → sk1 f c = sk1 g c
  | 0, _ => rfl
  | n + 1, h => by
    unfold sk1
    rw [h n (by omega), sk1_loc f g n (fun j hj => h j (by omega))]
theorem run_loc (f g : Nat → Int) : ∀ d c st, (∀ j, j < c → f j = g j) → run f d c st = run g d c st
  | 0, _, _, _ => rfl
  | d + 1, c, st, h => by
    have h1 := sk2_le g c
    unfold run
    rw [sk2_loc f g c h]
    by_cases c1 : sk2 g c = 0
    · rw [if_pos c1, if_pos c1]
    · have h2 := sk1_le g (sk2 g c - 1)
      rw [if_neg c1, if_neg c1, h (sk2 g c - 1) (by omega), sk1_loc f g (sk2 g c - 1) (fun j hj => h j (by omega))]
      by_cases c3 : sk1 g (sk2 g c - 1) = 0
      · rw [if_pos c3, if_pos c3]
      · rw [if_neg c3, if_neg c3, h (sk1 g (sk2 g c - 1) - 1) (by omega), run_loc f g d (sk1 g (sk2 g c - 1)) _ (fun j hj => h j (by omega))]
theorem run_lt (f : Nat → Int) (b : Nat) : ∀ d c st, c ≤ b → (∀ a, st = some a → a < b) → ∀ a, run f d c st = some a → a < b
  | 0, _, _, _, h, a, e => h a e
  | d + 1, c, st, hc, h, a, e => by
    have h1 := sk2_le f c
    have h2 := sk1_le f (sk2 f c - 1)
    unfold run at e
    split at e
    · exact h a e
    · split at e
      · exact h a e
      · split at e
        · injection e with e; omega
        · split at e
          · exact run_lt f b d _ _ (by omega) (fun a' e' => by injection e' with e'; omega) a e
          · injection e with e; omega
/-! the reference's search -/
def sI (n : Nat) : Option Nat → Int
  | none => (n : Int)
  | some a => (a : Int)
theorem sk2S (x : List Gl) (hx : x.length ≤ 1048576) (m : Int) (r : Int) : ∀ c, c ≤ x.length → Ev (fun k => spec_l10Start.j2 k x m (((sk2 (idf x) c : Nat) : Int) - 1) false) r → Ev (fun k => spec_l10Start.l1 k x m ((c : Int) - 1)) r
  | 0, _, h => succ_ (ev_same h fun k => by rw [spec_l10Start.l1, if_neg (by omega)]; rfl)
  | c + 1, hc, h => by
    have e : ((c + 1 : Nat) : Int) - 1 = (c : Int) := by omega
    rw [e]
    by_cases c0 : idf x c = 1584 ∨ idf x c = 1585
    · unfold sk2 at h
      rw [if_pos c0] at h
      refine succ_ (succ_ (ev_same (sk2S x hx m r c (by omega) h) fun k => ?_))
      rw [spec_l10Start.l1, if_pos (by omega), if_pos (by omega), if_pos (by omega)]
      change (if idf x c = 1585 then spec_l10Start.j2 (k + 1) x m (c : Int) true else spec_l10Start.j2 (k + 1) x m (c : Int) (idf x c == 1584)) = _
      by_cases c1 : idf x c = 1585
      · rw [if_pos c1, spec_l10Start.j2, if_pos rfl, w64 (by omega) (by omega)]
      · rw [if_neg c1, show (idf x c == 1584) = true from by simpa using c0.resolve_right c1, spec_l10Start.j2, if_pos rfl, w64 (by omega) (by omega)]
    · unfold sk2 at h
      rw [if_neg c0, e] at h
      refine succ_ (ev_same h fun k => ?_)
      rw [spec_l10Start.l1, if_pos (by omega), if_pos (by omega), if_pos (by omega)]
      change (if idf x c = 1585 then spec_l10Start.j2 k x m (c : Int) true else spec_l10Start.j2 k x m (c : Int) (idf x c == 1584)) = _
      rw [if_neg (fun h => c0 (.inr h)), show (idf x c == 1584) = false from by simpa using fun h => c0 (.inl h)]
theorem sk1S (x : List Gl) (hx : x.length ≤ 1048576) (m : Int) (r : Int) : ∀ c, c ≤ x.length → Ev (fun k => spec_l10Start.j5 k x m (((sk1 (idf x) c : Nat) : Int) - 1)) r → Ev (fun k => spec_l10Start.l2 k x m ((c : Int) - 1)) r
  | 0, _, h => succ_ (ev_same h fun k => by rw [spec_l10Start.l2, if_neg (by omega)]; rfl)
  | c + 1, hc, h => by
    have e : ((c + 1 : Nat) : Int) - 1 = (c : Int) := by omega
    rw [e]
    by_cases c0 : idf x c = 1585
    · unfold sk1 at h
      rw [if_pos c0] at h
      refine succ_ (ev_same (sk1S x hx m r c (by omega) h) fun k => ?_)
      rw [spec_l10Start.l2, if_pos (by omega), if_pos (by omega), if_pos (by omega)]
      change (if idf x c = 1585 then _ else _) = _
      rw [if_pos c0, w64 (by omega) (by omega)]
    · unfold sk1 at h
      rw [if_neg c0, e] at h
      refine succ_ (ev_same h fun k => ?_)
      rw [spec_l10Start.l2, if_pos (by omega), if_pos (by omega), if_pos (by omega)]
      change (if idf x c = 1585 then _ else _) = _
      rw [if_neg c0]
theorem runS (x : List Gl) (hx : x.length ≤ 1048576) (n : Nat) : ∀ d c st, c ≤ d → c ≤ x.length → Ev (fun k => spec_l10Start.l0 k x (sI n st) ((c : Int) - 1)) (sI n (run (idf x) d c st))
  | 0, c, st, hd, hc => succ_ (ev_same (Ev.now _) fun k => by
      obtain rfl : c = 0 := by omega
      rw [spec_l10Start.l0, if_neg (by omega)]; rfl)
  | d + 1, c, st, hd, hc => by
    by_cases cz : c = 0
    · subst cz
      exact succ_ (ev_same (Ev.now _) fun k => by rw [spec_l10Start.l0, if_neg (by omega)]; rfl)
    refine succ_ (ev_same (g' := fun k => spec_l10Start.l1 k x (sI n st) ((c : Int) - 1)) (sk2S x hx _ _ c hc ?_) fun k => by rw [spec_l10Start.l0, if_pos (by omega)])
    have h1 := sk2_le (idf x) c
    have h2 := sk1_le (idf x) (sk2 (idf x) c - 1)
    unfold run
    by_cases c1 : sk2 (idf x) c = 0
    · rw [if_pos c1, c1]
      refine succ_ (succ_ (ev_same (Ev.now _) fun k => ?_))
      rw [spec_l10Start.j2, if_neg (by decide), if_pos (by decide), spec_l10Start.j3, if_pos rfl]
    · rw [if_neg c1]
      generalize sk2 (idf x) c = c1' at *
      have e : (c1' : Int) - 1 = ((c1' - 1 : Nat) : Int) := by omega
      rw [e]
      have hj : ∀ k b, spec_l10Start.j2 (k + 1) x (sI n st) ((c1' - 1 : Nat) : Int) b = (if b = true then spec_l10Start.l1 k x (sI n st) (wrap64 (((c1' - 1 : Nat) : Int) - 1)) else if idf x (c1' - 1) < 1536 then spec_l10Start.j3 k x (sI n st) ((c1' - 1 : Nat) : Int) true else spec_l10Start.j3 k x (sI n st) ((c1' - 1 : Nat) : Int) (decide (idf x (c1' - 1) > 1567))) := fun k b => by
        rw [spec_l10Start.j2, if_neg (show ¬ ((c1' - 1 : Nat) : Int) < 0 by omega), if_pos (show 0 ≤ ((c1' - 1 : Nat) : Int) by omega), if_pos (show ((c1' - 1 : Nat) : Int) < (x.length : Int) by omega)]; rfl
      by_cases c2 : idf x (c1' - 1) < 1536 ∨ idf x (c1' - 1) > 1567
      · rw [if_pos c2]
        refine succ_ (succ_ (ev_same (Ev.now _) fun k => ?_))
        rw [hj, if_neg (by decide)]
        by_cases c3 : idf x (c1' - 1) < 1536
        · rw [if_pos c3, spec_l10Start.j3, if_pos rfl]
        · rw [if_neg c3, decide_eq_true (c2.resolve_left c3), spec_l10Start.j3, if_pos rfl]
      · rw [if_neg c2]
        refine succ_ (succ_ (ev_same (g' := fun k => spec_l10Start.l2 k x ((c1' - 1 : Nat) : Int) (((c1' - 1 : Nat) : Int) - 1)) (sk1S x hx _ _ (c1' - 1) (by omega) ?_) fun k => ?_))
        · by_cases c4 : sk1 (idf x) (c1' - 1) = 0
          · rw [if_pos c4, c4]
            exact succ_ (ev_same (Ev.now _) fun k => by rw [spec_l10Start.j5, if_pos (by decide)]; rfl)
          · rw [if_neg c4]
            generalize sk1 (idf x) (c1' - 1) = c2' at *
            have e2 : (c2' : Int) - 1 = ((c2' - 1 : Nat) : Int) := by omega
            rw [e2]
            have hj5 : ∀ k, spec_l10Start.j5 (k + 1) x ((c1' - 1 : Nat) : Int) ((c2' - 1 : Nat) : Int) = (if idf x (c2' - 1) = 1584 then spec_l10Start.l0 k x ((c1' - 1 : Nat) : Int) ((c2' - 1 : Nat) : Int) else some ((c1' - 1 : Nat) : Int)) := fun k => by
              rw [spec_l10Start.j5, if_neg (show ¬ ((c2' - 1 : Nat) : Int) < 0 by omega), if_pos (show 0 ≤ ((c2' - 1 : Nat) : Int) by omega), if_pos (show ((c2' - 1 : Nat) : Int) < (x.length : Int) by omega)]; rfl
            by_cases c5 : idf x (c2' - 1) = 1584
            · rw [if_pos c5]
              have := runS x hx n d c2' (some (c1' - 1)) (by omega) (by omega)
              rw [e2] at this
              exact succ_ (ev_same this fun k => by rw [hj5, if_pos c5]; rfl)
            · rw [if_neg c5]
              exact succ_ (ev_same (Ev.now _) fun k => by rw [hj5, if_neg c5]; rfl)
        · rw [hj, if_neg (by decide), if_neg (fun h => c2 (.inl h)), decide_eq_false (fun h => c2 (.inr h)), spec_l10Start.j3, if_neg (by decide), w64 (by omega) (by omega)]
theorem startS (x : List Gl) (hx : x.length ≤ 1048576) (i : Nat) (hi : i < x.length) : Ev (fun k => spec_l10Start.f k x (i : Int)) (sI i (run (idf x) i i none)) :=
  ev_same (runS x hx i i i none (Nat.le_refl _) (by omega)) fun k => by
    unfold spec_l10Start.f
    rw [w64 (by omega) (by omega)]; rfl
/-! the program's search -/
def tI : Option Nat → Int
  | none => -1
  | some a => (a : Int)
theorem consI (p : Int) : impl_consonant.f p = some (decide (1536 ≤ p ∧ p ≤ 1567)) := by
  unfold impl_consonant.f impl_in.f
  by_cases c : p ≥ 1536
  · rw [if_pos c, Option.bind_some]
    congr 1
    simp; omega
  · rw [if_neg c, Option.bind_some]
    congr 1
    simp; omega
section
variable (x : List Gl) (hx : x.length ≤ 1048576) (i n m : Int) (r : List Gl)
theorem sk2I (t : Int) (hx : x.length ≤ 1048576) : ∀ c, c ≤ x.length → Ev (fun k => impl_glyphs.j5 k x i t (((sk2 (idf x) c : Nat) : Int) - 1) n m false) r → Ev (fun k => impl_glyphs.l3 k x i t ((c : Int) - 1) n m) r
  | 0, _, h => succ_ (ev_same h fun k => by rw [impl_glyphs.l3, if_neg (by omega)]; rfl)
  | c + 1, hc, h => by
    have e : ((c + 1 : Nat) : Int) - 1 = (c : Int) := by omega
    rw [e]
    by_cases c0 : idf x c = 1584 ∨ idf x c = 1585
    · unfold sk2 at h
      rw [if_pos c0] at h
      refine succ_ (succ_ (ev_same (sk2I t hx c (by omega) h) fun k => ?_))
      rw [impl_glyphs.l3, if_pos (by omega), if_pos (by omega), if_pos (by omega)]
      change (if idf x c = 1584 then impl_glyphs.j5 (k + 1) x i t (c : Int) n m true else impl_glyphs.j5 (k + 1) x i t (c : Int) n m (idf x c == 1585)) = _
      by_cases c1 : idf x c = 1584
      · rw [if_pos c1, impl_glyphs.j5, if_pos rfl, w64 (by omega) (by omega)]
      · rw [if_neg c1, show (idf x c == 1585) = true from by simpa using c0.resolve_left c1, impl_glyphs.j5, if_pos rfl, w64 (by omega) (by omega)]
    · unfold sk2 at h
      rw [if_neg c0, e] at h
      refine succ_ (ev_same h fun k => ?_)
      rw [impl_glyphs.l3, if_pos (by omega), if_pos (by omega), if_pos (by omega)]
      change (if idf x c = 1584 then impl_glyphs.j5 k x i t (c : Int) n m true else impl_glyphs.j5 k x i t (c : Int) n m (idf x c == 1585)) = _
      rw [if_neg (fun h => c0 (.inl h)), show (idf x c == 1585) = false from by simpa using fun h => c0 (.inr h)]
theorem sk1I (t : Int) (hx : x.length ≤ 1048576) : ∀ c, c ≤ x.length → Ev (fun k => impl_glyphs.j8 k x i t (((sk1 (idf x) c : Nat) : Int) - 1) n m) r → Ev (fun k => impl_glyphs.l4 k x i t ((c : Int) - 1) n m) r
  | 0, _, h => succ_ (ev_same h fun k => by rw [impl_glyphs.l4, if_neg (by omega)]; rfl)
  | c + 1, hc, h => by
    have e : ((c + 1 : Nat) : Int) - 1 = (c : Int) := by omega
    rw [e]
    by_cases c0 : idf x c = 1585
    · unfold sk1 at h
      rw [if_pos c0] at h
      refine succ_ (ev_same (sk1I t hx c (by omega) h) fun k => ?_)
      rw [impl_glyphs.l4, if_pos (by omega), if_pos (by omega), if_pos (by omega)]
      change (if idf x c = 1585 then _ else _) = _
      rw [if_pos c0, w64 (by omega) (by omega)]
    · unfold sk1 at h
      rw [if_neg c0, e] at h
      refine succ_ (ev_same h fun k => ?_)
      rw [impl_glyphs.l4, if_pos (by omega), if_pos (by omega), if_pos (by omega)]
      change (if idf x c = 1585 then _ else _) = _
      rw [if_neg c0]
theorem runI (hx : x.length ≤ 1048576) : ∀ d c st, c ≤ d → c ≤ x.length → Ev (fun k => impl_glyphs.j9 k x i (tI (run (idf x) d c st)) n m) r → Ev (fun k => impl_glyphs.l2 k x i (tI st) ((c : Int) - 1) n m) r
  | 0, c, st, hd, hc, h => by
    obtain rfl : c = 0 := by omega
    refine succ_ (ev_same (sk2I x i n m r (tI st) hx 0 (by omega) (succ_ (succ_ (ev_same h fun k => ?_)))) fun k => by rw [impl_glyphs.l2])
    rw [show sk2 (idf x) 0 = 0 from rfl, impl_glyphs.j5, if_neg (by decide), if_pos (by decide), impl_glyphs.j6, if_pos rfl]; rfl
  | d + 1, c, st, hd, hc, h => by
    refine succ_ (ev_same (sk2I x i n m r (tI st) hx c hc ?_) fun k => by rw [impl_glyphs.l2])
    have h1 := sk2_le (idf x) c
    have h2 := sk1_le (idf x) (sk2 (idf x) c - 1)
    unfold run at h
    by_cases c1 : sk2 (idf x) c = 0
    · rw [if_pos c1] at h
      rw [c1]
      refine succ_ (succ_ (ev_same h fun k => ?_))
      rw [impl_glyphs.j5, if_neg (by decide), if_pos (by decide), impl_glyphs.j6, if_pos rfl]
    · rw [if_neg c1] at h
      generalize sk2 (idf x) c = c1' at *
      have e : (c1' : Int) - 1 = ((c1' - 1 : Nat) : Int) := by omega
      rw [e]
      have hj : ∀ k, impl_glyphs.j5 (k + 1) x i (tI st) ((c1' - 1 : Nat) : Int) n m false = impl_glyphs.j6 k x i (tI st) ((c1' - 1 : Nat) : Int) n m (!decide (1536 ≤ idf x (c1' - 1) ∧ idf x (c1' - 1) ≤ 1567)) := fun k => by
        rw [impl_glyphs.j5, if_neg (by decide), if_neg (show ¬ ((c1' - 1 : Nat) : Int) < 0 by omega), if_pos (show 0 ≤ ((c1' - 1 : Nat) : Int) by omega), if_pos (show ((c1' - 1 : Nat) : Int) < (x.length : Int) by omega), consI, Option.bind_some]; rfl
      by_cases c2 : idf x (c1' - 1) < 1536 ∨ idf x (c1' - 1) > 1567
      · rw [if_pos c2] at h
        refine succ_ (succ_ (ev_same h fun k => ?_))
        rw [hj, decide_eq_false (by omega), impl_glyphs.j6, if_pos (by decide)]
      · rw [if_neg c2] at h
        refine succ_ (succ_ (ev_same (g' := fun k => impl_glyphs.l4 k x i ((c1' - 1 : Nat) : Int) (((c1' - 1 : Nat) : Int) - 1) n m) (sk1I x i n m r _ hx (c1' - 1) (by omega) ?_) fun k => ?_))
        · by_cases c4 : sk1 (idf x) (c1' - 1) = 0
          · rw [if_pos c4] at h
            rw [c4]
            exact succ_ (ev_same h fun k => by rw [impl_glyphs.j8, if_pos (by decide)]; rfl)
          · rw [if_neg c4] at h
            generalize sk1 (idf x) (c1' - 1) = c2' at *
            have e2 : (c2' : Int) - 1 = ((c2' - 1 : Nat) : Int) := by omega
            rw [e2]
            have hj8 : ∀ k, impl_glyphs.j8 (k + 1) x i ((c1' - 1 : Nat) : Int) ((c2' - 1 : Nat) : Int) n m = (if idf x (c2' - 1) = 1584 then impl_glyphs.l2 k x i ((c1' - 1 : Nat) : Int) ((c2' - 1 : Nat) : Int) n m else impl_glyphs.j9 k x i ((c1' - 1 : Nat) : Int) n m) := fun k => by
              rw [impl_glyphs.j8, if_neg (show ¬ ((c2' - 1 : Nat) : Int) < 0 by omega), if_pos (show 0 ≤ ((c2' - 1 : Nat) : Int) by omega), if_pos (show ((c2' - 1 : Nat) : Int) < (x.length : Int) by omega)]; rfl
            by_cases c5 : idf x (c2' - 1) = 1584
            · rw [if_pos c5] at h
              have := runI hx d c2' (some (c1' - 1)) (by omega) (by omega) h
              rw [e2] at this
              exact succ_ (ev_same this fun k => by rw [hj8, if_pos c5]; rfl)
            · rw [if_neg c5] at h
              exact succ_ (ev_same h fun k => by rw [hj8, if_neg c5]; rfl)
        · rw [hj, decide_eq_true (by omega), impl_glyphs.j6, if_neg (by decide), w64 (by omega) (by omega)]
end
/-! one vowel -/
def vow (p : Int) : Bool := decide (1568 ≤ p ∧ p ≤ 1579 ∧ p % 2 = 0)
/-- The glyph at place i goes where it is displayed. -/
def shI (x : List Gl) (i : Nat) : List Gl := if vow (idf x i) = true then (match run (idf x) i i none with | none => x | some a => (mvL x a i).set a (rd_T68 x (i : Int))) else x
theorem run_i {x : List Gl} {i a : Nat} (h : run (idf x) i i none = some a) : a < i := run_lt (idf x) i i i none (Nat.le_refl _) (fun _ e => by cases e) a h
theorem shI_len (x : List Gl) (i : Nat) (hi : i < x.length) : (shI x i).length = x.length := by
  unfold shI
  split
  · split
    · rfl
    · rename_i a e
      have := run_i e
      rw [List.length_set, mvL_length x a i (by omega) hi]
  · rfl
theorem idf_app (x y : List Gl) (j : Nat) (h : j < x.length) : idf (x ++ y) j = idf x j := by
  unfold idf
  rw [rdG_nat x j h, rdG_nat _ j (by rw [List.length_append]; omega), List.getElem_append_left h]
theorem mvL_app {α : Type} (x y : List α) (a b : Nat) (hab : a ≤ b) (hb : b < x.length) : mvL (x ++ y) a b = mvL x a b ++ y := by
  apply List.ext_getElem?
  intro m
  rw [mvL_get _ a b m hab (by rw [List.length_append]; omega)]
  by_cases hm : m < x.length
  · rw [List.getElem?_append_left (l₁ := mvL x a b) (by rw [mvL_length x a b hab hb]; exact hm), mvL_get x a b m hab hb]
    split
    · rw [List.getElem?_append_left (by omega)]
    · rw [List.getElem?_append_left hm]
  · rw [if_neg (by omega), List.getElem?_append_right (l₁ := x) (by omega), List.getElem?_append_right (l₁ := mvL x a b) (by rw [mvL_length x a b hab hb]; omega), mvL_length x a b hab hb]
theorem shI_app (x y : List Gl) (i : Nat) (hi : i < x.length) : shI (x ++ y) i = shI x i ++ y := by
  have hr : run (idf (x ++ y)) i i none = run (idf x) i i none := run_loc _ _ _ _ _ fun j hj => idf_app x y j (by omega)
  unfold shI
  rw [idf_app x y i hi, hr]
  split
  · split
    · rfl
    · rename_i a e
      have := run_i e
      rw [mvL_app x y a i (by omega) hi, rdG_nat x i hi, rdG_nat _ i (by rw [List.length_append]; omega), List.getElem_append_left hi, List.set_append_left _ _ (by rw [mvL_length x a i (by omega) hi]; omega)]
  · rfl
theorem tmod2 (p : Int) (h : 0 ≤ p) : Int.tmod p 2 = p % 2 := Int.tmod_eq_emod_of_nonneg h
theorem stepI (x : List Gl) (hx : x.length ≤ 1048576) (i : Nat) (hi : i < x.length) (r : List Gl) (h : Ev (fun k => impl_glyphs.l1 k (shI x i) (x.length : Int) ((i + 1 : Nat) : Int)) r) : Ev (fun k => impl_glyphs.l1 k x (x.length : Int) (i : Int)) r := by
  have hn := w64s (n := i) (m := x.length) hi (by omega)
  have hl1 : ∀ k, impl_glyphs.l1 (k + 1) x (x.length : Int) (i : Int) = impl_glyphs.j2 k x (i : Int) (x.length : Int) (i : Int) (!vow (idf x i)) := fun k => by
    rw [impl_glyphs.l1, if_pos (by omega), if_pos (by omega), if_pos (by omega)]
    change ((impl_in.f (idf x i) 1568 1579).bind fun t => if t = true then impl_glyphs.j2 k x (i : Int) (x.length : Int) (i : Int) (Int.tmod (idf x i) 2 == 1) else impl_glyphs.j2 k x (i : Int) (x.length : Int) (i : Int) true) = _
    unfold impl_in.f vow
    generalize idf x i = p
    by_cases c1 : p ≥ 1568
    · rw [if_pos c1, Option.bind_some]
      by_cases c2 : p ≤ 1579
      · rw [decide_eq_true c2, if_pos rfl, tmod2 p (by omega)]
        congr 1
        by_cases c3 : p % 2 = 0
        · rw [decide_eq_true (by omega), c3]; rfl
        · rw [decide_eq_false (by omega), show p % 2 = 1 by omega]; rfl
      · rw [decide_eq_false c2, if_neg (by decide), decide_eq_false (by omega)]; rfl
    · rw [if_neg c1, Option.bind_some, if_neg (by decide), decide_eq_false (by omega)]; rfl
  unfold shI at h
  cases hv : vow (idf x i)
  · rw [hv, if_neg (by decide)] at h
    refine succ_ (succ_ (ev_same h fun k => ?_))
    rw [hl1, hv, impl_glyphs.j2, if_pos (by decide), hn]
  · rw [hv, if_pos rfl] at h
    refine succ_ (succ_ (ev_same (g' := fun k => impl_glyphs.l2 k x (i : Int) (tI none) ((i : Int) - 1) (x.length : Int) (i : Int)) (runI x (i : Int) (x.length : Int) (i : Int) r hx i i none (Nat.le_refl _) (by omega) ?_) fun k => ?_))
    · cases hr : run (idf x) i i none with
      | none =>
        rw [hr] at h
        refine succ_ (ev_same h fun k => ?_)
        rw [impl_glyphs.j9, if_neg (by decide), hn]
      | some a =>
        have ha := run_i hr
        rw [hr] at h
        refine succ_ (ev_same h fun k => ?_)
        show impl_glyphs.j9 (k + 1) x (i : Int) (a : Int) (x.length : Int) (i : Int) = _
        have e1 : wrap64 ((a : Int) + 1) = (a : Int) + 1 := w64 (by omega) (by omega)
        have e2 : wrap64 ((i : Int) + 1) = (i : Int) + 1 := w64 (by omega) (by omega)
        rw [impl_glyphs.j9, e1, e2, if_pos (by omega), if_pos (by omega), if_pos (by omega), if_pos (by omega), if_pos (by omega), if_pos (by omega), if_pos (by omega), if_pos (by omega), if_pos (by omega), if_pos (by omega), Int.toNat_natCast, Int.toNat_natCast]; rfl
    · rw [hl1, hv, impl_glyphs.j2, if_neg (by decide), w64 (by omega) (by omega)]; rfl
/-- The rest of the program's second loop. -/
def iterI : Nat → Nat → List Gl → List Gl
  | 0, _, x => x
  | d + 1, i, x => iterI d (i + 1) (shI x i)
theorem loopI : ∀ (d i : Nat) (x : List Gl), x.length ≤ 1048576 → i + d = x.length → Ev (fun k => impl_glyphs.l1 k x (x.length : Int) (i : Int)) (iterI d i x)
  | 0, i, x, hx, h => succ_ (ev_same (Ev.now _) fun k => by rw [impl_glyphs.l1, if_neg (by omega)]; rfl)
  | d + 1, i, x, hx, h => by
    have hl := shI_len x i (by omega)
    have ih := loopI d (i + 1) (shI x i) (by omega) (by omega)
    rw [hl] at ih
    exact stepI x hx i (by omega) _ ih
/-! the reference's step -/
theorem mv_step {α : Type} (x : List α) (a i : Nat) (ha : a + 1 ≤ i) (hi : i < x.length) (v : α) (hv : x[a]? = some v) : (mvL x (a + 1) i).set (a + 1) v = mvL x a i := by
  apply List.ext_getElem?
  intro m
  rw [mvL_get x a i m (by omega) hi, List.getElem?_set, mvL_length x (a + 1) i ha hi]
  by_cases hm : a + 1 = m
  · rw [if_pos hm, if_pos (by omega), if_pos (by omega), ← hv]
    congr 1; omega
  · rw [if_neg hm, mvL_get x (a + 1) i m ha hi]
    by_cases h2 : a < m ∧ m ≤ i
    · rw [if_pos (by omega), if_pos h2]
    · rw [if_neg (by omega), if_neg h2]
theorem shiftS (x : List Gl) (hx : x.length ≤ 1048576) (i : Nat) (hi : i < x.length) (g : Gl) (x4 x5 L fr : List Int) (x7 : Int) (a : Nat) (ha : a ≤ i) (r : List Gl) : ∀ e, a + e ≤ i →
    Ev (fun k => spec_l10Glyphs.l0 k x4 x5 ((mvL x a i).set a g) x7 ((i + 1 : Nat) : Int) L fr) r → Ev (fun k => spec_l10Glyphs.l2 k x4 x5 (mvL x (a + e) i) x7 (i : Int) (a : Int) ((a + e : Nat) : Int) L fr g.f0 g.f1 g.f2 g.f3 g.f4) r
  | 0, he, h => by
    have hl := mvL_length x a i ha hi
    refine succ_ (ev_same h fun k => ?_)
    show spec_l10Glyphs.l2 (k + 1) x4 x5 (mvL x a i) x7 (i : Int) (a : Int) (a : Int) L fr g.f0 g.f1 g.f2 g.f3 g.f4 = _
    rw [spec_l10Glyphs.l2, if_neg (by omega), if_pos (by omega), if_pos (by omega), w64s (n := i) (m := x.length) hi (by omega), Int.toNat_natCast]
  | e + 1, he, h => by
    have hl := mvL_length x (a + (e + 1)) i he hi
    refine succ_ (ev_same (shiftS x hx i hi g x4 x5 L fr x7 a ha r e (by omega) h) fun k => ?_)
    have e1 : wrap64 (((a + (e + 1) : Nat) : Int) - 1) = ((a + e : Nat) : Int) := (w64 (by omega) (by omega)).trans (by omega)
    rw [spec_l10Glyphs.l2, e1, if_pos (by omega), if_pos (by omega), if_pos (by omega), if_pos (by omega), if_pos (by omega), Int.toNat_natCast]
    congr 1
    refine mv_step x (a + e) i (by omega) hi _ ?_
    rw [rdG_nat _ (a + e) (by omega)]
    have := mvL_get x (a + (e + 1)) i (a + e) he hi
    rw [if_neg (by omega), List.getElem?_eq_getElem (show a + e < (mvL x (a + (e + 1)) i).length by omega)] at this
    exact this.symm
theorem vowS (T : List Gl) (hx : T.length ≤ 1048576) (i : Nat) (hi : i < T.length) (x4 x5 L fr : List Int) (x7 : Int) (r : List Gl) (h : Ev (fun k => spec_l10Glyphs.l0 k x4 x5 (shI T i) x7 ((i + 1 : Nat) : Int) L fr) r) :
    Ev (fun k => spec_l10Glyphs.j3 k x4 x5 T x7 (i : Int) (!vow (idf T i)) L fr (T[i]).f0 (T[i]).f1 (T[i]).f2 (T[i]).f3 (T[i]).f4) r := by
  unfold shI at h
  cases hv : vow (idf T i)
  · rw [hv, if_neg (by decide)] at h
    refine succ_ (ev_same h fun k => ?_)
    rw [spec_l10Glyphs.j3, if_pos (by decide), w64s (n := i) (m := T.length) hi (by omega)]
  · rw [hv, if_pos rfl] at h
    refine succ_ (ev_same (g' := fun k => (spec_l10Start.f k T (i : Int)).bind fun t => spec_l10Glyphs.l2 k x4 x5 T x7 (i : Int) t (i : Int) L fr (T[i]).f0 (T[i]).f1 (T[i]).f2 (T[i]).f3 (T[i]).f4) ?_ fun k => by rw [spec_l10Glyphs.j3, if_neg (by decide)])
    refine Ev.bind (g := fun k => spec_l10Start.f k T (i : Int)) (f := fun k t => spec_l10Glyphs.l2 k x4 x5 T x7 (i : Int) t (i : Int) L fr (T[i]).f0 (T[i]).f1 (T[i]).f2 (T[i]).f3 (T[i]).f4) (startS T hx i hi) ?_
    have h0 : mvL T i i = T := mvL_none T i i (Nat.le_refl _) rfl
    cases hr : run (idf T) i i none with
    | none =>
      rw [hr] at h
      have := shiftS T hx i hi T[i] x4 x5 L fr x7 i (Nat.le_refl _) r 0 (by omega) (by rw [h0, List.set_getElem_self]; exact h)
      rw [show i + 0 = i from rfl, h0] at this
      exact this
    | some a =>
      have ha := run_i hr
      rw [hr] at h
      have := shiftS T hx i hi T[i] x4 x5 L fr x7 a (by omega) r (i - a) (by omega) (by rw [← rdG_nat T i hi]; exact h)
      rw [show a + (i - a) = i by omega, h0] at this
      exact this
/-! the rows so far -/
def pv (L fr : List Int) : Nat → Int
  | 0 => 0
  | i + 1 => if i = 0 then 0 else if cutAt L i = true then at0 fr i else pv L fr i
/-- The cluster of point i. -/
def cl (L fr : List Int) (i : Nat) : Int := pv L fr (i + 1)
theorem cl_eq (L fr : List Int) (i : Nat) : cl L fr i = if i = 0 then 0 else if cutAt L i = true then at0 fr i else pv L fr i := rfl
def gl (L F fr : List Int) (i : Nat) : Gl := ⟨at0 L i, at0 F i, cl L fr i, 0, 0⟩
def allG (L F fr : List Int) (n : Nat) : List Gl := (List.range n).map (gl L F fr)
theorem allG_len (L F fr : List Int) (n : Nat) : (allG L F fr n).length = n := by simp [allG]
theorem allG_succ (L F fr : List Int) (n : Nat) : allG L F fr (n + 1) = allG L F fr n ++ [gl L F fr n] := by unfold allG; rw [List.range_succ, List.map_append]; rfl
/-- The reference's rows. -/
def rowS (L F fr : List Int) : Nat → List Gl
  | 0 => []
  | i + 1 => shI (rowS L F fr i ++ [gl L F fr i]) i
theorem rowS_len (L F fr : List Int) : ∀ i, (rowS L F fr i).length = i
  | 0 => rfl
  | i + 1 => by
    have ih := rowS_len L F fr i
    unfold rowS
    rw [shI_len _ i (by rw [List.length_append, List.length_singleton]; omega), List.length_append, List.length_singleton, ih]
theorem allG_drop (L F fr : List Int) (n i : Nat) (h : i < n) : (allG L F fr n).drop i = gl L F fr i :: (allG L F fr n).drop (i + 1) := by
  rw [List.drop_eq_getElem_cons (by rw [allG_len]; exact h)]
  congr 1
  simp [allG]
theorem iter_row (L F fr : List Int) (n : Nat) : ∀ d i, i + d = n → iterI d i (rowS L F fr i ++ (allG L F fr n).drop i) = rowS L F fr n
  | 0, i, h => by
    obtain rfl : i = n := by omega
    rw [iterI, List.drop_of_length_le (by rw [allG_len]; omega), List.append_nil]
  | d + 1, i, h => by
    rw [iterI, allG_drop L F fr n i (by omega), show rowS L F fr i ++ gl L F fr i :: (allG L F fr n).drop (i + 1) = (rowS L F fr i ++ [gl L F fr i]) ++ (allG L F fr n).drop (i + 1) by simp, shI_app _ _ i (by rw [List.length_append, rowS_len, List.length_singleton]; omega)]
    exact iter_row L F fr n d (i + 1) (by omega)
/-! the program's first loop -/
theorem rowB_rd (L : List Int) (i : Nat) (hi : i < L.length) : rdOf false (rowB L L.length) (i : Int) = (decide (0 < i) && cutAt L i) := by
  unfold rdOf
  rw [Int.toNat_natCast, List.getD_eq_getElem?_getD, List.getElem?_eq_getElem (by rw [rowB_len]; exact hi)]
  simp [rowB, hi]
theorem firstI (L F fr : List Int) (A : List S74) (hA : A.map (fun a => a.f1) = fr) (hfr : fr.length = L.length) (hF : F.length = L.length) (hl : L.length ≤ 1048576) (r : List Gl) (h : Ev (fun k => impl_glyphs.l1 k (allG L F fr L.length) (L.length : Int) 0) r) : ∀ d i, i + d = L.length →
    Ev (fun k => impl_glyphs.l0 k A F (rowB L L.length) (allG L F fr i) (pv L fr i) L (L.length : Int) (i : Int)) r
  | 0, i, hi => by
    obtain rfl : i = L.length := by omega
    refine succ_ (ev_same h fun k => ?_)
    rw [impl_glyphs.l0, if_neg (by omega), allG_len]
  | d + 1, i, hi => by
    have hlt : i < L.length := by omega
    have hAl : A.length = L.length := by rw [← hfr, ← hA, List.length_map]
    have hf : (A[i]'(by omega)).f1 = at0 fr i := by
      rw [at0_eq fr i (by omega)]
      simp [← hA]
    have ih := firstI L F fr A hA hfr hF hl r h d (i + 1) (by omega)
    refine succ_ (ev_same ih fun k => ?_)
    have hg := allG_len L F fr i
    have hz : pv L fr (i + 1) = cl L fr i := rfl
    rw [impl_glyphs.l0, if_pos (by omega), if_pos (by omega), if_pos (by omega), if_pos (by rw [rowB_len]; omega), rowB_rd L i hlt, w64s hlt (by omega), rd_at0 L i hlt, rd_at0 F i (by omega), allG_succ, rdA_nat A i (by omega), hf, hz]
    unfold gl
    rw [cl_eq]
    by_cases c0 : i = 0
    · subst c0
      rw [if_neg (by simp), if_pos (by omega), if_pos (by omega), if_pos rfl]
      rfl
    · rw [decide_eq_true (by omega), Bool.true_and, if_neg c0]
      by_cases c : cutAt L i = true
      · rw [if_pos c, if_pos (by omega), if_pos (by omega), if_pos (by omega), if_pos c]
      · rw [if_neg c, if_pos (by omega), if_pos (by omega), if_neg c]
/-! the reference's loop -/
theorem froms_up (s : ByteArray) : ∀ (d i : Nat), ((atsFrom s d i).map (fun a => (a.a : Int))).Pairwise (· < ·) ∧ ∀ x ∈ (atsFrom s d i).map (fun a => (a.a : Int)), (i : Int) ≤ x ∧ x < (s.size : Int)
  | 0, i => by simp [atsFrom]
  | d + 1, i => by
    unfold atsFrom
    by_cases hi : i < s.size
    · have w := dec_width s i hi
      obtain ⟨h1, h2⟩ := froms_up s d (i + (dec s i).2)
      rw [if_pos hi, List.map_cons]
      refine ⟨List.pairwise_cons.2 ⟨fun y hy => ?_, h1⟩, fun x hx => ?_⟩
      · have := h2 y hy
        simp only [atOf]
        omega
      · rcases List.mem_cons.1 hx with rfl | hx
        · simp only [atOf]; omega
        · have := h2 x hx
          omega
    · rw [if_neg hi]; simp
theorem plc_from (L fr : List Int) (N : Int) (hu : fr.Pairwise (· < ·)) (hN : ∀ x ∈ fr, x < N) (j : Nat) (hj : j < fr.length) : ∀ d i, j < i → i + d = fr.length → ∀ x ∈ plc L fr d i ++ [N], at0 fr j < x
  | 0, i, hji, hd, x, hx => by
    rw [plc, List.nil_append, List.mem_singleton] at hx
    rw [hx, at0_eq fr j hj]
    exact hN _ (List.getElem_mem hj)
  | d + 1, i, hji, hd, x, hx => by
    have ih := plc_from L fr N hu hN j hj d (i + 1) (by omega) (by omega) x
    unfold plc at hx
    rw [List.append_assoc] at hx
    rcases List.mem_append.1 hx with hx | hx
    · split at hx
      · rw [List.mem_singleton] at hx
        rw [hx, at0_eq fr j hj, at0_eq fr i (by omega)]
        exact (List.pairwise_iff_getElem.1 hu) j i hj (by omega) hji
      · cases hx
    · exact ih hx
section
variable (L F fr : List Int) (N : Int) (hu : fr.Pairwise (· < ·)) (hN : ∀ x ∈ fr, x < N) (hfr : fr.length = L.length) (hF : F.length = L.length) (hl : L.length ≤ 1048576) (h00 : L.length ≠ 0 → at0 fr 0 = 0)
theorem cutsS (hu : fr.Pairwise (· < ·)) (hN : ∀ x ∈ fr, x < N) (hfr : fr.length = L.length) (h00 : L.length ≠ 0 → at0 fr 0 = 0) (X : List Gl) (r : List Gl) (d i : Nat) (hi : i + (d + 1) = L.length)
    (h : Ev (fun k => spec_l10Glyphs.j2 k F (plc L fr d (i + 1) ++ [N]) X (cl L fr i) (i : Int) L (fr ++ [N])) r) : Ev (fun k => spec_l10Glyphs.l1 k F (plc L fr (d + 1) i ++ [N]) X (pv L fr i) (i : Int) L (fr ++ [N])) r := by
  have hrd : rd (fr ++ [N]) (i : Int) = at0 fr i := by rw [rd_nat _ i (by simp; omega), List.getElem_append_left (by omega), at0_eq fr i (by omega)]
  have hlen : (i : Int) < ((fr ++ [N]).length : Int) := by simp; omega
  have hgt := plc_from L fr N hu hN i (by omega) d (i + 1) (by omega) (by omega)
  have hstop : Ev (fun k => spec_l10Glyphs.l1 k F (plc L fr d (i + 1) ++ [N]) X (cl L fr i) (i : Int) L (fr ++ [N])) r := by
    refine succ_ (ev_same h fun k => ?_)
    have hp : 0 < (plc L fr d (i + 1) ++ [N]).length := by simp
    have h0 : at0 fr i < rd (plc L fr d (i + 1) ++ [N]) 0 := by
      have := rd_nat (plc L fr d (i + 1) ++ [N]) 0 hp
      rw [show ((0 : Nat) : Int) = 0 from rfl] at this
      rw [this]
      exact hgt _ (List.getElem_mem hp)
    rw [spec_l10Glyphs.l1, if_pos (by omega), if_pos (by omega), if_pos (by omega), if_pos hlen, hrd, if_neg (by omega)]
  unfold plc
  by_cases c : i = 0 ∨ cutAt L i = true
  · rw [if_pos c]
    refine succ_ (ev_same hstop fun k => ?_)
    have e : cl L fr i = at0 fr i := by
      rw [cl_eq]
      by_cases c0 : i = 0
      · rw [if_pos c0, c0, h00 (by omega)]
      · rw [if_neg c0, if_pos (c.resolve_left c0)]
    have e0 : rd ([at0 fr i] ++ plc L fr d (i + 1) ++ [N]) 0 = at0 fr i := rfl
    rw [spec_l10Glyphs.l1, if_pos (by simp; omega), if_pos (by simp; omega), if_pos (by omega), if_pos hlen, hrd, e0, if_pos (by omega), if_pos (by simp; omega), e]
    rfl
  · have e : pv L fr i = cl L fr i := by rw [cl_eq, if_neg (fun h => c (.inl h)), if_neg (fun h => c (.inr h))]
    rw [if_neg c, List.nil_append, e]
    exact hstop
theorem loopS (hu : fr.Pairwise (· < ·)) (hN : ∀ x ∈ fr, x < N) (hfr : fr.length = L.length) (hF : F.length = L.length) (hl : L.length ≤ 1048576) (h00 : L.length ≠ 0 → at0 fr 0 = 0) : ∀ d i, i + d = L.length →
    Ev (fun k => spec_l10Glyphs.l0 k F (plc L fr d i ++ [N]) (rowS L F fr i) (pv L fr i) (i : Int) L (fr ++ [N])) (rowS L F fr L.length)
  | 0, i, hi => by
    obtain rfl : i = L.length := by omega
    exact succ_ (ev_same (Ev.now _) fun k => by rw [spec_l10Glyphs.l0, if_neg (by omega)])
  | d + 1, i, hi => by
    have hlt : i < L.length := by omega
    have ih := loopS hu hN hfr hF hl h00 d (i + 1) (by omega)
    have hrl := rowS_len L F fr i
    refine succ_ (ev_same (g' := fun k => spec_l10Glyphs.l1 k F (plc L fr (d + 1) i ++ [N]) (rowS L F fr i) (pv L fr i) (i : Int) L (fr ++ [N])) (cutsS L F fr N hu hN hfr h00 _ _ d i hi ?_) fun k => by rw [spec_l10Glyphs.l0, if_pos (by omega)])
    have hTl : (rowS L F fr i ++ [gl L F fr i]).length = i + 1 := by rw [List.length_append, List.length_singleton, hrl]
    have hTi : (rowS L F fr i ++ [gl L F fr i])[i]'(by omega) = gl L F fr i := by
      rw [List.getElem_append_right (by omega)]; simp [hrl]
    have hid : idf (rowS L F fr i ++ [gl L F fr i]) i = at0 L i := by
      unfold idf
      rw [rdG_nat _ i (by omega), hTi]; rfl
    have hv := vowS (rowS L F fr i ++ [gl L F fr i]) (by omega) i (by omega) F (plc L fr d (i + 1) ++ [N]) L (fr ++ [N]) (cl L fr i) (rowS L F fr L.length) ih
    rw [hTi, hid] at hv
    refine succ_ (ev_same hv fun k => ?_)
    rw [spec_l10Glyphs.j2, if_pos (by omega), if_pos (by omega), if_pos (by omega), if_pos (by omega), rd_at0 L i hlt, rd_at0 F i (by omega), Option.bind_some]
    change (if at0 L i < 1568 then spec_l10Glyphs.j3 k F (plc L fr d (i + 1) ++ [N]) (rowS L F fr i ++ [gl L F fr i]) (cl L fr i) (i : Int) true L (fr ++ [N]) (gl L F fr i).f0 (gl L F fr i).f1 (gl L F fr i).f2 (gl L F fr i).f3 (gl L F fr i).f4
      else if at0 L i > 1579 then spec_l10Glyphs.j3 k F (plc L fr d (i + 1) ++ [N]) (rowS L F fr i ++ [gl L F fr i]) (cl L fr i) (i : Int) true L (fr ++ [N]) (gl L F fr i).f0 (gl L F fr i).f1 (gl L F fr i).f2 (gl L F fr i).f3 (gl L F fr i).f4
      else spec_l10Glyphs.j3 k F (plc L fr d (i + 1) ++ [N]) (rowS L F fr i ++ [gl L F fr i]) (cl L fr i) (i : Int) (Int.tmod (at0 L i) 2 != 0) L (fr ++ [N]) (gl L F fr i).f0 (gl L F fr i).f1 (gl L F fr i).f2 (gl L F fr i).f3 (gl L F fr i).f4) = _
    unfold vow
    by_cases c1 : at0 L i < 1568
    · rw [if_pos c1, decide_eq_false (by omega)]; rfl
    · rw [if_neg c1]
      by_cases c2 : at0 L i > 1579
      · rw [if_pos c2, decide_eq_false (by omega)]; rfl
      · rw [if_neg c2, tmod2 _ (by omega)]
        congr 1
        by_cases c3 : at0 L i % 2 = 0
        · rw [decide_eq_true (by omega), c3]; rfl
        · rw [decide_eq_false (by omega), show at0 L i % 2 = 1 by omega]; rfl
end
/-- The glyphs of a text. -/
def glyphsP (s : ByteArray) : List Gl := rowS (pts s) (formsF (pts s)) (froms s) (pts s).length
theorem glyphsP_len (s : ByteArray) : (glyphsP s).length = (pts s).length := rowS_len _ _ _ _
theorem froms_z (s : ByteArray) (h : (pts s).length ≠ 0) : at0 (froms s) 0 = 0 := by
  have h2 := pts_len s
  unfold froms ats
  obtain ⟨d, hd⟩ : ∃ d, s.size = d + 1 := ⟨s.size - 1, by omega⟩
  rw [hd, atsFrom, if_pos (by omega)]
  rfl
theorem glyphs_spec (s : ByteArray) (hs : s.size ≤ 1048576) : Ev (fun k => spec_l10Glyphs.f k s) (glyphsP s) := by
  have h2 := pts_len s
  obtain ⟨hu, hb⟩ := froms_up s s.size 0
  have key : Ev (fun k => spec_l10Glyphs.l0 k (formsF (pts s)) (charP s) [] 0 0 (pts s) (froms s ++ [(s.size : Int)])) (glyphsP s) := by
    by_cases c : (s.size : Int) > 0
    · have := loopS (pts s) (formsF (pts s)) (froms s) (s.size : Int) hu (fun x hx => (hb x hx).2) (froms_len s) (formsF_len _) (by omega) (froms_z s) (pts s).length 0 (by omega)
      unfold charP
      rw [if_pos c]
      exact this
    · have hz : (pts s).length = 0 := by omega
      have hn : pts s = [] := List.eq_nil_of_length_eq_zero hz
      refine succ_ (ev_same (Ev.now _) fun k => ?_)
      unfold glyphsP
      rw [hn, spec_l10Glyphs.l0, if_neg (by simp)]; rfl
  refine ev_from (2 * s.size + 3000) (fun k hk => ?_) key
  unfold spec_l10Glyphs.f
  rw [row_eq s k (by omega) hs, Option.bind_some, forms_spec (pts s) (by omega) (pts_pt s) k (by omega), Option.bind_some, specChars_eq s hs k (by omega), Option.bind_some]
theorem glyphs_impl (s : ByteArray) (hs : s.size ≤ 1048576) : Ev (fun k => impl_glyphs.f k s) (glyphsP s) := by
  have h2 := pts_len s
  have hA : ((ats s).map asAt).map (fun a => a.f1) = froms s := by simp [froms, asAt]
  have hg := allG_len (pts s) (formsF (pts s)) (froms s) (pts s).length
  have h1 := loopI (pts s).length 0 (allG (pts s) (formsF (pts s)) (froms s) (pts s).length) (by omega) (by omega)
  have h3 := iter_row (pts s) (formsF (pts s)) (froms s) (pts s).length (pts s).length 0 (by omega)
  rw [rowS, List.nil_append, List.drop_zero] at h3
  rw [h3, hg] at h1
  have key := firstI (pts s) (formsF (pts s)) (froms s) ((ats s).map asAt) hA (froms_len s) (formsF_len _) (by omega) _ h1 (pts s).length 0 (by omega)
  refine ev_from (2 * s.size + 3000) (fun k hk => ?_) key
  unfold impl_glyphs.f
  rw [read_eq s k (by omega) hs, Option.bind_some, only_eq s k (by omega) hs, Option.bind_some, forms_impl (pts s) (by omega) (pts_pt s) k (by omega), Option.bind_some, cuts_eq (pts s) (by omega) (pts_ok s) k (by omega), Option.bind_some]
  rfl
end Go.Proofs.YtmlhnpggjkoinaaDoor.PFnExactGlyphsOf

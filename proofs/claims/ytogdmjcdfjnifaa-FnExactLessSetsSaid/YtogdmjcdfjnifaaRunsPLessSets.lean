/- Values as spans: what the reference's l04Spans comes to. -/
import Derived.Test.YtogdmjcdfjnifaaPFnExactLessSetsx
import Derived.Test.YtogdmjcdfjnifaaLib
import Derived.Test.YtogdmjcdfjnifaaEvKit
set_option linter.unusedSimpArgs false
set_option linter.unusedVariables false
namespace Go.Proofs.Ytogdmjcdfjnifaa.PFnExactLessSets
open Go.RowKit Go.Proofs.YtogdmjcdfjnifaaW.PrintWords Go.Proofs.YtogdmjcdfjnifaaW.PrintLast Go.Proofs.YtogdmjcdfjnifaaW.PrintMore Go.Proofs.Ytogdmjcdfjnifaa.Lib Go.Proofs.Ytogdmjcdfjnifaa.EvKit

abbrev Sp := S57
abbrev rdP (l : List Sp) (i : Int) : Sp := rd_T57 l i
/-- One value more, at p. -/
def stepR (out : List Sp) (p v : Int) : List Sp :=
  if (out.length : Int) > 0 then (if (rdP out ((out.length : Int) - 1)).f2 = v then out.set ((out.length : Int) - 1).toNat ⟨(rdP out ((out.length : Int) - 1)).f0, p, (rdP out ((out.length : Int) - 1)).f2⟩ else out ++ [⟨p, p, v⟩]) else out ++ [⟨p, p, v⟩]
def foldR : List Int → Int → List Sp → List Sp
  | [], _, out => out
  | v :: vs, p, out => foldR vs (p + 1) (stepR out p v)
theorem stepR_len (out : List Sp) (p v : Int) : (stepR out p v).length ≤ out.length + 1 := by
  unfold stepR
  split
  · split
    · rw [List.length_set]; omega
    · simp
  · simp
theorem foldR_len : ∀ (vs : List Int) (p : Int) (out : List Sp), (foldR vs p out).length ≤ out.length + vs.length
  | [], p, out => by simp [foldR]
  | v :: vs, p, out => by
    have h1 := foldR_len vs (p + 1) (stepR out p v)
    have h2 := stepR_len out p v
    rw [foldR, List.length_cons]
    omega
/-- One round of such a loop, as both texts write it. -/
theorem step_round (f : Nat → List Sp → Int → Option (List Sp)) (out : List Sp) (n : Nat) (v : Int) (ho : out.length ≤ n) (hn : n ≤ 1000000) (r : List Sp) (h : Ev (fun k => f k (stepR out (n : Int) v) ((n + 1 : Nat) : Int)) r) :
    Ev (fun k => if (out.length : Int) > 0 then (if 0 ≤ (wrap64 ((out.length : Int) - 1)) then (if (wrap64 ((out.length : Int) - 1)) < (out.length : Int) then (if ((rdP out (wrap64 ((out.length : Int) - 1))).f2) = v then (f k (out.set ((wrap64 ((out.length : Int) - 1)) : Int).toNat (⟨(rdP out (wrap64 ((out.length : Int) - 1))).f0, (n : Int), (rdP out (wrap64 ((out.length : Int) - 1))).f2⟩ : Sp)) (wrap64 ((n : Int) + 1))) else (if out.length < 5864062014805 then (f k (out ++ [(⟨(n : Int), (n : Int), v⟩ : Sp)]) (wrap64 ((n : Int) + 1))) else (none))) else (none)) else (none)) else (if out.length < 5864062014805 then (f k (out ++ [(⟨(n : Int), (n : Int), v⟩ : Sp)]) (wrap64 ((n : Int) + 1))) else (none))) r := by
  have hw : wrap64 ((n : Int) + 1) = ((n + 1 : Nat) : Int) := by rw [w64 (by omega) (by omega)]; omega
  simp only [hw, if_pos (show out.length < 5864062014805 by omega)]
  by_cases c : (out.length : Int) > 0
  · have hl : wrap64 ((out.length : Int) - 1) = (out.length : Int) - 1 := by rw [w64 (by omega) (by omega)]
    simp only [if_pos c, hl, if_pos (show (0 : Int) ≤ (out.length : Int) - 1 by omega), if_pos (show (out.length : Int) - 1 < (out.length : Int) by omega)]
    by_cases e : (rdP out ((out.length : Int) - 1)).f2 = v
    · simp only [if_pos e]
      unfold stepR at h
      simp only [if_pos c, if_pos e] at h
      exact h
    · simp only [if_neg e]
      unfold stepR at h
      simp only [if_pos c, if_neg e] at h
      exact h
  · simp only [if_neg c]
    unfold stepR at h
    simp only [if_neg c] at h
    exact h
theorem spans_ev (v : List Int) (hv : v.length ≤ 1000000) : ∀ (d n : Nat) (out : List Sp), n + d = v.length → out.length ≤ n → Ev (fun k => spec_l04Spans.l0 k v out (n : Int)) (foldR (v.drop n) (n : Int) out) := by
  intro d
  induction d with
  | zero =>
    intro n out hn ho
    rw [List.drop_eq_nil_of_le (by omega), foldR]
    refine succ_ ?_
    simp only [spec_l04Spans.l0, if_neg (show ¬ (n : Int) < (v.length : Int) by omega)]
    exact Ev.now _
  | succ d ih =>
    intro n out hn ho
    have hlt : n < v.length := by omega
    rw [List.drop_eq_getElem_cons hlt, foldR]
    refine succ_ ?_
    simp only [spec_l04Spans.l0, if_pos (show (n : Int) < (v.length : Int) by omega), if_pos (show (0 : Int) ≤ (n : Int) by omega), rd_nat v n hlt]
    refine step_round (fun k o p => spec_l04Spans.l0 k v o p) out n v[n] ho (by omega) _ ?_
    have h := stepR_len out (n : Int) v[n]
    have := ih (n + 1) (stepR out (n : Int) v[n]) (by omega) (by omega)
    rw [show ((n + 1 : Nat) : Int) = (n : Int) + 1 by omega] at this ⊢
    exact this
theorem spans_all (v : List Int) (hv : v.length ≤ 1000000) : Ev (fun k => spec_l04Spans.f k v) (foldR v 0 []) := by
  have := spans_ev v hv v.length 0 [] (by omega) (by simp)
  simpa [spec_l04Spans.f] using this
end Go.Proofs.Ytogdmjcdfjnifaa.PFnExactLessSets

/- The program's QuickCheck returns what the reference's returns. For every input: the law answers true; each argument reads afterwards as it read before. -/
import Derived.Test.YtnbedmihgnjdpaaDoorNormTQuickCheck
set_option linter.unusedSimpArgs false
set_option linter.unusedVariables false
namespace Go.Proofs.YtnbedmihgnjdpaaDoor.Pure
open Go.RowKit Go.Proofs.YtnbedmihgnjdpaaDoor.PFnExactQuickCheck Go.Proofs.YtnbedmihgnjdpaaDoorW.PrintWords Go.Proofs.YtnbedmihgnjdpaaDoorW.PrintLast Go.Proofs.YtnbedmihgnjdpaaDoorW.PrintMore Go.Proofs.YtnbedmihgnjdpaaDoor.Lib

def ba (f : Int) (last : Int) (a : At) : Bool := a.bad || (decide (cls a.p ≠ 0) && decide (cls a.p < last)) || !decide (nrm f [a.p] = [a.p])
def nx (f out : Int) (a : At) : Int := if (f = 2 ∨ f = 4) ∧ sec a.p = true then 3 else out
def qc (f : Int) : Int → Int → List At → Int
  | _, out, [] => out
  | last, out, a :: r => if ba f last a = true then 2 else qc f (cls a.p) (nx f out a) r
theorem one_or (t : List Int) (p : Int) : (∃ q, t = [q]) ∨ (t.length ≠ 1 ∧ t ≠ [p]) := by
  rcases t with _ | ⟨q, _ | ⟨r, t⟩⟩
  · right; simp
  · left; exact ⟨q, rfl⟩
  · right; simp
theorem equal_one (t : List Int) (p : Int) : Ev (fun k => slices_Equal_int64_int64.f k t [p]) (decide (t = [p])) := by
  unfold slices_Equal_int64_int64.f
  rcases one_or t p with ⟨q, rfl⟩ | ⟨h1, h2⟩
  · simp only [List.length_singleton, if_true]
    refine Ev.succ ?_
    have e0 : ∀ x : Int, rd [x] 0 = x := fun x => rfl
    simp only [slices_Equal_int64_int64.l0, List.length_singleton, if_pos (show (0 : Int) < ((1 : Nat) : Int) by omega), if_pos (show (0 : Int) ≤ 0 by omega), e0]
    by_cases h : q = p
    · subst h
      simp only [if_true, decide_true]
      refine Ev.succ ?_
      have w : wrap64 (0 + 1) = 1 := by rw [w64 (by omega) (by omega)]; omega
      simp only [slices_Equal_int64_int64.l0, w, if_neg (show ¬ (1 : Int) < ((1 : Nat) : Int) by omega)]
      exact Ev.now _
    · simp only [if_neg h]
      rw [decide_eq_false (fun hh => h (by injection hh))]
      exact Ev.now _
  · simp only [List.length_singleton, if_neg (show ¬ (t.length : Int) = ((1 : Nat) : Int) by omega)]
    rw [decide_eq_false h2]
    exact Ev.now _
theorem spec_one {α : Type} (t : List Int) (p : Int) (g : Nat → Bool → Option α) (R : α) (h : Ev (fun k => g k (!decide (t = [p]))) R) :
    Ev (fun k => if (t.length : Int) = 1 then (if 0 < (t.length : Int) then g k ((rd t 0) != p) else none) else g k true) R := by
  rcases one_or t p with ⟨q, rfl⟩ | ⟨h1, h2⟩
  · have e : (!decide ([q] = [p])) = ((rd [q] 0) != p) := by
      have e0 : rd [q] 0 = q := rfl
      rw [e0]
      by_cases h : q = p
      · subst h; simp
      · simp [h]
    rw [e] at h
    simp only [List.length_singleton, if_pos (show ((1 : Nat) : Int) = 1 by omega), if_pos (show (0 : Int) < ((1 : Nat) : Int) by omega)]
    exact h
  · rw [decide_eq_false h2] at h
    simp only [if_neg (show ¬ (t.length : Int) = 1 by omega)]
    exact h
theorem ok1 (a : At) (h : okI a.p) : ∀ p ∈ [a.p], okI p := fun p hp => by rw [List.mem_singleton.1 hp]; exact h
theorem impl_qc (f : Int) (hf : 1 ≤ f ∧ f ≤ 4) (l : List At) (hl : l.length ≤ 1048576) (hp : ∀ a ∈ l, okI a.p) : ∀ (d n : Nat) (out last : Int), n + d = l.length →
    Ev (fun k => impl_QuickCheck.l0 k f out last (l.map asAt) (l.length : Int) (n : Int)) (qc f last out (l.drop n)) := by
  intro d
  induction d with
  | zero =>
    intro n out last hn
    rw [List.drop_eq_nil_of_le (by omega)]
    refine Ev.succ ?_
    simp only [impl_QuickCheck.l0, if_neg (show ¬ (n : Int) < (l.length : Int) by omega)]
    exact Ev.now _
  | succ d ih =>
    intro n out last hn
    have hlt : n < l.length := by omega
    have hd := List.drop_eq_getElem_cons hlt
    have hap := hp _ (List.getElem_mem hlt)
    have hlm : ((l.map asAt).length : Int) = (l.length : Int) := by rw [List.length_map]
    have hg : rd_T63 (l.map asAt) (n : Int) = asAt l[n] := by
      rw [rdA_nat _ n (by rw [List.length_map]; exact hlt)]; simp
    have hw : wrap64 ((n : Int) + 1) = ((n + 1 : Nat) : Int) := by rw [w64 (by omega) (by omega)]; omega
    have f0 : (asAt l[n]).f0 = l[n].p := rfl
    have f3 : (asAt l[n]).f3 = l[n].bad := rfl
    have stop : ∀ z1 z2 z3, Ev (fun k => impl_QuickCheck.j2 k f out (cls l[n].p) (l.map asAt) (l.length : Int) (n : Int) true l[n].p z1 z2 z3) 2 := fun z1 z2 z3 => by
      refine Ev.succ ?_
      simp only [impl_QuickCheck.j2, if_true]
      exact Ev.now _
    have go : ∀ z1 z2 z3, Ev (fun k => impl_QuickCheck.j2 k f out (cls l[n].p) (l.map asAt) (l.length : Int) (n : Int) false l[n].p z1 z2 z3) (qc f (cls l[n].p) (nx f out l[n]) (l.drop (n + 1))) := fun z1 z2 z3 => by
      have h3 := ih (n + 1) 3 (cls l[n].p) (by omega)
      have ho := ih (n + 1) out (cls l[n].p) (by omega)
      refine Ev.succ ?_
      simp only [impl_QuickCheck.j2, Bool.false_eq_true, if_false, sec_impl, Option.bind_some, hw]
      unfold nx
      cases hs : sec l[n].p with
      | true =>
        simp only [if_true, and_true]
        by_cases h2 : f = 2
        · rw [if_pos (.inl h2)]; simp only [if_pos h2]; exact h3
        · by_cases h4 : f = 4
          · rw [if_pos (.inr h4)]; simp only [if_neg h2, if_pos h4]; exact h3
          · rw [if_neg (fun h => by rcases h with h | h; exact h2 h; exact h4 h)]; simp only [if_neg h2, if_neg h4]; exact ho
      | false =>
        simp only [Bool.false_eq_true, if_false, and_false, ite_self]
        exact ho
    have norm : ∀ z1 z2 z3, l[n].bad = false → (decide (cls l[n].p ≠ 0) && decide (cls l[n].p < last)) = false →
        Ev (fun k => (impl_normal.f k f [l[n].p]).bind fun t => ((slices_Equal_int64_int64.f k t [l[n].p]).bind fun t2 => (impl_QuickCheck.j2 k f out (cls l[n].p) (l.map asAt) (l.length : Int) (n : Int) (!t2) l[n].p z1 z2 z3))) (qc f last out (l[n] :: l.drop (n + 1))) := fun z1 z2 z3 hb hc => by
      refine Ev.bind (g := fun k => impl_normal.f k f [l[n].p]) (impl_nrm f hf _ (by simp) (ok1 _ hap)) ?_
      refine Ev.bind (g := fun k => slices_Equal_int64_int64.f k (nrm f [l[n].p]) [l[n].p]) (equal_one _ _) ?_
      rw [qc]
      unfold ba
      rw [hb, hc]
      simp only [Bool.false_or]
      cases he : decide (nrm f [l[n].p] = [l[n].p]) with
      | true => simp only [Bool.not_true, Bool.false_eq_true, if_false]; exact go _ _ _
      | false => simp only [Bool.not_false, if_true]; exact stop _ _ _
    rw [hd]
    refine Ev.succ ?_
    simp only [impl_QuickCheck.l0, if_pos (show (n : Int) < (l.length : Int) by omega), if_pos (show (0 : Int) ≤ (n : Int) by omega), hlm, hg, f0, f3, cls_impl, Option.bind_some]
    cases hb : l[n].bad with
    | true =>
      simp only [if_true]
      have e : qc f last out (l[n] :: l.drop (n + 1)) = 2 := by rw [qc]; unfold ba; rw [hb]; simp
      rw [e]; exact stop _ _ _
    | false =>
      simp only [Bool.false_eq_true, if_false]
      by_cases c0 : cls l[n].p = 0
      · simp only [if_pos c0]
        have := norm (asAt l[n]).f1 (asAt l[n]).f2 false hb (by simp [c0])
        rw [c0] at this ⊢
        exact this
      · simp only [if_neg c0]
        by_cases c1 : cls l[n].p < last
        · simp only [if_pos c1]
          have e : qc f last out (l[n] :: l.drop (n + 1)) = 2 := by rw [qc]; unfold ba; simp [c0, c1]
          rw [e]; exact stop _ _ _
        · simp only [if_neg c1]
          exact norm _ _ _ hb (by simp [c1])
theorem spec_qc (f : Int) (hf : 1 ≤ f ∧ f ≤ 4) (s : ByteArray) (hs : s.size ≤ 1048576) : ∀ (d i : Nat) (last out : Int), s.size ≤ i + d → i ≤ s.size →
    Ev (fun k => spec_QuickCheck.l0 k f s last out (i : Int)) (qc f last out (atsFrom s d i)) := by
  intro d
  induction d with
  | zero =>
    intro i last out hd hi
    refine Ev.succ ?_
    simp only [spec_QuickCheck.l0, if_neg (show ¬ (i : Int) < (s.size : Int) by omega)]
    exact Ev.now _
  | succ d ih =>
    intro i last out hd hi
    by_cases hlt : i < s.size
    · have w := dec_width s i hlt
      have hpt := (isPt_iff _).1 (dec_range s i)
      have hok : okI (atOf s i).p := by
        show okI ((dec s i).1 : Int)
        unfold okI; omega
      have w2 : wrap64 ((i : Int) + ((dec s i).2 : Int)) = ((i + (dec s i).2 : Nat) : Int) := by rw [w64 (by omega) (by omega)]; omega
      rw [atsFrom, if_pos hlt]
      have hnx : Ev (fun k => spec_QuickCheck.l0 k f s (cls (atOf s i).p) (nx f out (atOf s i)) ((i + (dec s i).2 : Nat) : Int)) (qc f (cls (atOf s i).p) (nx f out (atOf s i)) (atsFrom s d (i + (dec s i).2))) := ih _ _ _ (by omega) (by omega)
      have stop : Ev (fun k => spec_QuickCheck.j2 k f s out (i : Int) (atOf s i).p ((dec s i).2 : Int) (cls (atOf s i).p) true) 2 := by
        refine Ev.succ ?_
        simp only [spec_QuickCheck.j2, if_true]
        exact Ev.now _
      have go : Ev (fun k => spec_QuickCheck.j2 k f s out (i : Int) (atOf s i).p ((dec s i).2 : Int) (cls (atOf s i).p) false) (if (!decide (nrm f [(atOf s i).p] = [(atOf s i).p])) = true then 2 else qc f (cls (atOf s i).p) (nx f out (atOf s i)) (atsFrom s d (i + (dec s i).2))) := by
        refine Ev.succ ?_
        simp only [spec_QuickCheck.j2, Bool.false_eq_true, if_false]
        refine Ev.bind (g := fun k => spec_l05Norm.f k f [(atOf s i).p]) (spec_nrm f hf _ (by simp) (ok1 _ hok)) ?_
        refine spec_one (nrm f [(atOf s i).p]) (atOf s i).p (fun k b => spec_QuickCheck.j3 k f s out (i : Int) (atOf s i).p ((dec s i).2 : Int) (cls (atOf s i).p) b) _ ?_
        refine Ev.succ ?_
        cases he : decide (nrm f [(atOf s i).p] = [(atOf s i).p]) with
        | false => simp only [spec_QuickCheck.j3, Bool.not_false, if_true]; exact Ev.now _
        | true =>
          simp only [spec_QuickCheck.j3, Bool.not_true, Bool.false_eq_true, if_false, spec_l05C.f, sec_spec, Option.bind_some, w2]
          have hn := hnx
          by_cases h24 : f = 2 ∨ f = 4
          · have e : (Int.tmod f 2 == 0) = true := by rcases h24 with rfl | rfl <;> decide
            simp only [e, if_true]
            cases hsx : sec (atOf s i).p with
            | true =>
              have e3 : nx f out (atOf s i) = 3 := by unfold nx; rw [if_pos ⟨h24, hsx⟩]
              rw [e3] at hn ⊢
              simp only [if_true]
              exact hn
            | false =>
              have e3 : nx f out (atOf s i) = out := by unfold nx; rw [if_neg (fun h => by rw [hsx] at h; cases h.2)]
              rw [e3] at hn ⊢
              simp only [Bool.false_eq_true, if_false]
              exact hn
          · have h13 : f = 1 ∨ f = 3 := by omega
            have e : (Int.tmod f 2 == 0) = false := by rcases h13 with rfl | rfl <;> decide
            have e3 : nx f out (atOf s i) = out := by unfold nx; rw [if_neg (fun h => h24 h.1)]
            rw [e3] at hn ⊢
            simp only [e, Bool.false_eq_true, if_false]
            exact hn
      refine Ev.succ ?_
      simp only [spec_QuickCheck.l0, if_pos (show (i : Int) < (s.size : Int) by omega)]
      refine Ev.bind (g := fun k => spec_l01Next.f k s (i : Int)) (a := told (dec s i)) (Ev.from_ 12 (fun k hk => next_eq s hs k i hk hlt)) ?_
      have t1 : (told (dec s i)).1 = (atOf s i).p := rfl
      have t2 : (told (dec s i)).2.1 = ((dec s i).2 : Int) := rfl
      have t3 : (told (dec s i)).2.2 = !(atOf s i).bad := rfl
      simp only [t1, t2, t3]
      refine Ev.bind (g := fun k => spec_l01Class.f k (atOf s i).p) (a := cls (atOf s i).p) (Ev.at_ 1 (fun k => cls_spec _ k)) ?_
      rw [qc]
      unfold ba
      cases hb : (atOf s i).bad with
      | true =>
        simp only [Bool.not_true, Bool.false_eq_true, if_false, Bool.true_or, if_true]
        exact stop
      | false =>
        simp only [Bool.not_false, if_true, Bool.false_or]
        by_cases c0 : cls (atOf s i).p = 0
        · simp only [if_pos c0, decide_eq_false (show ¬ cls (atOf s i).p ≠ 0 from fun h => h c0), Bool.false_and, Bool.false_or]
          exact go
        · simp only [if_neg c0, decide_eq_true (show cls (atOf s i).p ≠ 0 from c0), Bool.true_and]
          by_cases c1 : cls (atOf s i).p < last
          · simp only [decide_eq_true c1, Bool.true_or, if_true]; exact stop
          · simp only [decide_eq_false c1, Bool.false_or]; exact go
    · rw [atsFrom, if_neg hlt]
      refine Ev.succ ?_
      simp only [spec_QuickCheck.l0, if_neg (show ¬ (i : Int) < (s.size : Int) by omega)]
      exact Ev.now _
theorem FnExactQuickCheck : laws_FnExactQuickCheck.Pure := by
  intro f s hf hs
  refine Ev.rounds (g := fun k => laws_FnExactQuickCheck.f k f s) ?_
  unfold laws_FnExactQuickCheck.f
  by_cases c : (s.size : Int) > 1048576
  · simp only [if_pos c]; exact Ev.now _
  simp only [if_neg c]
  obtain ⟨r, h1, h2⟩ : ∃ r, Ev (fun k => spec_QuickCheck.f k f s) r ∧ Ev (fun k => impl_QuickCheck.f k f s) r := by
    unfold spec_QuickCheck.f impl_QuickCheck.f impl_long.f
    simp only [isFormT, isNormT, Option.bind_some]
    by_cases h : (s.size : Int) > 65536
    · refine ⟨0, ?_, ?_⟩
      · simp only [if_pos h]
        refine Ev.succ ?_
        simp only [spec_QuickCheck.j0, if_true]
        exact Ev.now _
      · simp only [decide_eq_true h, if_true]
        refine Ev.succ ?_
        simp only [impl_QuickCheck.j0, if_true]
        exact Ev.now _
    · by_cases hb : 1 ≤ f ∧ f ≤ 4
      · refine ⟨qc f 0 1 (ats s), ?_, ?_⟩
        · simp only [if_neg h, decide_eq_true hb, Bool.not_true]
          refine Ev.succ ?_
          simp only [spec_QuickCheck.j0, Bool.false_eq_true, if_false]
          exact spec_qc f hb s (by omega) s.size 0 0 1 (by omega) (by omega)
        · simp only [decide_eq_false h, Bool.false_eq_true, if_false, decide_eq_true hb, Bool.not_true]
          refine Ev.succ ?_
          simp only [impl_QuickCheck.j0, Bool.false_eq_true, if_false]
          refine Ev.bind (g := fun k => impl_read.f k s) (a := (ats s).map asAt) (Ev.from_ (s.size + 1) (fun k hk => read_eq s k hk (by omega))) ?_
          have hal := ats_len s
          have := impl_qc f hb (ats s) (by omega) (fun a ha => by
            have := (isPt_iff _).1 (atsFrom_pt s s.size 0 a ha)
            unfold okI; omega) (ats s).length 0 1 0 (by omega)
          simpa using this
      · refine ⟨0, ?_, ?_⟩
        · simp only [if_neg h, decide_eq_false hb, Bool.not_false]
          refine Ev.succ ?_
          simp only [spec_QuickCheck.j0, if_true]
          exact Ev.now _
        · simp only [decide_eq_false h, Bool.false_eq_true, if_false, decide_eq_false hb, Bool.not_false]
          refine Ev.succ ?_
          simp only [impl_QuickCheck.j0, if_true]
          exact Ev.now _
  refine Ev.bind (g := fun k => spec_QuickCheck.f k f s) h1 ?_
  refine Ev.bind (g := fun k => impl_QuickCheck.f k f s) h2 ?_
  simp only [if_true]
  exact Ev.now _
end Go.Proofs.YtnbedmihgnjdpaaDoor.Pure

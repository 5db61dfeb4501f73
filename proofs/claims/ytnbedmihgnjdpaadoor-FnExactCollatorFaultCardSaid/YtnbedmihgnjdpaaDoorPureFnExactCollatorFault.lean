/- The program's CollatorFault returns what the reference's returns. For every input: the law answers true; each argument reads afterwards as it read before. -/
import Derived.Test.YtnbedmihgnjdpaaDoorNormTCollatorFault
set_option linter.unusedSimpArgs false
set_option linter.unusedVariables false
namespace Go.Proofs.YtnbedmihgnjdpaaDoor.Pure
open Go.RowKit Go.Proofs.YtnbedmihgnjdpaaDoor.PFnExactCollatorFault Go.Proofs.YtnbedmihgnjdpaaDoorW.PrintWords Go.Proofs.YtnbedmihgnjdpaaDoorW.PrintLast Go.Proofs.YtnbedmihgnjdpaaDoorW.PrintMore Go.Proofs.YtnbedmihgnjdpaaDoor.Lib
abbrev LE := S111
abbrev LN := S91
abbrev IE := S74
abbrev IN := S72
def cE (x : LE) : IE := ⟨x.f0, x.f1, x.f2⟩
def cN (x : LN) : IN := ⟨x.f0, x.f1.map cE⟩
theorem rdLE (xs : List LE) (n : Nat) (h : n < xs.length) : rd_T111 xs (n : Int) = xs[n] := by
  simp [rd_T111, List.getD_eq_getElem?_getD, List.getElem?_eq_getElem h]
theorem rdLN (xs : List LN) (n : Nat) (h : n < xs.length) : rd_T91 xs (n : Int) = xs[n] := by
  simp [rd_T91, List.getD_eq_getElem?_getD, List.getElem?_eq_getElem h]
theorem rdIE (xs : List IE) (n : Nat) (h : n < xs.length) : rd_T74 xs (n : Int) = xs[n] := by
  simp [rd_T74, List.getD_eq_getElem?_getD, List.getElem?_eq_getElem h]
theorem rdIN (xs : List IN) (n : Nat) (h : n < xs.length) : rd_T72 xs (n : Int) = xs[n] := by
  simp [rd_T72, List.getD_eq_getElem?_getD, List.getElem?_eq_getElem h]
theorem set_next {α : Type} (A B : List α) (z y : α) (n : Nat) (h : n = A.length) : (A ++ z :: B).set ((n : Int)).toNat y = A ++ y :: B := by
  subst h
  rw [show ((A.length : Int)).toNat = A.length from by omega]; simp
def szE (y : LN) (n : Int) : Int := if n - (y.f0.size : Int) < 0 then -1 else if n - (y.f0.size : Int) - (y.f1.length : Int) < 0 then -1 else n - (y.f0.size : Int) - (y.f1.length : Int)
def szF : List LN → Int → Int
  | [], n => n
  | y :: r, n => if szE y n < 0 then -1 else szF r (szE y n)
theorem szE_le (y : LN) (n : Int) (h : 0 ≤ szE y n) : szE y n ≤ n ∧ (y.f0.size : Int) ≤ n ∧ (y.f1.length : Int) ≤ n := by
  unfold szE at h ⊢; split at h <;> (try split at h) <;> (try omega)
theorem szF_all : ∀ (l : List LN) (n : Int), 0 ≤ szF l n → n ≤ 1048576 → ∀ y ∈ l, y.f0.size ≤ 1048576 ∧ y.f1.length ≤ 1048576
  | [], _, _, _, y, hy => by cases hy
  | x :: r, n, h, hn, y, hy => by
    rw [szF] at h
    by_cases c : szE x n < 0
    · rw [if_pos c] at h; omega
    · rw [if_neg c] at h
      have h1 := szE_le x n (by omega)
      rcases List.mem_cons.1 hy with rfl | hy
      · omega
      · exact szF_all r _ h (by omega) y hy
theorem sz_entry (y : LN) (hq : Q91 y) (n : Int) (hn : 0 ≤ n ∧ n ≤ 1048576) : laws_szEntry.f y.f0 y.f1 n = some (szE y n) := by
  have h1 : y.f0.size ≤ 9223372036854775807 := Nat.le_trans hq.1 (by decide)
  have h2 : y.f1.length ≤ 9223372036854775807 := Nat.le_trans hq.2.1 (by decide)
  unfold laws_szEntry.f laws_szElementS.f szE
  rw [w64 (x := n - (y.f0.size : Int)) (by omega) (by omega)]
  by_cases c : n - (y.f0.size : Int) < 0
  · rw [if_pos c, if_pos c]
  · rw [if_neg c, if_neg c, w64 (x := n - (y.f0.size : Int) - (y.f1.length : Int)) (by omega) (by omega)]
    by_cases d : n - (y.f0.size : Int) - (y.f1.length : Int) < 0
    · rw [if_pos d, if_pos d, Option.bind_some, if_pos (by omega)]
    · rw [if_neg d, if_neg d, Option.bind_some, if_neg d]
theorem sz_l0 (l : List LN) (hl : l.length ≤ 1048576) (hq : ∀ y ∈ l, Q91 y) : ∀ (d n : Nat) (a : Int), n + d = l.length → 0 ≤ a ∧ a ≤ 1048576 →
    Ev (fun k => laws_szEntryS.l0 k l a (n : Int)) (szF (l.drop n) a) := by
  intro d
  induction d with
  | zero =>
    intro n a hn ha
    rw [List.drop_eq_nil_of_le (by omega)]
    refine Ev.succ ?_
    simp only [laws_szEntryS.l0, if_neg (show ¬ (n : Int) < (l.length : Int) by omega)]
    exact Ev.now _
  | succ d ih =>
    intro n a hn ha
    have hlt : n < l.length := by omega
    rw [List.drop_eq_getElem_cons hlt, szF]
    refine Ev.succ ?_
    simp only [laws_szEntryS.l0, if_pos (show (n : Int) < (l.length : Int) by omega), if_pos (show (0 : Int) ≤ (n : Int) by omega), rdLN l n hlt, sz_entry _ (hq _ (List.getElem_mem hlt)) a ha, Option.bind_some]
    by_cases c : szE l[n] a < 0
    · simp only [if_pos c]; exact Ev.now _
    · simp only [if_neg c]
      have h1 := szE_le l[n] a (by omega)
      rw [show wrap64 ((n : Int) + 1) = ((n + 1 : Nat) : Int) from by rw [w64 (by omega) (by omega)]; omega]
      exact ih (n + 1) _ (by omega) (by omega)
theorem sz_all (l : List LN) (b : Int) (c : Bool) (hm : l.length ≤ 9223372036854775807) (hq : ∀ y ∈ l, Q91 y) :
    Ev (fun k => laws_szCollator.f k l b c 1048576) (-1) ∨ (∃ r, 0 ≤ r ∧ Ev (fun k => laws_szCollator.f k l b c 1048576) r ∧ l.length ≤ 1048576 ∧ ∀ y ∈ l, y.f0.size ≤ 1048576 ∧ y.f1.length ≤ 1048576) := by
  unfold laws_szCollator.f laws_szEntryS.f
  rw [w64 (x := 1048576 - (l.length : Int)) (by omega) (by omega)]
  by_cases h : (1048576 : Int) - (l.length : Int) < 0
  · simp only [if_pos h, Option.bind_some, if_pos (show (-1 : Int) < 0 by omega)]
    exact .inl (Ev.now _)
  · simp only [if_neg h]
    have h0 := sz_l0 l (by omega) hq l.length 0 (1048576 - (l.length : Int)) (by omega) (by omega)
    rw [List.drop_zero] at h0
    by_cases h1 : szF l (1048576 - (l.length : Int)) < 0
    · refine .inl (Ev.bind (g := fun k => laws_szEntryS.l0 k l (1048576 - (l.length : Int)) 0) h0 ?_)
      simp only [if_pos h1]; exact Ev.now _
    · refine .inr ⟨szF l (1048576 - (l.length : Int)), by omega, Ev.bind (g := fun k => laws_szEntryS.l0 k l (1048576 - (l.length : Int)) 0) h0 ?_, by omega, szF_all l (1048576 - (l.length : Int)) (by omega) (by omega)⟩
      simp only [if_neg h1]; exact Ev.now _
theorem toE_l0 (l : List LE) (hl : l.length ≤ 1048576) : ∀ (d n : Nat), n + d = l.length → Ev (fun k => laws_toElementS.l0 k l ((l.take n).map cE ++ List.replicate d z74) (n : Int)) (l.map cE) := by
  intro d
  induction d with
  | zero =>
    intro n hn
    refine Ev.succ ?_
    simp only [laws_toElementS.l0, if_neg (show ¬ (n : Int) < (l.length : Int) by omega)]
    rw [List.take_of_length_le (by omega), List.replicate_zero, List.append_nil]
    exact Ev.now _
  | succ d ih =>
    intro n hn
    have hlt : n < l.length := by omega
    have hta : ((l.take n).map cE).length = n := by rw [List.length_map, List.length_take]; omega
    have hlen : (((l.take n).map cE ++ List.replicate (d + 1) z74).length : Int) = (l.length : Int) := by rw [List.length_append, hta, List.length_replicate]; omega
    refine Ev.succ ?_
    simp only [laws_toElementS.l0, if_pos (show (n : Int) < (l.length : Int) by omega), if_pos (show (0 : Int) ≤ (n : Int) by omega), rdLE l n hlt, laws_toElement.f, Option.bind_some, hlen]
    rw [List.replicate_succ, set_next _ _ _ _ n hta.symm, show wrap64 ((n : Int) + 1) = ((n + 1 : Nat) : Int) from by rw [w64 (by omega) (by omega)]; omega]
    have := ih (n + 1) (by omega)
    rw [List.take_succ_eq_append_getElem hlt, List.map_append] at this
    simpa [cE] using this
theorem toE_eq (l : List LE) (hl : l.length ≤ 1048576) : Ev (fun k => laws_toElementS.f k l) (l.map cE) := by
  unfold laws_toElementS.f
  have e : ((l.length : Int)).toNat = l.length := by omega
  simp only [if_pos (show (0 : Int) ≤ (l.length : Int) by omega), e, if_pos (show l.length ≤ 11728124029610 by omega)]
  have := toE_l0 l hl l.length 0 (by omega)
  simpa using this
theorem toN_l0 (l : List LN) (hl : l.length ≤ 1048576) (hy : ∀ y ∈ l, y.f1.length ≤ 1048576) : ∀ (d n : Nat), n + d = l.length → Ev (fun k => laws_toEntryS.l0 k l ((l.take n).map cN ++ List.replicate d z72) (n : Int)) (l.map cN) := by
  intro d
  induction d with
  | zero =>
    intro n hn
    refine Ev.succ ?_
    simp only [laws_toEntryS.l0, if_neg (show ¬ (n : Int) < (l.length : Int) by omega)]
    rw [List.take_of_length_le (by omega), List.replicate_zero, List.append_nil]
    exact Ev.now _
  | succ d ih =>
    intro n hn
    have hlt : n < l.length := by omega
    have hta : ((l.take n).map cN).length = n := by rw [List.length_map, List.length_take]; omega
    have hlen : (((l.take n).map cN ++ List.replicate (d + 1) z72).length : Int) = (l.length : Int) := by rw [List.length_append, hta, List.length_replicate]; omega
    refine Ev.succ ?_
    simp only [laws_toEntryS.l0, if_pos (show (n : Int) < (l.length : Int) by omega), if_pos (show (0 : Int) ≤ (n : Int) by omega), rdLN l n hlt, laws_toEntry.f, hlen]
    refine Ev.bind (g := fun k => (laws_toElementS.f k l[n].f1).bind fun t => some (l[n].f0, t)) (a := (l[n].f0, l[n].f1.map cE)) ?_ ?_
    · exact Ev.bind (g := fun k => laws_toElementS.f k l[n].f1) (toE_eq _ (hy _ (List.getElem_mem hlt))) (Ev.now _)
    rw [List.replicate_succ, set_next _ _ _ _ n hta.symm, show wrap64 ((n : Int) + 1) = ((n + 1 : Nat) : Int) from by rw [w64 (by omega) (by omega)]; omega]
    have := ih (n + 1) (by omega)
    rw [List.take_succ_eq_append_getElem hlt, List.map_append] at this
    simpa [cN] using this
theorem toC_eq (l : List LN) (b : Int) (c : Bool) (hl : l.length ≤ 1048576) (hy : ∀ y ∈ l, y.f1.length ≤ 1048576) : Ev (fun k => laws_toCollator.f k l b c) (l.map cN, b, c) := by
  unfold laws_toCollator.f
  refine Ev.bind (g := fun k => laws_toEntryS.f k l) (a := l.map cN) ?_ (Ev.now _)
  unfold laws_toEntryS.f
  have e : ((l.length : Int)).toNat = l.length := by omega
  simp only [if_pos (show (0 : Int) ≤ (l.length : Int) by omega), e, if_pos (show l.length ≤ 7036874417766 by omega)]
  have := toN_l0 l hl hy l.length 0 (by omega)
  simpa using this
theorem eqE (l : List IE) (hl : l.length ≤ 1048576) : Ev (fun k => laws_eqElementS.f k l l) true := by
  unfold laws_eqElementS.f
  simp only [if_true]
  have key : ∀ (d n : Nat), n + d = l.length → Ev (fun k => laws_eqElementS.l0 k l l (n : Int)) true := by
    intro d
    induction d with
    | zero =>
      intro n hn
      refine Ev.succ ?_
      simp only [laws_eqElementS.l0, if_neg (show ¬ (n : Int) < (l.length : Int) by omega)]
      exact Ev.now _
    | succ d ih =>
      intro n hn
      refine Ev.succ ?_
      simp only [laws_eqElementS.l0, if_pos (show (n : Int) < (l.length : Int) by omega), if_pos (show (0 : Int) ≤ (n : Int) by omega), laws_eqElement.f, if_true, Option.bind_some]
      rw [show wrap64 ((n : Int) + 1) = ((n + 1 : Nat) : Int) from by rw [w64 (by omega) (by omega)]; omega]
      exact ih (n + 1) (by omega)
  exact key l.length 0 (by omega)
theorem eqN (l : List IN) (hl : l.length ≤ 1048576) (hy : ∀ y ∈ l, y.f1.length ≤ 1048576) : Ev (fun k => laws_eqEntryS.f k l l) true := by
  unfold laws_eqEntryS.f
  simp only [if_true]
  have key : ∀ (d n : Nat), n + d = l.length → Ev (fun k => laws_eqEntryS.l0 k l l (n : Int)) true := by
    intro d
    induction d with
    | zero =>
      intro n hn
      refine Ev.succ ?_
      simp only [laws_eqEntryS.l0, if_neg (show ¬ (n : Int) < (l.length : Int) by omega)]
      exact Ev.now _
    | succ d ih =>
      intro n hn
      have hlt : n < l.length := by omega
      refine Ev.succ ?_
      simp only [laws_eqEntryS.l0, if_pos (show (n : Int) < (l.length : Int) by omega), if_pos (show (0 : Int) ≤ (n : Int) by omega), laws_eqEntry.f, if_true, rdIN l n hlt]
      refine Ev.bind (g := fun k => (laws_eqElementS.f k l[n].f1 l[n].f1).bind fun t499 => (if t499 = true then (some true) else (some false))) (a := true) ?_ ?_
      · exact Ev.bind (g := fun k => laws_eqElementS.f k l[n].f1 l[n].f1) (eqE _ (hy _ (List.getElem_mem hlt))) (by simp only [if_true]; exact Ev.now _)
      · simp only [if_true]
        rw [show wrap64 ((n : Int) + 1) = ((n + 1 : Nat) : Int) from by rw [w64 (by omega) (by omega)]; omega]
        exact ih (n + 1) (by omega)
  exact key l.length 0 (by omega)
theorem eqC (l : List IN) (b : Int) (c : Bool) (hl : l.length ≤ 1048576) (hy : ∀ y ∈ l, y.f1.length ≤ 1048576) : Ev (fun k => laws_eqCollator.f k l b c l b c) true := by
  unfold laws_eqCollator.f
  refine Ev.bind (g := fun k => laws_eqEntryS.f k l l) (eqN l hl hy) ?_
  simp only [if_true, bne_self_eq_false, Bool.false_eq_true, if_false]
  exact Ev.now _
def okE (x : IE) : Bool := decide (0 ≤ x.f0 ∧ x.f0 ≤ 1000000000000) && decide (0 ≤ x.f1 ∧ x.f1 ≤ 1000000000000) && decide (0 ≤ x.f2 ∧ x.f2 ≤ 1000000000000)
def badT (s : ByteArray) : Bool := !isN 1 s || decide ((pts s).length < 1) || decide ((pts s).length > 3)
def badS (s : ByteArray) : Bool := decide ((nrm 1 (pts s)).length < 1) || decide ((nrm 1 (pts s)).length > 3) || !((txt 1 s).toList == s.toList)
theorem one14 : (1 : Int) ≤ 1 ∧ (1 : Int) ≤ 4 := by omega
theorem isPt_of {q : Int} (h : 0 ≤ q ∧ q ≤ 23459) : isPt q = true := (isPt_iff q).2 (by omega)
theorem dcm_pt (p : Int) (b : Bool) (hp : isPt p = true) : ∀ q ∈ dcm p b, isPt q = true := by
  intro q hq
  unfold dcm at hq
  split at hq
  · rw [List.mem_singleton.1 hq]; exact hp
  · obtain ⟨r, hr, hq⟩ := List.mem_flatMap.1 hq
    have hd := parts_deep p b r hr
    unfold dcm1 at hq
    split at hq
    · rw [List.mem_singleton.1 hq]; exact isPt_of hd.1
    · have := hd.2 q hq; exact isPt_of (by omega)
theorem nrm1_pt (s : ByteArray) : ∀ p ∈ nrm 1 (pts s), isPt p = true := by
  intro p hp
  unfold nrm at hp
  rw [if_pos (.inl rfl)] at hp
  rcases fold_mem _ [] p hp with h | h
  · cases h
  · obtain ⟨q, hq, h⟩ := List.mem_flatMap.1 h
    exact dcm_pt q _ (pts_pt s q hq) p h
theorem bad_eq (s : ByteArray) : badT s = badS s := by
  unfold badT badS isN
  by_cases h : (txt 1 s).toList = s.toList
  · have he := toList_inj h
    have hp : pts s = nrm 1 (pts s) := by
      conv => lhs; rw [← he]
      exact pts_written _ (nrm1_pt s)
    have hb : ((txt 1 s).toList == s.toList) = true := by rw [h]; simp
    rw [hb, decide_eq_true one14, ← hp]
    simp only [Bool.and_true, Bool.not_true, Bool.or_false]
    by_cases c : (pts s).length > 3
    · simp [c]
    · have hsz : s.size ≤ 65536 := by
        have h1 : s.size = (encAll (nrm 1 (pts s))).length := by
          conv => lhs; rw [← he]
          unfold txt
          have := congrArg List.length (bytes_written (nrm 1 (pts s)))
          rw [data_length] at this
          simpa using this
        have h2 := encAll_len (nrm 1 (pts s))
        rw [← hp] at h1 h2
        omega
      simp [hsz]
  · have hb : ((txt 1 s).toList == s.toList) = false := by rw [beq_eq_false_iff_ne]; exact h
    rw [hb]; simp
def ahd (prev : Option ByteArray) (e : IN) : Bool := match prev with
  | none => decide ((e.f1.length : Int) > 20)
  | some t => if (Op.bytesLess t.toList e.f0.toList) = true then decide ((e.f1.length : Int) > 20) else true
def cfl : Option ByteArray → List IN → Int
  | _, [] => 0
  | prev, e :: r => if badT e.f0 = true then 1 else if ahd prev e = true then 1 else if e.f1.all okE = true then cfl (some e.f0) r else 1
theorem impl_l1 (l : List IN) (b : Int) (c : Bool) (hl : l.length ≤ 1048576) (hy : ∀ y ∈ l, y.f0.size ≤ 1048576 ∧ y.f1.length ≤ 1048576) (n : Nat) (el : List IE) (he : el.length ≤ 1048576) (R : Int) (hR : Ev (fun k => impl_CollatorFault.l0 k l (l.length : Int) (wrap64 ((n : Int) + 1)) l b c) R) : ∀ (d j : Nat), j + d = el.length →
    Ev (fun k => impl_CollatorFault.l1 k l (l.length : Int) (n : Int) el (el.length : Int) (j : Int) l b c) (if (el.drop j).all okE = true then R else 1) := by
  have _u := hl
  have _u2 := hy
  intro d
  induction d with
  | zero =>
    intro j hj
    rw [List.drop_eq_nil_of_le (by omega)]
    refine Ev.succ ?_
    simp only [impl_CollatorFault.l1, if_neg (show ¬ (j : Int) < (el.length : Int) by omega), List.all_nil, if_true]
    exact hR
  | succ d ih =>
    intro j hj
    have hlt : j < el.length := by omega
    rw [List.drop_eq_getElem_cons hlt, List.all_cons]
    refine Ev.succ ?_
    simp only [impl_CollatorFault.l1, if_pos (show (j : Int) < (el.length : Int) by omega), if_pos (show (0 : Int) ≤ (j : Int) by omega), rdIE el j hlt, inF, Option.bind_some]
    have hw : wrap64 ((j : Int) + 1) = ((j + 1 : Nat) : Int) := by rw [w64 (by omega) (by omega)]; omega
    by_cases c0 : 0 ≤ el[j].f0 ∧ el[j].f0 ≤ 1000000000000
    · by_cases c1 : 0 ≤ el[j].f1 ∧ el[j].f1 ≤ 1000000000000
      · by_cases c2 : 0 ≤ el[j].f2 ∧ el[j].f2 ≤ 1000000000000
        · have e : okE el[j] = true := by unfold okE; rw [decide_eq_true c0, decide_eq_true c1, decide_eq_true c2]; rfl
          simp only [decide_eq_true c0, decide_eq_true c1, decide_eq_true c2, if_true, e, Bool.true_and, hw]
          exact ih (j + 1) (by omega)
        · have e : okE el[j] = false := by unfold okE; rw [decide_eq_true c0, decide_eq_true c1, decide_eq_false c2]; rfl
          simp only [decide_eq_true c0, decide_eq_true c1, decide_eq_false c2, if_true, e, Bool.false_and, Bool.false_eq_true, if_false]
          exact Ev.now _
      · have e : okE el[j] = false := by unfold okE; rw [decide_eq_true c0, decide_eq_false c1]; rfl
        simp only [decide_eq_true c0, decide_eq_false c1, if_true, e, Bool.false_and, Bool.false_eq_true, if_false]
        exact Ev.now _
    · have e : okE el[j] = false := by unfold okE; rw [decide_eq_false c0]; rfl
      simp only [decide_eq_false c0, e, Bool.false_and, Bool.false_eq_true, if_false]
      exact Ev.now _
theorem number_eq (l : List IN) (b : Int) (c : Bool) (hl : l.length ≤ 1048576) (hy : ∀ y ∈ l, y.f0.size ≤ 1048576 ∧ y.f1.length ≤ 1048576) (x : Int) : spec_l11Number.f x = some (decide (0 ≤ x ∧ x ≤ 1000000000000)) := by
  have _u := hl
  have _u2 := hy
  unfold spec_l11Number.f
  by_cases h : x ≥ 0
  · rw [if_pos h]; congr 1; exact decide_eq_decide.2 (by omega)
  · rw [if_neg h, decide_eq_false (show ¬ (0 ≤ x ∧ x ≤ 1000000000000) by omega)]
theorem spec_l1 (l : List IN) (b : Int) (c : Bool) (hl : l.length ≤ 1048576) (hy : ∀ y ∈ l, y.f0.size ≤ 1048576 ∧ y.f1.length ≤ 1048576) (n : Nat) (s : ByteArray) (el : List IE) (he : el.length ≤ 1048576) (R : Int) (hR : Ev (fun k => spec_CollatorFault.l0 k (wrap64 ((n : Int) + 1)) l b c) R) : ∀ (d j : Nat), j + d = el.length →
    Ev (fun k => spec_CollatorFault.l1 k (n : Int) (j : Int) l b c s el) (if (el.drop j).all okE = true then R else 1) := by
  intro d
  induction d with
  | zero =>
    intro j hj
    rw [List.drop_eq_nil_of_le (by omega)]
    refine Ev.succ ?_
    simp only [spec_CollatorFault.l1, if_neg (show ¬ (j : Int) < (el.length : Int) by omega), List.all_nil, if_true]
    exact hR
  | succ d ih =>
    intro j hj
    have hlt : j < el.length := by omega
    rw [List.drop_eq_getElem_cons hlt, List.all_cons]
    refine Ev.succ ?_
    simp only [spec_CollatorFault.l1, if_pos (show (j : Int) < (el.length : Int) by omega), if_pos (show (0 : Int) ≤ (j : Int) by omega), rdIE el j hlt, number_eq l b c hl hy, Option.bind_some]
    have hw : wrap64 ((j : Int) + 1) = ((j + 1 : Nat) : Int) := by rw [w64 (by omega) (by omega)]; omega
    by_cases c0 : 0 ≤ el[j].f0 ∧ el[j].f0 ≤ 1000000000000
    · by_cases c1 : 0 ≤ el[j].f1 ∧ el[j].f1 ≤ 1000000000000
      · by_cases c2 : 0 ≤ el[j].f2 ∧ el[j].f2 ≤ 1000000000000
        · have e : okE el[j] = true := by unfold okE; rw [decide_eq_true c0, decide_eq_true c1, decide_eq_true c2]; rfl
          simp only [decide_eq_true c0, decide_eq_true c1, decide_eq_true c2, if_true, e, Bool.true_and, hw]
          exact ih (j + 1) (by omega)
        · have e : okE el[j] = false := by unfold okE; rw [decide_eq_true c0, decide_eq_true c1, decide_eq_false c2]; rfl
          simp only [decide_eq_true c0, decide_eq_true c1, decide_eq_false c2, if_true, e, Bool.false_and, Bool.false_eq_true, if_false]
          exact Ev.now _
      · have e : okE el[j] = false := by unfold okE; rw [decide_eq_true c0, decide_eq_false c1]; rfl
        simp only [decide_eq_true c0, decide_eq_false c1, if_true, e, Bool.false_and, Bool.false_eq_true, if_false]
        exact Ev.now _
    · have e : okE el[j] = false := by unfold okE; rw [decide_eq_false c0]; rfl
      simp only [decide_eq_false c0, e, Bool.false_and, Bool.false_eq_true, if_false]
      exact Ev.now _
def prv (l : List IN) (n : Nat) : Option ByteArray := if h : 0 < n ∧ n - 1 < l.length then some (l[n - 1]'h.2).f0 else none
theorem prv_zero (l : List IN) : prv l 0 = none := by unfold prv; rw [dif_neg (by omega)]
theorem prv_succ (l : List IN) (n : Nat) (h : n < l.length) : prv l (n + 1) = some l[n].f0 := by unfold prv; rw [dif_pos ⟨by omega, by simpa using h⟩]; simp
theorem impl_l0 (l : List IN) (b : Int) (c : Bool) (hl : l.length ≤ 1048576) (hy : ∀ y ∈ l, y.f0.size ≤ 1048576 ∧ y.f1.length ≤ 1048576) : ∀ (d n : Nat), n + d = l.length → Ev (fun k => impl_CollatorFault.l0 k l (l.length : Int) (n : Int) l b c) (cfl (prv l n) (l.drop n)) := by
  intro d
  induction d with
  | zero =>
    intro n hn
    rw [List.drop_eq_nil_of_le (by omega)]
    refine Ev.succ ?_
    simp only [impl_CollatorFault.l0, if_neg (show ¬ (n : Int) < (l.length : Int) by omega)]
    rw [cfl]; exact Ev.now _
  | succ d ih =>
    intro n hn
    have hlt : n < l.length := by omega
    have hyn := hy _ (List.getElem_mem hlt)
    have hw : wrap64 ((n : Int) + 1) = ((n + 1 : Nat) : Int) := by rw [w64 (by omega) (by omega)]; omega
    have hnext := ih (n + 1) (by omega)
    rw [prv_succ l n hlt, ← hw] at hnext
    have fin : ∀ z, Ev (fun k => impl_CollatorFault.j2 k l (l.length : Int) (n : Int) z l b c l[n].f0 l[n].f1) (if z = true then 1 else if l[n].f1.all okE = true then cfl (some l[n].f0) (l.drop (n + 1)) else 1) := fun z => by
      refine Ev.succ ?_
      cases z with
      | true => simp only [impl_CollatorFault.j2, if_true]; exact Ev.now _
      | false =>
        simp only [impl_CollatorFault.j2, Bool.false_eq_true, if_false]
        have := impl_l1 l b c hl hy n l[n].f1 hyn.2 _ hnext l[n].f1.length 0 (by omega)
        rw [List.drop_zero] at this
        exact this
    have bad : badT l[n].f0 = true → cfl (prv l n) (l[n] :: l.drop (n + 1)) = 1 := fun h => by rw [cfl, if_pos h]
    rw [List.drop_eq_getElem_cons hlt]
    refine Ev.succ ?_
    simp only [impl_CollatorFault.l0, if_pos (show (n : Int) < (l.length : Int) by omega), if_pos (show (0 : Int) ≤ (n : Int) by omega), rdIN l n hlt]
    refine Ev.bind (g := fun k => impl_points.f k l[n].f0) (a := pts l[n].f0) (Ev.from_ (l[n].f0.size + 1) (fun k hk => points_eq _ k hk hyn.1)) ?_
    refine Ev.bind (g := fun k => impl_IsNormal.f k 1 l[n].f0) (a := isN 1 l[n].f0) (isN_impl 1 _ hyn.1) ?_
    cases hN : isN 1 l[n].f0 with
    | false =>
      simp only [Bool.false_eq_true, if_false]
      rw [bad (by unfold badT; rw [hN]; rfl)]
      have := fin true
      rw [if_pos rfl] at this
      exact this
    | true =>
      simp only [if_true]
      by_cases c1 : ((pts l[n].f0).length : Int) < 1
      · simp only [if_pos c1]
        rw [bad (by unfold badT; rw [decide_eq_true (show (pts l[n].f0).length < 1 by omega)]; simp)]
        have := fin true
        rw [if_pos rfl] at this
        exact this
      · by_cases c3 : ((pts l[n].f0).length : Int) > 3
        · simp only [if_neg c1, if_pos c3]
          rw [bad (by unfold badT; rw [decide_eq_true (show (pts l[n].f0).length > 3 by omega)]; simp)]
          have := fin true
          rw [if_pos rfl] at this
          exact this
        · simp only [if_neg c1, if_neg c3]
          have hok : badT l[n].f0 = false := by unfold badT; rw [hN, decide_eq_false (show ¬ (pts l[n].f0).length < 1 by omega), decide_eq_false (show ¬ (pts l[n].f0).length > 3 by omega)]; rfl
          rw [cfl, hok, if_neg (by decide)]
          cases n with
          | zero =>
            simp only [if_neg (show ¬ ((0 : Nat) : Int) > 0 by omega)]
            have := fin (decide ((l[0].f1.length : Int) > 20))
            rw [prv_zero]
            exact this
          | succ m =>
            have hw1 : wrap64 (((m + 1 : Nat) : Int) - 1) = (m : Int) := by rw [w64 (by omega) (by omega)]; omega
            simp only [if_pos (show ((m + 1 : Nat) : Int) > 0 by omega), hw1, if_pos (show (0 : Int) ≤ (m : Int) by omega), if_pos (show (m : Int) < (l.length : Int) by omega), rdIN l m (by omega)]
            rw [prv_succ l m (by omega)]
            unfold ahd
            by_cases hb : (Op.bytesLess (l[m].f0.toList) (l[m + 1].f0.toList)) = true
            · simp only [if_pos hb]; exact fin _
            · simp only [if_neg hb]; exact fin _
theorem spec_l0 (l : List IN) (b : Int) (c : Bool) (hl : l.length ≤ 1048576) (hy : ∀ y ∈ l, y.f0.size ≤ 1048576 ∧ y.f1.length ≤ 1048576) : ∀ (d n : Nat), n + d = l.length → Ev (fun k => spec_CollatorFault.l0 k (n : Int) l b c) (cfl (prv l n) (l.drop n)) := by
  intro d
  induction d with
  | zero =>
    intro n hn
    rw [List.drop_eq_nil_of_le (by omega)]
    refine Ev.succ ?_
    simp only [spec_CollatorFault.l0, if_neg (show ¬ (n : Int) < (l.length : Int) by omega)]
    rw [cfl]; exact Ev.now _
  | succ d ih =>
    intro n hn
    have hlt : n < l.length := by omega
    have hyn := hy _ (List.getElem_mem hlt)
    have hw : wrap64 ((n : Int) + 1) = ((n + 1 : Nat) : Int) := by rw [w64 (by omega) (by omega)]; omega
    have hnext := ih (n + 1) (by omega)
    rw [prv_succ l n hlt, ← hw] at hnext
    have hpl := pts_len l[n].f0
    have hnl := nrm_length 1 (pts l[n].f0)
    have fin : ∀ z, Ev (fun k => spec_CollatorFault.j2 k (n : Int) z l b c l[n].f0 l[n].f1) (if z = true then 1 else if l[n].f1.all okE = true then cfl (some l[n].f0) (l.drop (n + 1)) else 1) := fun z => by
      refine Ev.succ ?_
      cases z with
      | true => simp only [spec_CollatorFault.j2, if_true]; exact Ev.now _
      | false =>
        simp only [spec_CollatorFault.j2, Bool.false_eq_true, if_false]
        have := spec_l1 l b c hl hy n l[n].f0 l[n].f1 hyn.2 _ hnext l[n].f1.length 0 (by omega)
        rw [List.drop_zero] at this
        exact this
    have bad : badS l[n].f0 = true → cfl (prv l n) (l[n] :: l.drop (n + 1)) = 1 := fun h => by rw [cfl, bad_eq, if_pos h]
    rw [List.drop_eq_getElem_cons hlt]
    refine Ev.succ ?_
    simp only [spec_CollatorFault.l0, if_pos (show (n : Int) < (l.length : Int) by omega), if_pos (show (0 : Int) ≤ (n : Int) by omega), rdIN l n hlt, spec_l11D.f]
    refine Ev.bind (g := fun k => (spec_l01Points.f k l[n].f0).bind fun t252 => ((spec_l05Norm.f k 1 t252).bind fun t255 => (some t255))) (a := nrm 1 (pts l[n].f0)) ?_ ?_
    · refine Ev.bind (g := fun k => spec_l01Points.f k l[n].f0) (a := pts l[n].f0) (Ev.from_ (l[n].f0.size + 13) (fun k hk => specPoints_eq _ k hk hyn.1)) ?_
      exact Ev.bind (g := fun k => spec_l05Norm.f k 1 (pts l[n].f0)) (spec_nrm 1 one14 (pts l[n].f0) (by omega) (pts_ok _)) (Ev.now _)
    by_cases c1 : ((nrm 1 (pts l[n].f0)).length : Int) < 1
    · simp only [if_pos c1]
      rw [bad (by unfold badS; rw [decide_eq_true (show (nrm 1 (pts l[n].f0)).length < 1 by omega)]; simp)]
      have := fin true
      rw [if_pos rfl] at this
      exact this
    · by_cases c3 : ((nrm 1 (pts l[n].f0)).length : Int) > 3
      · simp only [if_neg c1, if_pos c3]
        rw [bad (by unfold badS; rw [decide_eq_true (show (nrm 1 (pts l[n].f0)).length > 3 by omega)]; simp)]
        have := fin true
        rw [if_pos rfl] at this
        exact this
      · simp only [if_neg c1, if_neg c3]
        refine Ev.bind (g := fun k => spec_l01Text.f k (nrm 1 (pts l[n].f0))) (a := txt 1 l[n].f0) (Ev.from_ ((nrm 1 (pts l[n].f0)).length + 2) (fun k hk => specText_eq _ k hk (by omega))) ?_
        by_cases hx : (txt 1 l[n].f0).toList = l[n].f0.toList
        · simp only [if_pos hx]
          have hok : badS l[n].f0 = false := by unfold badS; rw [hx, decide_eq_false (show ¬ (nrm 1 (pts l[n].f0)).length < 1 by omega), decide_eq_false (show ¬ (nrm 1 (pts l[n].f0)).length > 3 by omega)]; simp
          rw [cfl, bad_eq, hok, if_neg (by decide)]
          cases n with
          | zero =>
            simp only [if_neg (show ¬ ((0 : Nat) : Int) > 0 by omega)]
            have := fin (decide ((l[0].f1.length : Int) > 20))
            rw [prv_zero]
            exact this
          | succ m =>
            have hw1 : wrap64 (((m + 1 : Nat) : Int) - 1) = (m : Int) := by rw [w64 (by omega) (by omega)]; omega
            simp only [if_pos (show ((m + 1 : Nat) : Int) > 0 by omega), hw1, if_pos (show (0 : Int) ≤ (m : Int) by omega), if_pos (show (m : Int) < (l.length : Int) by omega), rdIN l m (by omega)]
            rw [prv_succ l m (by omega)]
            unfold ahd
            by_cases hb : (Op.bytesLess (l[m].f0.toList) (l[m + 1].f0.toList)) = true
            · simp only [if_pos hb]; exact fin _
            · simp only [if_neg hb]; exact fin _
        · simp only [if_neg hx]
          rw [bad (by unfold badS; rw [show ((txt 1 l[n].f0).toList == l[n].f0.toList) = false from by rw [beq_eq_false_iff_ne]; exact hx]; simp)]
          have := fin true
          rw [if_pos rfl] at this
          exact this
theorem both (l : List IN) (b : Int) (c : Bool) (hl : l.length ≤ 1048576) (hy : ∀ y ∈ l, y.f0.size ≤ 1048576 ∧ y.f1.length ≤ 1048576) : ∃ r, Ev (fun k => spec_CollatorFault.f k l b c) r ∧ Ev (fun k => impl_CollatorFault.f k l b c) r := by
  have s0 : Ev (fun k => spec_CollatorFault.j0 k true l b c) 1 := by
    refine Ev.succ ?_
    simp only [spec_CollatorFault.j0, if_true]; exact Ev.now _
  have i0 : Ev (fun k => impl_CollatorFault.j0 k true l b c) 1 := by
    refine Ev.succ ?_
    simp only [impl_CollatorFault.j0, if_true]; exact Ev.now _
  unfold spec_CollatorFault.f impl_CollatorFault.f
  by_cases h1 : b < 1
  · simp only [if_pos h1]; exact ⟨1, s0, i0⟩
  · by_cases h2 : b > 4
    · simp only [if_neg h1, if_pos h2]; exact ⟨1, s0, i0⟩
    · simp only [if_neg h1, if_neg h2]
      by_cases h3 : (l.length : Int) > 200
      · simp only [decide_eq_true h3]; exact ⟨1, s0, i0⟩
      · simp only [decide_eq_false h3]
        refine ⟨cfl none l, ?_, ?_⟩
        · refine Ev.succ ?_
          simp only [spec_CollatorFault.j0, Bool.false_eq_true, if_false]
          have := spec_l0 l b c hl hy l.length 0 (by omega)
          rw [prv_zero, List.drop_zero] at this
          exact this
        · refine Ev.succ ?_
          simp only [impl_CollatorFault.j0, Bool.false_eq_true, if_false]
          have := impl_l0 l b c hl hy l.length 0 (by omega)
          rw [prv_zero, List.drop_zero] at this
          exact this
theorem FnExactCollatorFault : laws_FnExactCollatorFault.Pure := by
  intro l b c hl hb
  refine Ev.rounds (g := fun k => laws_FnExactCollatorFault.f k l b c) ?_
  unfold laws_FnExactCollatorFault.f
  rcases sz_all l b c (Nat.le_trans hl.1 (by decide)) hl.2 with h | ⟨r, h0, h1, h2, h3⟩
  · refine Ev.bind (g := fun k => laws_szCollator.f k l b c 1048576) h ?_
    simp only [if_pos (show (-1 : Int) < 0 by omega)]
    exact Ev.now _
  refine Ev.bind (g := fun k => laws_szCollator.f k l b c 1048576) h1 ?_
  simp only [if_neg (show ¬ r < 0 by omega)]
  have ht := toC_eq l b c h2 (fun y hy => (h3 y hy).2)
  have hl2 : (l.map cN).length ≤ 1048576 := by rw [List.length_map]; exact h2
  have hy2 : ∀ y ∈ l.map cN, y.f0.size ≤ 1048576 ∧ y.f1.length ≤ 1048576 := fun y hy => by
    obtain ⟨x, hx, rfl⟩ := List.mem_map.1 hy
    have := h3 x hx
    exact ⟨this.1, by show (x.f1.map cE).length ≤ 1048576; rw [List.length_map]; exact this.2⟩
  obtain ⟨v, e1, e2⟩ := both (l.map cN) b c hl2 hy2
  refine Ev.bind (g := fun k => laws_toCollator.f k l b c) ht ?_
  refine Ev.bind (g := fun k => spec_CollatorFault.f k (l.map cN) b c) e1 ?_
  refine Ev.bind (g := fun k => laws_toCollator.f k l b c) ht ?_
  refine Ev.bind (g := fun k => impl_CollatorFault.f k (l.map cN) b c) e2 ?_
  simp only [if_true]
  refine Ev.bind (g := fun k => laws_toCollator.f k l b c) ht ?_
  refine Ev.bind (g := fun k => laws_eqCollator.f k (l.map cN) b c (l.map cN) b c) (eqC _ b c hl2 (fun y hy => (hy2 y hy).2)) ?_
  simp only [if_true]
  exact Ev.now _
end Go.Proofs.YtnbedmihgnjdpaaDoor.Pure

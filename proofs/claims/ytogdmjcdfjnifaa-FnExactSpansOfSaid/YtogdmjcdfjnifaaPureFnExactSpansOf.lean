/- The program's SpansOf returns what the reference's returns. For every input: the law answers true; each argument reads afterwards as it read before. -/
import Derived.Test.YtogdmjcdfjnifaaKindSpansOf
import Derived.Test.YtogdmjcdfjnifaaOutSpanSSpansOf
import Derived.Test.YtogdmjcdfjnifaaEvKit
set_option linter.unusedSimpArgs false
set_option linter.unusedVariables false
namespace Go.Proofs.Ytogdmjcdfjnifaa.Pure
open Go.RowKit Go.Proofs.Ytogdmjcdfjnifaa.PFnExactSpansOf Go.Proofs.YtogdmjcdfjnifaaW.PrintWords Go.Proofs.YtogdmjcdfjnifaaW.PrintLast Go.Proofs.YtogdmjcdfjnifaaW.PrintMore Go.Proofs.Ytogdmjcdfjnifaa.Lib Go.Proofs.Ytogdmjcdfjnifaa.EvKit

/-! ### the edges -/
def edgesE : List Int := [0, 32, 33, 48, 58, 65, 91, 97, 123, 127, 160, 161, 173, 174, 192, 512, 544, 576, 580, 584, 588, 592, 602, 608, 610, 768, 800, 832, 836, 840, 844, 848, 858, 864, 866, 1024, 1056, 1088, 1092, 1096, 1100, 1104, 1114, 1120, 1122, 1280, 1312, 1360, 1370, 1536, 1568, 1580, 1584, 1585, 1586, 1616, 1626, 1792, 1811, 1824, 1845, 1857, 1884, 2048, 2096, 4096, 4112, 4128, 4136, 4144, 4152, 4160, 7680, 7749, 7760, 7786, 7936, 7948, 7953, 7955, 8064, 8065, 8192, 8400, 8608, 8704, 8912, 9120, 9216, 9424, 9632, 9728, 9754, 9984, 10010, 10016, 10026, 10032, 10036, 12288, 23460, 24576, 26624, 32768]
set_option maxRecDepth 100000 in
theorem edges_20000 : spec_l01Edges.f 9000 = some edgesE := by decide +kernel
theorem edges_ev : Ev (fun k => spec_l01Edges.f k) edgesE := Ev.of (fun k => spec_l01Edges.mono k) edges_20000
theorem edges_up : edgesE.Pairwise (· < ·) := by decide +kernel
theorem edges_len : edgesE.length = 104 := by decide +kernel
theorem edges_first : edgesE[0]'(by rw [edges_len]; omega) = 0 := by decide +kernel
theorem edges_last : edgesE[103]'(by rw [edges_len]; omega) = 32768 := by decide +kernel
/-! ### what is told of a point does not change between two edges -/
theorem find_const (B : List Int) (p q : Int) (hpq : p ≤ q) (hB : ∀ x ∈ B, x ≤ p ∨ q < x) : ∀ T : List Rw, edged T B = true → findT T p = findT T q
  | [], _ => rfl
  | r :: T, h => by
    simp only [edged, List.all_cons, Bool.and_eq_true, List.contains_iff_mem] at h
    have ih := find_const B p q hpq hB T (by simpa [edged] using h.2)
    have e1 := hB _ h.1.1
    have e2 := hB _ h.1.2
    unfold findT
    by_cases c : r.a ≤ p ∧ p ≤ r.b
    · rw [if_pos c, if_pos (by omega)]
    · rw [if_neg c, if_neg (by omega)]
      exact ih
theorem find_skip (p : Int) : ∀ (A B : List Rw), (∀ r ∈ A, ¬ (r.a ≤ p ∧ p ≤ r.b)) → findT (A ++ B) p = findT B p
  | [], _, _ => rfl
  | r :: A, B, h => by
    rw [List.cons_append, findT, if_neg (h r (by simp))]
    exact find_skip p A B (fun x hx => h x (by simp [hx]))
def casedA : List Rw := ([512, 768, 1024] : List Int).flatMap (fun b => casedT.map (fun r => ⟨b + r.f0, b + r.f1, r.f2, b / 256⟩)) ++ [⟨512, 1279, 0, 0⟩]
def blockA : List Rw := [⟨8192, 8399, 4, 1⟩, ⟨8400, 8607, 5, 1⟩, ⟨8704, 8911, 4, 1⟩, ⟨8912, 9119, 5, 1⟩, ⟨9216, 9423, 4, 1⟩, ⟨9424, 9631, 5, 1⟩, ⟨8192, 9727, 0, 0⟩]
def allA : List Rw := casedA ++ (blockA ++ rowsT.map asRw)
theorem kind_all (p : Int) (h0 : 0 ≤ p) (h1 : p < 32768) : kindOf p = findT allA p := by
  by_cases c : 512 ≤ p ∧ p < 1280
  · obtain ⟨n, hn, hp⟩ : ∃ n : Nat, n < 768 ∧ p = 512 + (n : Int) := ⟨(p - 512).toNat, by omega, by omega⟩
    have key : ∀ m : Fin 768, kindOf (512 + (m.val : Int)) = findT allA (512 + (m.val : Int)) := by decide +kernel
    rw [hp]
    exact key ⟨n, hn⟩
  · by_cases d : 8192 ≤ p ∧ p < 9728
    · obtain ⟨n, hn, hp⟩ : ∃ n : Nat, n < 1536 ∧ p = 8192 + (n : Int) := ⟨(p - 8192).toNat, by omega, by omega⟩
      have key : ∀ m : Fin 1536, kindOf (8192 + (m.val : Int)) = findT allA (8192 + (m.val : Int)) := by decide +kernel
      rw [hp]
      exact key ⟨n, hn⟩
    · have hA : ∀ r ∈ casedA, 512 ≤ r.a ∧ r.b < 1280 := by
        have : casedA.all (fun r => decide (512 ≤ r.a) && decide (r.b < 1280)) = true := by decide +kernel
        intro r hr
        have := List.all_eq_true.1 this r hr
        simpa using this
      have hB : ∀ r ∈ blockA, 8192 ≤ r.a ∧ r.b < 9728 := by
        have : blockA.all (fun r => decide (8192 ≤ r.a) && decide (r.b < 9728)) = true := by decide +kernel
        intro r hr
        have := List.all_eq_true.1 this r hr
        simpa using this
      unfold kindOf allA
      rw [if_neg c, if_neg d, find_skip p casedA _ (fun r hr h => by have := hA r hr; omega), find_skip p blockA _ (fun r hr h => by have := hB r hr; omega), rows_agree p (by omega)]
theorem all_edged : edged allA edgesE = true := by decide +kernel
def classA : List Rw := [⟨1584, 1584, 9, 0⟩, ⟨1585, 1585, 7, 0⟩, ⟨4096, 4111, 230, 0⟩, ⟨4112, 4127, 220, 0⟩, ⟨4128, 4135, 202, 0⟩, ⟨4136, 4143, 1, 0⟩, ⟨4144, 4151, 232, 0⟩]
theorem class_edged : edged classA edgesE = true := by decide +kernel
def ageOf (p : Int) : Int := if (kindOf p).1 = 0 then 0 else if p < 4096 then 1 else if p < 12288 then 2 else if p < 24576 then 3 else 4
def whatV (a p : Int) : Int := if a = 1 then (kindOf p).1 else if a = 2 then (kindOf p).2 else if a = 3 then (findT classA p).1 else ageOf p
theorem what_const (a p q : Int) (h0 : 0 ≤ p) (hpq : p ≤ q) (h1 : q < 32768) (hE : ∀ x ∈ edgesE, x ≤ p ∨ q < x) : whatV a p = whatV a q := by
  have hk : kindOf p = kindOf q := by
    rw [kind_all p h0 (by omega), kind_all q (by omega) h1]
    exact find_const edgesE p q hpq hE allA all_edged
  have hc : findT classA p = findT classA q := find_const edgesE p q hpq hE classA class_edged
  have e1 := hE 4096 (by decide +kernel)
  have e2 := hE 12288 (by decide +kernel)
  have e3 := hE 24576 (by decide +kernel)
  unfold whatV ageOf
  rw [hk, hc]
  have f1 : (p < 4096) = (q < 4096) := propext (by omega)
  have f2 : (p < 12288) = (q < 12288) := propext (by omega)
  have f3 : (p < 24576) = (q < 24576) := propext (by omega)
  simp only [f1, f2, f3]
theorem class_impl (p : Int) : impl_MarkClass.f p = some (findT classA p).1 := by
  unfold impl_MarkClass.f impl_in.f classA
  simp only [findT]
  by_cases h1 : p = 1584
  · rw [if_pos h1, if_pos (by omega)]
  rw [if_neg h1, if_neg (show ¬ (1584 ≤ p ∧ p ≤ 1584) by omega)]
  by_cases h2 : p = 1585
  · rw [if_pos h2, if_pos (by omega)]
  rw [if_neg h2, if_neg (show ¬ (1585 ≤ p ∧ p ≤ 1585) by omega)]
  by_cases h3 : p ≥ 4096
  · rw [if_pos h3, Option.bind_some]
    by_cases h4 : p ≤ 4159
    · rw [if_pos (decide_eq_true h4)]
      by_cases c1 : p < 4112
      · rw [if_pos c1, if_pos (by omega)]
      rw [if_neg c1, if_neg (show ¬ (4096 ≤ p ∧ p ≤ 4111) by omega)]
      by_cases c2 : p < 4128
      · rw [if_pos c2, if_pos (by omega)]
      rw [if_neg c2, if_neg (show ¬ (4112 ≤ p ∧ p ≤ 4127) by omega)]
      by_cases c3 : p < 4136
      · rw [if_pos c3, if_pos (by omega)]
      rw [if_neg c3, if_neg (show ¬ (4128 ≤ p ∧ p ≤ 4135) by omega)]
      by_cases c4 : p < 4144
      · rw [if_pos c4, if_pos (by omega)]
      rw [if_neg c4, if_neg (show ¬ (4136 ≤ p ∧ p ≤ 4143) by omega)]
      by_cases c5 : p < 4152
      · rw [if_pos c5, if_pos (by omega)]
      rw [if_neg c5, if_neg (show ¬ (4144 ≤ p ∧ p ≤ 4151) by omega)]
    · rw [if_neg (by simpa using h4), if_neg (show ¬ (4096 ≤ p ∧ p ≤ 4111) by omega), if_neg (show ¬ (4112 ≤ p ∧ p ≤ 4127) by omega), if_neg (show ¬ (4128 ≤ p ∧ p ≤ 4135) by omega), if_neg (show ¬ (4136 ≤ p ∧ p ≤ 4143) by omega), if_neg (show ¬ (4144 ≤ p ∧ p ≤ 4151) by omega)]
  · rw [if_neg h3, Option.bind_some, if_neg (by decide), if_neg (show ¬ (4096 ≤ p ∧ p ≤ 4111) by omega), if_neg (show ¬ (4112 ≤ p ∧ p ≤ 4127) by omega), if_neg (show ¬ (4128 ≤ p ∧ p ≤ 4135) by omega), if_neg (show ¬ (4136 ≤ p ∧ p ≤ 4143) by omega), if_neg (show ¬ (4144 ≤ p ∧ p ≤ 4151) by omega)]
theorem class_spec (p : Int) (h0 : 0 ≤ p) (h1 : p < 32768) (k : Nat) : spec_l01Class.f (k + 1) p = some (findT classA p).1 := by
  rw [← class_impl]
  unfold spec_l01Class.f impl_MarkClass.f impl_in.f
  by_cases h1 : p = 1584
  · rw [if_pos h1, if_pos h1]
  by_cases h2 : p = 1585
  · rw [if_neg h1, if_neg h1, if_pos h2, if_pos h2]
  rw [if_neg h1, if_neg h1, if_neg h2, if_neg h2]
  by_cases h3 : p < 4096
  · rw [if_pos h3, if_neg (show ¬ p ≥ 4096 by omega)]; simp [spec_l01Class.j0]
  rw [if_neg h3, if_pos (show p ≥ 4096 by omega)]
  by_cases h4 : p > 4159
  · simp [spec_l01Class.j0, h4, show ¬ p ≤ 4159 by omega]
  have e : wrap64 (p - 4096) = p - 4096 := w64 (by omega) (by omega)
  simp only [spec_l01Class.j0, e, decide_eq_true_eq, if_neg h4, Option.bind_some, show p ≤ 4159 by omega, if_true,
    show (p - 4096 < 16) = (p < 4112) from propext ⟨by omega, by omega⟩, show (p - 4096 < 32) = (p < 4128) from propext ⟨by omega, by omega⟩,
    show (p - 4096 < 40) = (p < 4136) from propext ⟨by omega, by omega⟩, show (p - 4096 < 48) = (p < 4144) from propext ⟨by omega, by omega⟩,
    show (p - 4096 < 56) = (p < 4152) from propext ⟨by omega, by omega⟩]
theorem what_impl (a p : Int) (h0 : 0 ≤ p) (h1 : p < 32768) (k : Nat) (hk : 42 ≤ k) : impl_what.f k a p = some (whatV a p) := by
  unfold impl_what.f whatV impl_Category.f impl_Script.f impl_Age.f impl_Category.f
  rw [kind_eq k (by omega) p (by omega), class_impl]
  simp only [Option.bind_some]
  split
  · rfl
  · split
    · rfl
    · split
      · rfl
      · unfold ageOf
        repeat' split
        all_goals first | rfl | (exfalso; omega) | simp_all
theorem what_spec (a p : Int) (h0 : 0 ≤ p) (h1 : p < 32768) (k : Nat) (hk : 42 ≤ k) : spec_l01What.f k a p = some (whatV a p) := by
  obtain ⟨k, rfl⟩ : ∃ m, k = m + 1 := ⟨k - 1, by omega⟩
  unfold spec_l01What.f whatV spec_l01Cat.f spec_l01Script.f spec_l01Age.f spec_l01Cat.f
  rw [known_eq (k + 1) (by omega) p (by omega), class_spec p h0 h1 k]
  simp only [Option.bind_some]
  split
  · rfl
  · split
    · rfl
    · split
      · rfl
      · unfold ageOf
        repeat' split
        all_goals first | rfl | (exfalso; omega) | simp_all
/-! ### values as spans, point by point and block by block -/
abbrev Sp := S57
abbrev rdP (l : List Sp) (i : Int) : Sp := rd_T57 l i
/-- The values from p to q are all v. -/
def blockR (out : List Sp) (p q v : Int) : List Sp :=
  if (out.length : Int) > 0 then (if (rdP out ((out.length : Int) - 1)).f2 = v then out.set ((out.length : Int) - 1).toNat ⟨(rdP out ((out.length : Int) - 1)).f0, q, (rdP out ((out.length : Int) - 1)).f2⟩ else out ++ [⟨p, q, v⟩]) else out ++ [⟨p, q, v⟩]
def foldV (f : Int → Int) : Nat → Int → List Sp → List Sp
  | 0, _, out => out
  | n + 1, p, out => foldV f n (p + 1) (blockR out p p (f p))
theorem row_cases (out : List Sp) : out = [] ∨ ∃ R s, out = R ++ [s] := by
  rcases List.eq_nil_or_concat out with h | ⟨R, s, h⟩
  · exact .inl h
  · exact .inr ⟨R, s, by simpa using h⟩
theorem last_rd (R : List Sp) (s : Sp) : rdP (R ++ [s]) (((R ++ [s]).length : Int) - 1) = s := by
  have : (((R ++ [s]).length : Int) - 1) = ((R.length : Nat) : Int) := by simp
  rw [this]
  have := rdO_nat (R ++ [s]) R.length (by simp)
  rw [show rdP (R ++ [s]) ((R.length : Nat) : Int) = rd_T57 (R ++ [s]) ((R.length : Nat) : Int) from rfl, this]
  simp
theorem last_set (R : List Sp) (s t : Sp) : (R ++ [s]).set (((R ++ [s]).length : Int) - 1).toNat t = R ++ [t] := by
  have : (((R ++ [s]).length : Int) - 1).toNat = R.length := by simp
  rw [this]
  simp
theorem last_pos (R : List Sp) (s : Sp) : ((R ++ [s]).length : Int) > 0 := by simp
theorem blockR_nil (p q v : Int) : blockR [] p q v = [⟨p, q, v⟩] := by simp [blockR]
theorem blockR_on (R : List Sp) (s : Sp) (p q v : Int) : blockR (R ++ [s]) p q v = if s.f2 = v then R ++ [⟨s.f0, q, s.f2⟩] else (R ++ [s]) ++ [⟨p, q, v⟩] := by
  unfold blockR
  rw [if_pos (last_pos R s), last_rd, last_set]
theorem blockR_twice (out : List Sp) (p q r v : Int) : blockR (blockR out p q v) (q + 1) r v = blockR out p r v := by
  rcases row_cases out with rfl | ⟨R, s, rfl⟩
  · rw [blockR_nil, blockR_nil, show [(⟨p, q, v⟩ : Sp)] = [] ++ [⟨p, q, v⟩] from rfl, blockR_on, if_pos rfl]
    rfl
  · rw [blockR_on, blockR_on]
    by_cases c : s.f2 = v
    · rw [if_pos c, if_pos c, blockR_on, if_pos c]
    · rw [if_neg c, if_neg c, blockR_on, if_pos rfl]
theorem foldV_add (f : Int → Int) : ∀ (m n : Nat) (p : Int) (out : List Sp), foldV f (m + n) p out = foldV f n (p + m) (foldV f m p out)
  | 0, n, p, out => by simp [foldV]
  | m + 1, n, p, out => by
    rw [show m + 1 + n = (m + n) + 1 by omega, foldV, foldV, foldV_add f m n (p + 1), show p + 1 + (m : Int) = p + ((m + 1 : Nat) : Int) by omega]
theorem foldV_block (f : Int → Int) (v : Int) : ∀ (n : Nat) (p : Int) (out : List Sp), (∀ q, p ≤ q → q < p + ((n + 1 : Nat) : Int) → f q = v) → foldV f (n + 1) p out = blockR out p (p + n) v
  | 0, p, out, h => by
    rw [foldV, foldV, h p (Int.le_refl _) (by omega)]
    simp
  | n + 1, p, out, h => by
    rw [foldV, h p (Int.le_refl _) (by omega), foldV_block f v n (p + 1) _ (fun q h1 h2 => h q (by omega) (by omega)), blockR_twice]
    congr 1
    omega
theorem blockR_len (out : List Sp) (p q v : Int) : (blockR out p q v).length ≤ out.length + 1 := by
  rcases row_cases out with rfl | ⟨R, s, rfl⟩
  · rw [blockR_nil]; simp
  · rw [blockR_on]; split <;> simp
theorem foldV_len (f : Int → Int) : ∀ (n : Nat) (p : Int) (out : List Sp), (foldV f n p out).length ≤ out.length + n
  | 0, p, out => by simp [foldV]
  | n + 1, p, out => by
    have h1 := foldV_len f n (p + 1) (blockR out p p (f p))
    have h2 := blockR_len out p p (f p)
    rw [foldV]; omega
theorem runs_ev (a : Int) (N : Nat) (hN : N = 32768) : ∀ (d n : Nat) (out : List Sp), n + d = N → out.length ≤ n → Ev (fun k => impl_runs.l0 k a out (n : Int)) (foldV (whatV a) d (n : Int) out) := by
  intro d
  induction d with
  | zero =>
    intro n out hn ho
    rw [foldV]
    refine succ_ ?_
    simp only [impl_runs.l0, if_neg (show ¬ (n : Int) ≤ 32767 by omega)]
    exact Ev.now _
  | succ d ih =>
    intro n out hn ho
    rw [foldV]
    have hlen := blockR_len out (n : Int) (n : Int) (whatV a (n : Int))
    have hnx := ih (n + 1) (blockR out (n : Int) (n : Int) (whatV a (n : Int))) (by omega) (by omega)
    rw [show ((n + 1 : Nat) : Int) = (n : Int) + 1 by omega] at hnx
    have hw : wrap64 ((n : Int) + 1) = (n : Int) + 1 := w64 (by omega) (by omega)
    refine succ_ ?_
    simp only [impl_runs.l0, if_pos (show (n : Int) ≤ 32767 by omega), hw, if_pos (show out.length < 5864062014805 by omega)]
    refine Ev.bind (g := fun k => impl_what.f k a (n : Int)) (a := whatV a (n : Int)) (from_ 42 (fun k hk => what_impl a (n : Int) (by omega) (by omega) k hk)) ?_
    by_cases c : (out.length : Int) > 0
    · have hl : wrap64 ((out.length : Int) - 1) = (out.length : Int) - 1 := by rw [w64 (by omega) (by omega)]
      simp only [if_pos c, hl, if_pos (show (0 : Int) ≤ (out.length : Int) - 1 by omega), if_pos (show (out.length : Int) - 1 < (out.length : Int) by omega)]
      by_cases e : (rdP out ((out.length : Int) - 1)).f2 = whatV a (n : Int)
      · simp only [if_pos e]
        have hb : blockR out (n : Int) (n : Int) (whatV a (n : Int)) = out.set ((out.length : Int) - 1).toNat ⟨(rdP out ((out.length : Int) - 1)).f0, (n : Int), (rdP out ((out.length : Int) - 1)).f2⟩ := by
          unfold blockR
          rw [if_pos c, if_pos e]
        rw [hb] at hnx ⊢
        exact hnx
      · simp only [if_neg e]
        have hb : blockR out (n : Int) (n : Int) (whatV a (n : Int)) = out ++ [⟨(n : Int), (n : Int), whatV a (n : Int)⟩] := by
          unfold blockR
          rw [if_pos c, if_neg e]
        rw [hb] at hnx ⊢
        exact hnx
    · simp only [if_neg c]
      have hb : blockR out (n : Int) (n : Int) (whatV a (n : Int)) = out ++ [⟨(n : Int), (n : Int), whatV a (n : Int)⟩] := by
        unfold blockR
        rw [if_neg c]
      rw [hb] at hnx ⊢
      exact hnx
theorem spec_ev (a : Int) (N : Nat) (hN : N = 32768) : ∀ (d i : Nat) (out : List Sp) (hi : i + 1 + d = edgesE.length), out.length ≤ i →
    Ev (fun k => spec_SpansOf.l0 k a out edgesE (i : Int)) (foldV (whatV a) ((N : Int) - edgesE[i]).toNat edgesE[i] out) := by
  have hlen := edges_len
  have hup := List.pairwise_iff_getElem.1 edges_up
  intro d
  induction d with
  | zero =>
    intro i out hi ho
    have hi' : i = 103 := by omega
    subst hi'
    have hz : ((N : Int) - edgesE[103]).toNat = 0 := by rw [edges_last]; omega
    rw [hz, foldV]
    have hw : wrap64 (((103 : Nat) : Int) + 1) = 104 := by rw [w64 (by omega) (by omega)]; rfl
    refine succ_ ?_
    simp only [spec_SpansOf.l0, hw, if_neg (show ¬ (104 : Int) < (edgesE.length : Int) by omega)]
    exact Ev.now _
  | succ d ih =>
    intro i out hi ho
    have hlt : i + 1 < edgesE.length := by omega
    have hw : wrap64 ((i : Int) + 1) = ((i + 1 : Nat) : Int) := by rw [w64 (by omega) (by omega)]; omega
    have hfirst : 0 ≤ edgesE[i] := by
      by_cases z : i = 0
      · subst z; rw [edges_first]; exact Int.le_refl _
      · have h := hup 0 i (by omega) (by omega) (by omega)
        rw [edges_first] at h
        omega
    have hlast : edgesE[i + 1] ≤ 32768 := by
      by_cases z : i + 1 = 103
      · have : edgesE[i + 1] = edgesE[103] := by congr 1
        rw [this, edges_last]; exact Int.le_refl _
      · have h := hup (i + 1) 103 hlt (by omega) (by omega)
        rw [edges_last] at h
        omega
    have hinc : edgesE[i] < edgesE[i + 1] := hup i (i + 1) (by omega) hlt (by omega)
    have hr0 : rd edgesE (i : Int) = edgesE[i] := rd_nat edgesE i (by omega)
    have hr1 : rd edgesE ((i + 1 : Nat) : Int) = edgesE[i + 1] := rd_nat edgesE (i + 1) hlt
    have hq : wrap64 (edgesE[i + 1] - 1) = edgesE[i + 1] - 1 := w64 (by omega) (by omega)
    obtain ⟨m, hm⟩ : ∃ m : Nat, (m : Int) + 1 = edgesE[i + 1] - edgesE[i] := ⟨(edgesE[i + 1] - edgesE[i] - 1).toNat, by omega⟩
    have hsplit : ((N : Int) - edgesE[i]).toNat = (m + 1) + ((N : Int) - edgesE[i + 1]).toNat := by omega
    have hst : edgesE[i] + ((m + 1 : Nat) : Int) = edgesE[i + 1] := by omega
    have hcon : ∀ q, edgesE[i] ≤ q → q < edgesE[i] + ((m + 1 : Nat) : Int) → whatV a q = whatV a edgesE[i] := fun q h1 h2 =>
      (what_const a edgesE[i] q hfirst h1 (by omega) (fun x hx => by
        obtain ⟨j, hj, rfl⟩ := List.mem_iff_getElem.1 hx
        by_cases c : j ≤ i
        · left
          by_cases z : j = i
          · subst z; exact Int.le_refl _
          · exact Int.le_of_lt (hup j i hj (by omega) (by omega))
        · right
          have : edgesE[i + 1] ≤ edgesE[j] := by
            by_cases z : j = i + 1
            · subst z; exact Int.le_refl _
            · exact Int.le_of_lt (hup (i + 1) j hlt hj (by omega))
          omega)).symm
    have hblk : foldV (whatV a) (m + 1) edgesE[i] out = blockR out edgesE[i] (edgesE[i + 1] - 1) (whatV a edgesE[i]) := by
      rw [foldV_block (whatV a) (whatV a edgesE[i]) m edgesE[i] out hcon, show edgesE[i] + (m : Int) = edgesE[i + 1] - 1 by omega]
    rw [hsplit, foldV_add, hblk, hst]
    have hlen2 := blockR_len out edgesE[i] (edgesE[i + 1] - 1) (whatV a edgesE[i])
    have hnx := ih (i + 1) (blockR out edgesE[i] (edgesE[i + 1] - 1) (whatV a edgesE[i])) (by omega) (by omega)
    refine succ_ ?_
    simp only [spec_SpansOf.l0, hw, if_pos (show ((i + 1 : Nat) : Int) < (edgesE.length : Int) by omega), if_pos (show (0 : Int) ≤ (i : Int) by omega), if_pos (show (i : Int) < (edgesE.length : Int) by omega), if_pos (show (0 : Int) ≤ ((i + 1 : Nat) : Int) by omega), hr0, hr1, hq, if_pos (show out.length < 5864062014805 by omega)]
    refine Ev.bind (g := fun k => spec_l01What.f k a edgesE[i]) (a := whatV a edgesE[i]) (from_ 42 (fun k hk => what_spec a edgesE[i] hfirst (by omega) k hk)) ?_
    by_cases c : (out.length : Int) > 0
    · have hl : wrap64 ((out.length : Int) - 1) = (out.length : Int) - 1 := by rw [w64 (by omega) (by omega)]
      simp only [if_pos c, hl, if_pos (show (0 : Int) ≤ (out.length : Int) - 1 by omega), if_pos (show (out.length : Int) - 1 < (out.length : Int) by omega)]
      by_cases e : (rdP out ((out.length : Int) - 1)).f2 = whatV a edgesE[i]
      · simp only [if_pos e]
        have hb : blockR out edgesE[i] (edgesE[i + 1] - 1) (whatV a edgesE[i]) = out.set ((out.length : Int) - 1).toNat ⟨(rdP out ((out.length : Int) - 1)).f0, edgesE[i + 1] - 1, (rdP out ((out.length : Int) - 1)).f2⟩ := by
          unfold blockR
          rw [if_pos c, if_pos e]
        rw [hb] at hnx ⊢
        exact hnx
      · simp only [if_neg e]
        have hb : blockR out edgesE[i] (edgesE[i + 1] - 1) (whatV a edgesE[i]) = out ++ [⟨edgesE[i], edgesE[i + 1] - 1, whatV a edgesE[i]⟩] := by
          unfold blockR
          rw [if_pos c, if_neg e]
        rw [hb] at hnx ⊢
        exact hnx
    · simp only [if_neg c]
      have hb : blockR out edgesE[i] (edgesE[i + 1] - 1) (whatV a edgesE[i]) = out ++ [⟨edgesE[i], edgesE[i + 1] - 1, whatV a edgesE[i]⟩] := by
        unfold blockR
        rw [if_neg c]
      rw [hb] at hnx ⊢
      exact hnx
theorem both (a : Int) (hw : (Lit.int .i64 a).wf = true) : ∃ r : List Sp, r.length ≤ 32768 ∧ Ev (fun k => spec_SpansOf.f k a) r ∧ Ev (fun k => impl_SpansOf.f k a) r := by
  unfold spec_SpansOf.f impl_SpansOf.f
  simp only [Option.bind_some, if_pos hw]
  have bad : Ev (fun k => spec_SpansOf.j0 k a [] true) [] := by
    refine succ_ ?_
    simp only [spec_SpansOf.j0, if_true]
    exact Ev.now _
  by_cases h : 1 ≤ a ∧ a ≤ 4
  · obtain ⟨N, hN⟩ : ∃ N : Nat, N = 32768 := ⟨_, rfl⟩
    have hle := foldV_len (whatV a) N 0 []
    rw [List.length_nil] at hle
    refine ⟨foldV (whatV a) N 0 [], by omega, ?_, ?_⟩
    · simp only [if_neg (show ¬ a < 1 by omega), decide_eq_false (show ¬ a > 4 by omega)]
      refine succ_ ?_
      simp only [spec_SpansOf.j0, Bool.false_eq_true, if_false]
      refine Ev.bind (g := fun k => spec_l01Edges.f k) edges_ev ?_
      have hl := edges_len
      have := spec_ev a N hN 103 0 [] (by omega) (by simp)
      rw [edges_first, show ((N : Int) - 0).toNat = N by omega] at this
      exact this
    · simp only [if_pos h]
      exact runs_ev a N hN N 0 [] (by omega) (by simp)
  · refine ⟨[], by simp, ?_, ?_⟩
    · by_cases c : a < 1
      · simp only [if_pos c]
        exact bad
      · simp only [if_neg c, decide_eq_true (show a > 4 by omega)]
        exact bad
    · simp only [if_neg h]
      exact Ev.now _
theorem FnExactSpansOf : laws_FnExactSpansOf.Pure := by
  intro a hw
  refine Ev.rounds (g := fun k => laws_FnExactSpansOf.f k a) ?_
  unfold laws_FnExactSpansOf.f
  obtain ⟨v, hv, e1, e2⟩ := both a hw
  have heq : Ev (fun k => laws_eqSpanS.f k v v) true := from_ (v.length + 1) (fun k hk => eqSpanO_eq v k hk (by omega))
  refine Ev.bind (g := fun k => spec_SpansOf.f k a) e1 ?_
  refine Ev.bind (g := fun k => impl_SpansOf.f k a) e2 ?_
  refine Ev.bind (g := fun k => laws_eqSpanS.f k v v) heq ?_
  simp only [if_true]
  have hmk : Ev (fun k => laws_markSpanS.f k v 1) (3 * (v.length : Int) + 1, marksS v.length) := from_ (v.length + 1) (fun k hk => markSpanS_eq v k hk (by omega))
  have hhd : Ev (fun k => laws_heldSpanS.f k (marksS v.length) 1) (3 * (v.length : Int) + 1) := from_ (v.length + 1) (fun k hk => heldSpanS_eq v.length k hk (by omega))
  refine Ev.bind (g := fun k => laws_markSpanS.f k v 1) hmk ?_
  refine Ev.bind (g := fun k => laws_heldSpanS.f k (marksS v.length) 1) hhd ?_
  simp only [if_neg (show ¬ 3 * (v.length : Int) + 1 < 0 by omega), if_true]
  refine Ev.bind (g := fun k => impl_SpansOf.f k a) e2 ?_
  refine Ev.bind (g := fun k => laws_eqSpanS.f k v v) heq ?_
  simp only [if_true]
  refine Ev.bind (g := fun k => laws_heldSpanS.f k (marksS v.length) 1) hhd ?_
  simp only [if_neg (show ¬ 3 * (v.length : Int) + 1 < 0 by omega), if_true]
  exact Ev.now _
end Go.Proofs.Ytogdmjcdfjnifaa.Pure

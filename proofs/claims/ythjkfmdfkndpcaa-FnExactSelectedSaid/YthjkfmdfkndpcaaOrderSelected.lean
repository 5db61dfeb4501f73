/- The order of a row of levels: the program's and the reference's. -/
import Derived.Test.YthjkfmdfkndpcaaPFnExactSelectedx
import Derived.Test.YthjkfmdfkndpcaaLib
import Derived.Test.YthjkfmdfkndpcaaRev
set_option linter.unusedSimpArgs false
set_option linter.unusedVariables false
namespace Go.Proofs.Ythjkfmdfkndpcaa.PFnExactSelected
open Go.RowKit Go.Proofs.YthjkfmdfkndpcaaW.PrintWords Go.Proofs.YthjkfmdfkndpcaaW.PrintLast Go.Proofs.YthjkfmdfkndpcaaW.PrintMore Go.Proofs.Ythjkfmdfkndpcaa.Lib

/-- A cut, mirrored. -/
def rv (y : List Int) (i m : Nat) : List Int := (List.range y.length).map fun t => if i ≤ t ∧ t < m then y.getD (i + m - 1 - t) 0 else y.getD t 0
theorem rv_length (y : List Int) (i m : Nat) : (rv y i m).length = y.length := by unfold rv; simp
theorem rv_get (y : List Int) (i m t : Nat) (h : t < (rv y i m).length) : (rv y i m)[t] = if i ≤ t ∧ t < m then y.getD (i + m - 1 - t) 0 else y.getD t 0 := by
  simp [rv]
theorem getD_get (y : List Int) (t : Nat) (h : t < y.length) : y.getD t 0 = y[t] := by simp [h]
theorem layR_get : ∀ (ys xs : List Int) (o t : Nat) (h : t < (Rev.layR xs o ys).length), (Rev.layR xs o ys)[t] = if o ≤ t ∧ t < o + ys.length then ys.getD (t - o) 0 else xs.getD t 0
  | [], xs, o, t, h => by
    have h' : t < xs.length := h
    rw [if_neg (by simp), getD_get xs t h']
    rfl
  | y :: r, xs, o, t, h => by
    have hl := Rev.layR_length (y :: r) xs o
    have h' : t < (Rev.layR (xs.set o y) (o + 1) r).length := h
    have e := layR_get r (xs.set o y) (o + 1) t h'
    refine Eq.trans (show (Rev.layR xs o (y :: r))[t] = (Rev.layR (xs.set o y) (o + 1) r)[t] from rfl) (e.trans ?_)
    have ht : t < xs.length := by rw [hl] at h; exact h
    by_cases c : o + 1 ≤ t ∧ t < o + 1 + r.length
    · rw [if_pos c, if_pos (by simp; omega), show t - o = (t - (o + 1)) + 1 by omega]
      simp
    · rw [if_neg c]
      by_cases d : t = o
      · subst d
        rw [if_pos (by simp), getD_get _ _ (by simpa using ht)]
        simp
      · rw [if_neg (by simp; omega), getD_get _ _ (by simpa using ht), getD_get _ _ ht, List.getElem_set_ne (by omega)]
theorem revCut_rv (y : List Int) (i m : Nat) (h0 : i ≤ m) (h1 : m ≤ y.length) : Rev.revCut y (i : Int) (m : Int) = rv y i m := by
  unfold Rev.revCut
  rw [Int.toNat_natCast, Int.toNat_natCast]
  have hl : ((y.drop i).take (m - i)).reverse.length = m - i := by simp; omega
  apply List.ext_getElem
  · rw [Rev.layR_length, rv_length]
  · intro t ha hb
    rw [layR_get, rv_get, hl]
    by_cases c : i ≤ t ∧ t < m
    · rw [if_pos (by omega), if_pos c, getD_get _ _ (by rw [hl]; omega), List.getElem_reverse, List.getElem_take, List.getElem_drop, getD_get _ _ (by omega)]
      congr 1
      simp
      omega
    · rw [if_neg (by omega), if_neg c]
theorem rv_small (y : List Int) (i m : Nat) (h : m ≤ i + 1) : rv y i m = y := by
  apply List.ext_getElem
  · rw [rv_length]
  · intro t ha hb
    rw [rv_get]
    by_cases c : i ≤ t ∧ t < m
    · rw [if_pos c, show i + m - 1 - t = t by omega, getD_get _ _ hb]
    · rw [if_neg c, getD_get _ _ hb]
theorem rv_swap (y : List Int) (a b : Nat) (hab : a < b) (hb : b < y.length) : rv ((y.set a y[b]).set b y[a]) (a + 1) b = rv y a (b + 1) := by
  apply List.ext_getElem
  · rw [rv_length, rv_length]; simp
  · intro t ha hb'
    have ht : t < y.length := by rw [rv_length] at hb'; exact hb'
    rw [rv_get, rv_get]
    by_cases c : a + 1 ≤ t ∧ t < b
    · rw [if_pos c, if_pos (by omega), show a + 1 + b - 1 - t = a + (b + 1) - 1 - t by omega, getD_get _ _ (by simp; omega), getD_get _ _ (by omega), List.getElem_set_ne (by omega), List.getElem_set_ne (by omega)]
    · rw [if_neg c, getD_get _ _ (by simpa using ht)]
      by_cases d : t = b
      · subst d
        rw [List.getElem_set_self, if_pos (by omega), show a + (t + 1) - 1 - t = a by omega, getD_get _ _ (by omega)]
      · rw [List.getElem_set_ne (by omega)]
        by_cases d2 : t = a
        · subst d2
          rw [List.getElem_set_self, if_pos (by omega), show t + (b + 1) - 1 - t = b by omega, getD_get _ _ (by omega)]
        · rw [List.getElem_set_ne (by omega), if_neg (by omega), getD_get _ _ ht]
/-- A row of places. -/
def Good (n : Nat) (x : List Int) : Prop := x.length = n ∧ ∀ y ∈ x, 0 ≤ y ∧ y < (n : Int)
theorem Good.at_ {n : Nat} {x : List Int} (h : Good n x) (t : Nat) (ht : t < x.length) : 0 ≤ x[t] ∧ x[t] < (n : Int) := h.2 _ (List.getElem_mem ht)
theorem Good.rv {n : Nat} {x : List Int} (h : Good n x) (i m : Nat) (hm : m ≤ n) : Good n (rv x i m) := by
  refine ⟨by rw [rv_length]; exact h.1, fun y hy => ?_⟩
  obtain ⟨t, ht, rfl⟩ := List.getElem_of_mem hy
  have ht' : t < x.length := by rw [rv_length] at ht; exact ht
  have hn := h.1
  rw [rv_get]
  split
  · rw [getD_get _ _ (by omega)]; exact h.at_ _ _
  · rw [getD_get _ _ ht']; exact h.at_ _ _
theorem pl {n : Nat} (hn : n ≤ 1000) (j : Nat) (hj : j ≤ n) : wrap64 ((j : Int) + 1) = ((j + 1 : Nat) : Int) := by rw [w64 (by omega) (by omega)]; omega
theorem rdx (x : List Int) (t : Nat) (h : t < x.length) : rd x (t : Int) = x[t] := rd_nat x t h

/-- The reference's exchange. -/
theorem swaps (l : List Int) (h : Int) (m n : Nat) (hn : n ≤ 1000) (hm : m ≤ n) : ∀ (d a b : Nat) (y : List Int), y.length = n → b ≤ a + d → b < n → ∃ c, ∀ K, spec_l09Order.l4 (K + c) l y h (m : Int) (a : Int) (b : Int) = spec_l09Order.l2 K l (rv y a (b + 1)) h ((m + 1 : Nat) : Int) := by
  intro d
  induction d with
  | zero =>
    intro a b y hy hab hb
    refine ⟨1, fun K => ?_⟩
    rw [spec_l09Order.l4, if_neg (by omega), pl hn m hm, rv_small y a (b + 1) (by omega)]
  | succ d ih =>
    intro a b y hy hab hb
    by_cases c : a < b
    · obtain ⟨c0, h0⟩ := ih (a + 1) (b - 1) ((y.set a y[b]).set b y[a]) (by simpa using hy) (by omega) (by omega)
      refine ⟨c0 + 1, fun K => ?_⟩
      have wb : wrap64 ((b : Int) - 1) = ((b - 1 : Nat) : Int) := by rw [w64 (by omega) (by omega)]; omega
      rw [show K + (c0 + 1) = (K + c0) + 1 from rfl, spec_l09Order.l4, if_pos (by omega), if_pos (by omega), if_pos (by omega), if_pos (by omega), if_pos (by omega), pl hn a (by omega), wb, rdx y b (by omega), rdx y a (by omega), Int.toNat_natCast, Int.toNat_natCast, h0 K, show b - 1 + 1 = b by omega, rv_swap y a b c (by omega)]
    · refine ⟨1, fun K => ?_⟩
      rw [spec_l09Order.l4, if_neg (by omega), pl hn m hm, rv_small y a (b + 1) (by omega)]
theorem j4_eq (l : List Int) (h : Int) (i m n : Nat) (hn : n ≤ 1000) (hm : m ≤ n) (him : i ≤ m) (y : List Int) (hy : y.length = n) : ∃ c, ∀ K, spec_l09Order.j4 (K + c) l y h (i : Int) (m : Int) = spec_l09Order.l2 K l (rv y i m) h ((m + 1 : Nat) : Int) := by
  by_cases c : m = 0
  · have hi : i = 0 := by omega
    subst c hi
    refine ⟨2, fun K => ?_⟩
    rw [show K + 2 = (K + 1) + 1 from rfl, spec_l09Order.j4, spec_l09Order.l4, if_neg (by rw [w64 (by omega) (by omega)]; omega), pl hn 0 (by omega), rv_small y 0 0 (by omega)]
  · obtain ⟨c0, h0⟩ := swaps l h m n hn hm m i (m - 1) y hy (by omega) (by omega)
    refine ⟨c0 + 1, fun K => ?_⟩
    have wb : wrap64 ((m : Int) - 1) = ((m - 1 : Nat) : Int) := by rw [w64 (by omega) (by omega)]; omega
    rw [show K + (c0 + 1) = (K + c0) + 1 from rfl, spec_l09Order.j4, wb, h0 K, show m - 1 + 1 = m by omega]
theorem mx_nat (m i : Nat) : mx (m : Int) ((i + 1 : Nat) : Int) = ((max m (i + 1) : Nat) : Int) := by
  unfold mx
  split <;> omega
/-- Both look for the end of a run of levels. -/
theorem run (l : List Int) (h : Int) (n : Nat) (hl : l.length = n) (hn : n ≤ 1000) (x : List Int) (hx : Good n x) (i : Nat) (hi : i < n) : ∀ (d j : Nat), n ≤ j + d → i ≤ j → j ≤ n →
    ∃ c m, j ≤ m ∧ m ≤ n ∧ (∀ (ht : m < x.length), m < n → rd l x[m] < h) ∧ (∀ K, spec_l09Order.l3 (K + c) l x h (i : Int) (j : Int) = spec_l09Order.l2 K l (rv x i m) h ((m + 1 : Nat) : Int)) ∧
      ∃ c', ∀ K, impl_orderOf.l3 (K + c') l x h (i : Int) (j : Int) = impl_orderOf.l2 K l (rv x i m) h ((max m (i + 1) : Nat) : Int) := by
  have hxl := hx.1
  intro d
  induction d with
  | zero =>
    intro j hd hij hj
    obtain rfl : j = n := by omega
    obtain ⟨c, hc⟩ := j4_eq l h i j j hn (Nat.le_refl _) hij x hxl
    refine ⟨c + 1, j, Nat.le_refl _, Nat.le_refl _, fun _ q => absurd q (Nat.lt_irrefl _), fun K => ?_, 1, fun K => ?_⟩
    · rw [show K + (c + 1) = (K + c) + 1 from rfl, spec_l09Order.l3, if_neg (by omega), hc K]
    · rw [impl_orderOf.l3, if_neg (by omega), if_pos (by omega), if_pos ⟨by omega, by omega, by omega, by omega⟩, revCut_rv x i j hij (by omega), pl hn i (by omega), mx_nat]
  | succ d ih =>
    intro j hd hij hj
    by_cases e : j = n
    · exact ih j (by omega) hij hj
    · have g := hx.at_ j (by omega)
      have r1 := rdx x j (by omega)
      by_cases q : rd l x[j] ≥ h
      · obtain ⟨c, m, a1, a2, a3, a4, c', a5⟩ := ih (j + 1) (by omega) (by omega) (by omega)
        refine ⟨c + 1, m, by omega, a2, a3, fun K => ?_, c' + 1, fun K => ?_⟩
        · rw [show K + (c + 1) = (K + c) + 1 from rfl, spec_l09Order.l3, if_pos (by omega), if_pos (by omega), r1, if_pos g.1, if_pos (by omega), if_pos q, pl hn j hj, a4 K]
        · rw [show K + (c' + 1) = (K + c') + 1 from rfl, impl_orderOf.l3, if_pos (by omega), if_pos (by omega), if_pos (by omega), r1, if_pos g.1, if_pos (by omega), if_pos q, pl hn j hj, a5 K]
      · obtain ⟨c, hc⟩ := j4_eq l h i j n hn hj hij x hxl
        refine ⟨c + 1, j, Nat.le_refl _, hj, fun _ _ => by omega, fun K => ?_, 1, fun K => ?_⟩
        · rw [show K + (c + 1) = (K + c) + 1 from rfl, spec_l09Order.l3, if_pos (by omega), if_pos (by omega), r1, if_pos g.1, if_pos (by omega), if_neg q, hc K]
        · rw [impl_orderOf.l3, if_pos (by omega), if_pos (by omega), if_pos (by omega), r1, if_pos g.1, if_pos (by omega), if_neg q, if_pos (by omega), if_pos ⟨by omega, by omega, by omega, by omega⟩, revCut_rv x i j hij (by omega), pl hn i (by omega), mx_nat]
/-- One level's round. -/
theorem level (l : List Int) (h : Int) (n : Nat) (hl : l.length = n) (hn : n ≤ 1000) : ∀ (d i : Nat) (x : List Int), Good n x → n ≤ i + d → i ≤ n →
    ∃ x' c c', Good n x' ∧ (∀ K, spec_l09Order.l2 (K + c) l x h (i : Int) = spec_l09Order.l1 K l x' (wrap64 (h - 1))) ∧ (∀ K, impl_orderOf.l2 (K + c') l x h (i : Int) = impl_orderOf.l1 K l x' (wrap64 (h - 1))) := by
  intro d
  induction d with
  | zero =>
    intro i x hx hd hi
    have hxl := hx.1
    refine ⟨x, 1, 1, hx, fun K => ?_, fun K => ?_⟩
    · rw [spec_l09Order.l2, if_neg (by omega)]
    · rw [impl_orderOf.l2, if_neg (by omega)]
  | succ d ih =>
    intro i x hx hd hi
    have hxl := hx.1
    by_cases e : i = n
    · exact ih i x hx (by omega) hi
    · obtain ⟨c, m, a1, a2, a3, a4, c', a5⟩ := run l h n hl hn x hx i (by omega) (n - i) i (by omega) (Nat.le_refl _) hi
      have hg := hx.rv i m a2
      have hgl := hg.1
      by_cases f : m < n
      · obtain ⟨x', e1, e2, g, b1, b2⟩ := ih (m + 1) (rv x i m) hg (by omega) (by omega)
        by_cases z : m = i
        · refine ⟨x', e1 + c + 1, e2 + c' + 1, g, fun K => ?_, fun K => ?_⟩
          · rw [show K + (e1 + c + 1) = ((K + e1) + c) + 1 by omega, spec_l09Order.l2, if_pos (by omega), a4, b1]
          · rw [show K + (e2 + c' + 1) = ((K + e2) + c') + 1 by omega, impl_orderOf.l2, if_pos (by omega), a5, show max m (i + 1) = m + 1 by omega, b2]
        · -- the program looks at the run's end once more
          have lv : rd l (rv x i m)[m] < h := by
            rw [rv_get, if_neg (by omega), getD_get _ _ (by omega)]
            exact a3 (by omega) f
          have g0 := hg.at_ m (by omega)
          have r1 := rdx (rv x i m) m (by omega)
          have again : ∀ K, impl_orderOf.l2 (K + 2) l (rv x i m) h (m : Int) = impl_orderOf.l2 K l (rv x i m) h ((m + 1 : Nat) : Int) := by
            intro K
            rw [show K + 2 = (K + 1) + 1 from rfl, impl_orderOf.l2, if_pos (by omega), impl_orderOf.l3, if_pos (by omega), if_pos (by omega), if_pos (by omega), r1, if_pos g0.1, if_pos (by omega), if_neg (by omega), if_pos (by omega), if_pos ⟨by omega, by omega, by omega, by omega⟩, revCut_rv _ m m (Nat.le_refl _) (by omega), rv_small _ m m (by omega), pl hn m a2, mx_nat, show max m (m + 1) = m + 1 by omega]
          refine ⟨x', e1 + c + 1, e2 + 2 + c' + 1, g, fun K => ?_, fun K => ?_⟩
          · rw [show K + (e1 + c + 1) = ((K + e1) + c) + 1 by omega, spec_l09Order.l2, if_pos (by omega), a4, b1]
          · rw [show K + (e2 + 2 + c' + 1) = ((K + e2 + 2) + c') + 1 by omega, impl_orderOf.l2, if_pos (by omega), a5, show max m (i + 1) = m by omega, again, b2]
      · obtain rfl : m = n := by omega
        refine ⟨rv x i m, c + 2, c' + 2, hg, fun K => ?_, fun K => ?_⟩
        · rw [show K + (c + 2) = ((K + 1) + c) + 1 by omega, spec_l09Order.l2, if_pos (by omega), a4, spec_l09Order.l2, if_neg (by omega)]
        · rw [show K + (c' + 2) = ((K + 1) + c') + 1 by omega, impl_orderOf.l2, if_pos (by omega), a5, impl_orderOf.l2, if_neg (by omega)]
theorem levels (l : List Int) (n : Nat) (hl : l.length = n) (hn : n ≤ 1000) : ∀ (h : Nat) (x : List Int), h ≤ 20 → Good n x → ∃ T o, Good n o ∧ ∀ K, T ≤ K → spec_l09Order.l1 K l x (h : Int) = some o ∧ impl_orderOf.l1 K l x (h : Int) = some o := by
  intro h
  induction h with
  | zero =>
    intro x _ hx
    refine ⟨1, x, hx, fun K hK => ?_⟩
    obtain ⟨K, rfl⟩ : ∃ m, K = m + 1 := ⟨K - 1, by omega⟩
    rw [spec_l09Order.l1, impl_orderOf.l1, if_neg (by omega), if_neg (by omega)]
    exact ⟨rfl, rfl⟩
  | succ h ih =>
    intro x hh hx
    obtain ⟨x', c, c', g, a, b⟩ := level l ((h + 1 : Nat) : Int) n hl hn n 0 x hx (by omega) (by omega)
    have wh : wrap64 (((h + 1 : Nat) : Int) - 1) = (h : Int) := by rw [w64 (by omega) (by omega)]; omega
    rw [wh] at a b
    obtain ⟨T, o, go, ho⟩ := ih x' (by omega) g
    refine ⟨T + c + c' + 1, o, go, fun K hK => ?_⟩
    obtain ⟨K, rfl⟩ : ∃ m, K = m + 1 := ⟨K - 1, by omega⟩
    rw [spec_l09Order.l1, impl_orderOf.l1, if_pos (by omega), if_pos (by omega)]
    have a' := a (K - c)
    have b' := b (K - c')
    rw [show K - c + c = K by omega] at a'
    rw [show K - c' + c' = K by omega] at b'
    rw [show ((0 : Nat) : Int) = 0 from rfl] at a' b'
    rw [a', b']
    exact ⟨(ho _ (by omega)).1, (ho _ (by omega)).2⟩
/-- Nought, one, two .. -/
def iota (n : Nat) : List Int := (List.range n).map Int.ofNat
theorem iota_length (n : Nat) : (iota n).length = n := by simp [iota]
theorem iota_get (n t : Nat) (h : t < (iota n).length) : (iota n)[t] = (t : Int) := by simp [iota]
theorem iota_succ (n : Nat) : iota (n + 1) = iota n ++ [(n : Int)] := by simp [iota, List.range_succ]
theorem iota_good (n : Nat) : Good n (iota n) := by
  refine ⟨iota_length n, fun y hy => ?_⟩
  obtain ⟨t, ht, rfl⟩ := List.getElem_of_mem hy
  rw [iota_get]
  rw [iota_length] at ht
  omega
theorem spec_l0 (l : List Int) (hn : l.length ≤ 1000) : ∀ (d j K : Nat), j + d = l.length → spec_l09Order.l0 (K + d + 1) l (iota j) (j : Int) = spec_l09Order.l1 K l (iota l.length) 20 := by
  intro d
  induction d with
  | zero =>
    intro j K hj
    obtain rfl : j = l.length := by omega
    rw [show K + 0 + 1 = K + 1 from rfl, spec_l09Order.l0, if_neg (by omega)]
  | succ d ih =>
    intro j K hj
    rw [show K + (d + 1) + 1 = (K + d + 1) + 1 from rfl, spec_l09Order.l0, if_pos (by omega), if_pos (by rw [iota_length]; omega), pl hn j (by omega), ← iota_succ]
    exact ih (j + 1) K (by omega)
theorem impl_l0 (l : List Int) (hn : l.length ≤ 1000) : ∀ (d j K : Nat) (x : List Int), j + d = l.length → x.length = l.length → x.take j = (iota l.length).take j → impl_orderOf.l0 (K + d + 1) l x (l.length : Int) (j : Int) = impl_orderOf.l1 K l (iota l.length) 20 := by
  intro d
  have il := iota_length l.length
  induction d with
  | zero =>
    intro j K x hj hx ht
    rw [List.take_of_length_le (by omega), List.take_of_length_le (by omega)] at ht
    rw [show K + 0 + 1 = K + 1 from rfl, impl_orderOf.l0, if_neg (by omega), ht]
  | succ d ih =>
    intro j K x hj hx ht
    rw [show K + (d + 1) + 1 = (K + d + 1) + 1 from rfl, impl_orderOf.l0, if_pos (by omega), if_pos (by omega), if_pos (by omega), pl hn j (by omega)]
    refine ih (j + 1) K _ (by omega) (by simpa using hx) ?_
    rw [Int.toNat_natCast, List.take_succ_eq_append_getElem (by simp; omega), List.take_succ_eq_append_getElem (by omega), List.take_set_of_le (Nat.le_refl j), ht, iota_get]
    simp
/-- The order of a row of levels. -/
theorem order_eq (l : List Int) (hn : l.length ≤ 1000) : ∃ T o, Good l.length o ∧ ∀ K, T ≤ K → spec_l09Order.f K l = some o ∧ impl_orderOf.f K l = some o := by
  obtain ⟨T, o, g, h⟩ := levels l l.length rfl hn 20 (iota l.length) (by omega) (iota_good _)
  refine ⟨T + l.length + 1, o, g, fun K hK => ?_⟩
  obtain ⟨M, rfl⟩ : ∃ M, K = M + l.length + 1 := ⟨K - l.length - 1, by omega⟩
  have h' := h M (by omega)
  have e := spec_l0 l hn l.length 0 M (by omega)
  have f := impl_l0 l hn l.length 0 M (List.replicate l.length 0) (by omega) (by simp) (by simp)
  unfold spec_l09Order.f impl_orderOf.f
  rw [if_pos (by omega), if_pos (by simp; omega), Option.bind_some, Int.toNat_natCast, List.length_replicate]
  rw [show ((0 : Nat) : Int) = 0 from rfl] at e f
  rw [f, show (([] : List Int)) = iota 0 from rfl, e]
  exact h'
theorem right_l0 (l : List Int) (hn : l.length ≤ 1048576) : ∀ (d j : Nat), j + d = l.length → ∃ b, ∀ k, d < k → impl_levelsRight.l0 k l (l.length : Int) (j : Int) = some b ∧ spec_l09Right.l0 k l (j : Int) = some (b && decide ((l.length : Int) ≤ 1000)) := by
  intro d
  induction d with
  | zero =>
    intro j hj
    refine ⟨true, fun k hk => ?_⟩
    obtain ⟨k, rfl⟩ : ∃ m, k = m + 1 := ⟨k - 1, by omega⟩
    rw [impl_levelsRight.l0, spec_l09Right.l0, if_neg (by omega), if_neg (by omega)]
    exact ⟨rfl, by simp⟩
  | succ d ih =>
    intro j hj
    have hlt : j < l.length := by omega
    have step : ∀ k, impl_levelsRight.l0 (k + 1) l (l.length : Int) (j : Int) = (if l[j] < 0 then some false else if l[j] > 20 then some false else impl_levelsRight.l0 k l (l.length : Int) ((j + 1 : Nat) : Int)) ∧ spec_l09Right.l0 (k + 1) l (j : Int) = (if l[j] < 0 then some false else if l[j] > 20 then some false else spec_l09Right.l0 k l ((j + 1 : Nat) : Int)) := by
      intro k
      constructor
      · rw [impl_levelsRight.l0, if_pos (by omega), if_pos (by omega), if_pos (by omega), rd_nat l j hlt, w64s hlt (by omega)]
      · rw [spec_l09Right.l0, if_pos (by omega), if_pos (by omega), rd_nat l j hlt, w64s hlt (by omega)]
    by_cases c : l[j] < 0 ∨ l[j] > 20
    · refine ⟨false, fun k hk => ?_⟩
      obtain ⟨k, rfl⟩ : ∃ m, k = m + 1 := ⟨k - 1, by omega⟩
      rw [(step k).1, (step k).2]
      by_cases e : l[j] < 0
      · rw [if_pos e, if_pos e]; exact ⟨rfl, rfl⟩
      · rw [if_neg e, if_neg e, if_pos (by omega), if_pos (by omega)]; exact ⟨rfl, rfl⟩
    · obtain ⟨b, hb⟩ := ih (j + 1) (by omega)
      refine ⟨b, fun k hk => ?_⟩
      obtain ⟨k, rfl⟩ : ∃ m, k = m + 1 := ⟨k - 1, by omega⟩
      rw [(step k).1, (step k).2, if_neg (by omega), if_neg (by omega), if_neg (by omega), if_neg (by omega)]
      exact hb k (by omega)
theorem right_eq (l : List Int) (hn : l.length ≤ 1048576) : ∃ b, ∀ k, l.length < k → impl_levelsRight.f k l = some b ∧ spec_l09Right.f k l = some (b && decide ((l.length : Int) ≤ 1000)) := right_l0 l hn l.length 0 (by omega)

end Go.Proofs.Ythjkfmdfkndpcaa.PFnExactSelected

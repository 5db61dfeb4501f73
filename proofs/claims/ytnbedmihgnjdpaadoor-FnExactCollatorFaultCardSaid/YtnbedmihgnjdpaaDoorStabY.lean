/- Go's stable sort in place (slices.stableCmpFunc: blocks by insertion, then symMerge), as plain functions over an array, and what they come to: the stable sorting of a list by a key. No memory in it. -/
import Derived.Sort.Defs
import Derived.Sort.Lot0
import Derived.Test.YtnbedmihgnjdpaaDoorProg
import Derived.Shelf.SlSortCmp.Insertion
set_option linter.unusedSimpArgs false
set_option linter.unusedVariables false
namespace Go.Proofs.YtnbedmihgnjdpaaDoor.Stab
open Go.Sort
def bs (p : Nat → Bool) (i j : Nat) : Nat :=
 if _h : i < j then (if p ((i + j) / 2) then bs p ((i + j) / 2 + 1) j else bs p i ((i + j) / 2)) else i
termination_by j - i
def shR (i k : Nat) (d : Array Int) : Array Int := if _h : k + 1 < i then shR i (k + 1) (swp d k (k + 1)) else d
termination_by i - k
def shL (i : Nat) : Nat → Array Int → Array Int
 | 0, d => d
 | k + 1, d => if i < k + 1 then shL i k (swp d (k + 1) k) else d
def swR (a b n i : Nat) (d : Array Int) : Array Int := if _h : i < n then swR a b n (i + 1) (swp d (a + i) (b + i)) else d
termination_by n - i
def rot (m i j : Nat) (d : Array Int) : Array Int :=
 if _h : i = j ∨ i = 0 ∨ j = 0 then swR (m - i) m i 0 d
 else if _h2 : j < i then rot m (i - j) j (swR (m - i) m j 0 d) else rot m i (j - i) (swR (m - i) (m + j - i) i 0 d)
termination_by i + j
section
variable (lt : Int → Int → Bool)
def symStart (a m b : Nat) (d : Array Int) : Nat :=
 if (a + b) / 2 < m then bs (fun c => !lt d[(a + b) / 2 + m - 1 - c]! d[c]!) ((a + b) / 2 + m - b) ((a + b) / 2)
 else bs (fun c => !lt d[(a + b) / 2 + m - 1 - c]! d[c]!) a m
def symM (a m b : Nat) (d : Array Int) : Array Int :=
 if _h : a < m ∧ m < b then
  if m - a = 1 then shR (bs (fun h => lt d[h]! d[a]!) m b) a d
  else if b - m = 1 then shL (bs (fun h => !lt d[m]! d[h]!) a m) m d
  else
   let s := symStart lt a m b d
   let e := (a + b) / 2 + m - s
   let d1 := if s < m ∧ m < e then rot m (m - s) (e - m) d else d
   let d2 := if a < s ∧ s < (a + b) / 2 then symM a s ((a + b) / 2) d1 else d1
   if (a + b) / 2 < e ∧ e < b then symM ((a + b) / 2) e b d2 else d2
 else d
termination_by b - a
def blks (n a : Nat) (d : Array Int) : Array Int :=
 if _h : a + 20 ≤ n then blks n (a + 20) (insertionSort lt d a (a + 20)) else insertionSort lt d a n
termination_by n - a
def mrg (n z a : Nat) (d : Array Int) : Array Int :=
 if _h : 0 < z ∧ a + 2 * z ≤ n then mrg n z (a + 2 * z) (symM lt a (a + z) (a + 2 * z) d)
 else if a + z < n then symM lt a (a + z) n d else d
termination_by n - a
def rnds (n z : Nat) (d : Array Int) : Array Int := if _h : 0 < z ∧ z < n then rnds n (2 * z) (mrg lt n z 0 d) else d
termination_by n - z
def stab (d : Array Int) : Array Int := rnds lt d.size 20 (blks lt d.size 0 d)
end
theorem shR_size (i : Nat) : ∀ (t k : Nat) (d : Array Int), i - k ≤ t → (shR i k d).size = d.size := by
 intro t
 induction t with
 | zero => intro k d h; rw [shR, dif_neg (by omega)]
 | succ t ih =>
  intro k d h
  rw [shR]; split
  ·rw [ih _ _ (by omega), size_swp]
  ·rfl
theorem shL_size (i : Nat) : ∀ (k : Nat) (d : Array Int), (shL i k d).size = d.size
 | 0, _ => rfl
 | k + 1, d => by
  rw [shL]; split
  ·rw [shL_size, size_swp]
  ·rfl
theorem swR_size (a b n : Nat) : ∀ (t i : Nat) (d : Array Int), n - i ≤ t → (swR a b n i d).size = d.size := by
 intro t
 induction t with
 | zero => intro k d h; rw [swR, dif_neg (by omega)]
 | succ t ih =>
  intro k d h
  rw [swR]; split
  ·rw [ih _ _ (by omega), size_swp]
  ·rfl
theorem rot_size : ∀ (t m i j : Nat) (d : Array Int), i + j ≤ t → (rot m i j d).size = d.size := by
 intro t
 induction t with
 | zero => intro m i j d h; rw [rot, dif_pos (by omega), swR_size _ _ _ _ _ _ (Nat.le_refl _)]
 | succ t ih =>
  intro m i j d h
  rw [rot]; split
  ·rw [swR_size _ _ _ _ _ _ (Nat.le_refl _)]
  ·split
   ·rw [ih _ _ _ _ (by omega), swR_size _ _ _ _ _ _ (Nat.le_refl _)]
   ·rw [ih _ _ _ _ (by omega), swR_size _ _ _ _ _ _ (Nat.le_refl _)]
theorem symM_size (lt : Int → Int → Bool) : ∀ (t a m b : Nat) (d : Array Int), b - a ≤ t → (symM lt a m b d).size = d.size := by
 intro t
 induction t with
 | zero => intro a m b d h; rw [symM, dif_neg (by omega)]
 | succ t ih =>
  intro a m b d h
  rw [symM]; split
  ·split
   ·rw [shR_size _ _ _ _ (Nat.le_refl _)]
   ·split
    ·rw [shL_size]
    ·have h1 : ∀ e : Array Int, (if symStart lt a m b d < m ∧ m < (a + b) / 2 + m - symStart lt a m b d then rot m (m - symStart lt a m b d) ((a + b) / 2 + m - symStart lt a m b d - m) d else d).size = d.size := by
      intro e; split
      ·rw [rot_size _ _ _ _ _ (Nat.le_refl _)]
      ·rfl
     simp only []
     generalize (if symStart lt a m b d < m ∧ m < (a + b) / 2 + m - symStart lt a m b d then rot m (m - symStart lt a m b d) ((a + b) / 2 + m - symStart lt a m b d - m) d else d) = d1 at h1
     have h1 := h1 d
     split <;> split <;> (first | rw [ih _ _ _ _ (by omega), ih _ _ _ _ (by omega), h1] | rw [ih _ _ _ _ (by omega), h1] | exact h1)
  ·rfl
theorem insInner_size (lt : Int → Int → Bool) (a : Nat) : ∀ (j : Nat) (d : Array Int), (insInner lt a j d).size = d.size
 | 0, _ => rfl
 | k + 1, d => by
  rw [insInner]; split
  ·rw [insInner_size, size_swp]
  ·rfl
theorem insOuter_size (lt : Int → Int → Bool) (a b : Nat) : ∀ (t i : Nat) (d : Array Int), b - i ≤ t → (insOuter lt a b i d).size = d.size := by
 intro t
 induction t with
 | zero => intro k d h; rw [insOuter, if_neg (by omega)]
 | succ t ih =>
  intro k d h
  rw [insOuter]; split
  ·rw [ih _ _ (by omega), insInner_size]
  ·rfl
theorem ins_size (lt : Int → Int → Bool) (d : Array Int) (a b : Nat) : (insertionSort lt d a b).size = d.size := insOuter_size _ _ _ _ _ _ (Nat.le_refl _)
theorem blks_size (lt : Int → Int → Bool) (n : Nat) : ∀ (t a : Nat) (d : Array Int), n - a ≤ t → (blks lt n a d).size = d.size := by
 intro t
 induction t with
 | zero => intro a d h; rw [blks, dif_neg (by omega), ins_size]
 | succ t ih =>
  intro a d h
  rw [blks]; split
  ·rw [ih _ _ (by omega), ins_size]
  ·rw [ins_size]
end Go.Proofs.YtnbedmihgnjdpaaDoor.Stab
/- Go's stable sort in place comes to the stable sorting of the list by its key. No memory in it. -/
namespace Go.Proofs.YtnbedmihgnjdpaaDoor.Stab
open Go.Sort
theorem get_mid (A B : List Int) (x : Int) (k : Nat) (hk : k = A.length) : (A ++ x :: B).toArray[k]! = x := by subst hk; simp
theorem swp_list (A M B : List Int) (x y : Int) (i j : Nat) (hi : i = A.length) (hj : j = A.length + 1 + M.length) :
  swp (A ++ x :: (M ++ y :: B)).toArray i j = (A ++ y :: (M ++ x :: B)).toArray := by
 subst hi; subst hj
 have h1 : (A ++ x :: (M ++ y :: B)).toArray[A.length]! = x := get_mid _ _ _ _ rfl
 have h2 : (A ++ x :: (M ++ y :: B)).toArray[A.length + 1 + M.length]! = y := by
  have := get_mid (A ++ x :: M) B y (A.length + 1 + M.length) (by simp; omega)
  simpa using this
 unfold swp
 rw [h1, h2]
 simp only [List.setIfInBounds_toArray]
 congr 1
 rw [List.set_append_right _ _ (by omega), Nat.sub_self, List.set_cons_zero]
 rw [List.set_append_right _ _ (by omega), show A.length + 1 + M.length - A.length = M.length + 1 from by omega, List.set_cons_succ]
 rw [List.set_append_right _ _ (by omega), Nat.sub_self, List.set_cons_zero]
theorem shR_list (x : Int) : ∀ (v A B : List Int) (i k : Nat), k = A.length → i = k + 1 + v.length → shR i k (A ++ x :: (v ++ B)).toArray = (A ++ v ++ x :: B).toArray
 | [], A, B, i, k, hk, hi => by
  rw [shR, dif_neg (by simp at hi; omega)]; simp
 | y :: v, A, B, i, k, hk, hi => by
  simp only [List.length_cons] at hi
  rw [shR, dif_pos (by omega)]
  have h := swp_list A [] (v ++ B) x y k (k + 1) hk (by simp; omega)
  simp only [List.nil_append] at h
  rw [List.cons_append, h]
  have := shR_list x v (A ++ [y]) B i (k + 1) (by simp; omega) (by omega)
  simpa using this
theorem shL_list (x : Int) : ∀ (r A B : List Int) (i k : Nat), i = A.length → k = i + r.length → shL i k (A ++ r.reverse ++ x :: B).toArray = (A ++ x :: (r.reverse ++ B)).toArray
 | [], A, B, i, k, hi, hk => by
  simp only [List.length_nil, Nat.add_zero] at hk
  subst hk
  cases k with
  | zero => simp [shL]
  | succ k => rw [shL, if_neg (by omega)]; simp
 | y :: r, A, B, i, k, hi, hk => by
  simp only [List.length_cons] at hk
  obtain ⟨k, rfl⟩ : ∃ m, k = m + 1 := ⟨k - 1, by omega⟩
  rw [shL, if_pos (by omega)]
  have h := swp_list (A ++ r.reverse) [] B y x k (k + 1) (by simp; omega) (by simp; omega)
  have hs : swp (A ++ (y :: r).reverse ++ x :: B).toArray (k + 1) k = swp (A ++ (y :: r).reverse ++ x :: B).toArray k (k + 1) := by
   unfold swp
   apply Array.ext_getElem?
   intro q
   simp only [Array.getElem?_setIfInBounds, Array.size_setIfInBounds]
   by_cases h1 : k + 1 = q <;> by_cases h2 : k = q <;> simp [h1, h2] <;> omega
  rw [hs]
  have e : A ++ (y :: r).reverse ++ x :: B = A ++ r.reverse ++ y :: ([] ++ x :: B) := by simp
  rw [e, h]
  have := shL_list x r A (y :: B) i k hi (by omega)
  simpa using this
theorem swR_list : ∀ (p q X M Y : List Int) (a b n i : Nat), p.length = q.length → n = i + p.length → a + i = X.length → b + i = X.length + p.length + M.length →
  swR a b n i (X ++ p ++ M ++ q ++ Y).toArray = (X ++ q ++ M ++ p ++ Y).toArray
 | [], q, X, M, Y, a, b, n, i, hl, hn, ha, hb => by
  have : q = [] := List.eq_nil_of_length_eq_zero hl.symm
  subst this
  simp only [List.length_nil, Nat.add_zero] at hn
  rw [swR, dif_neg (by omega)]
 | x :: p, [], X, M, Y, a, b, n, i, hl, hn, ha, hb => by simp at hl
 | x :: p, y :: q, X, M, Y, a, b, n, i, hl, hn, ha, hb => by
  simp only [List.length_cons] at hl hn hb
  rw [swR, dif_pos (by omega)]
  have h := swp_list X (p ++ M) (q ++ Y) x y (a + i) (b + i) ha (by simp; omega)
  have e : X ++ x :: p ++ M ++ y :: q ++ Y = X ++ x :: (p ++ M ++ y :: (q ++ Y)) := by simp
  rw [e, h]
  have := swR_list p q (X ++ [y]) (M ++ [x]) Y a b n (i + 1) (by omega) (by omega) (by simp; omega) (by simp; omega)
  simpa using this
theorem rot_list : ∀ (t : Nat) (X u v Y : List Int) (m i j : Nat), i + j ≤ t → i = u.length → j = v.length → m = X.length + i → 0 < i → 0 < j →
  rot m i j (X ++ u ++ v ++ Y).toArray = (X ++ v ++ u ++ Y).toArray := by
 intro t
 induction t with
 | zero => intro X u v Y m i j h; omega
 | succ t ih =>
  intro X u v Y m i j h hi hj hm h0 h1
  rw [rot]
  by_cases he : i = j
  ·rw [dif_pos (Or.inl he)]
   have := swR_list u v X [] Y (m - i) m i 0 (by omega) (by omega) (by omega) (by simp; omega)
   simpa using this
  ·rw [dif_neg (by omega)]
   by_cases hlt : j < i
   ·rw [dif_pos hlt]
    obtain ⟨u1, u2, rfl, hl1⟩ : ∃ u1 u2, u = u1 ++ u2 ∧ u1.length = j := ⟨u.take j, u.drop j, (List.take_append_drop _ _).symm, by rw [List.length_take]; omega⟩
    rw [List.length_append] at hi
    have := swR_list u1 v X u2 Y (m - i) m j 0 (by omega) (by omega) (by omega) (by omega)
    have e : X ++ (u1 ++ u2) ++ v ++ Y = X ++ u1 ++ u2 ++ v ++ Y := by simp
    rw [e, this]
    have := ih (X ++ v) u2 u1 Y m (i - j) j (by omega) (by omega) (by omega) (by simp; omega) (by omega) h1
    simpa using this
   ·rw [dif_neg hlt]
    obtain ⟨v1, v2, rfl, hl1⟩ : ∃ v1 v2, v = v1 ++ v2 ∧ v1.length = j - i := ⟨v.take (j - i), v.drop (j - i), (List.take_append_drop _ _).symm, by rw [List.length_take]; omega⟩
    rw [List.length_append] at hj
    have := swR_list u v2 X v1 Y (m - i) (m + j - i) i 0 (by omega) (by omega) (by omega) (by omega)
    have e : X ++ u ++ (v1 ++ v2) ++ Y = X ++ u ++ v1 ++ v2 ++ Y := by simp
    rw [e, this]
    have := ih X v2 v1 (u ++ Y) m i (j - i) (by omega) (by omega) (by omega) (by omega) h0 (by omega)
    simpa using this
theorem bs_spec (p : Nat → Bool) : ∀ (t i j : Nat), j - i ≤ t → i ≤ j → i ≤ bs p i j ∧ bs p i j ≤ j ∧ (bs p i j = i ∨ p (bs p i j - 1) = true) ∧ (bs p i j = j ∨ p (bs p i j) = false) := by
 intro t
 induction t with
 | zero => intro i j h h2; rw [bs, dif_neg (by omega)]; exact ⟨Nat.le_refl _, h2, Or.inl rfl, Or.inl (by omega)⟩
 | succ t ih =>
  intro i j h h2
  rw [bs]
  by_cases hlt : i < j
  ·rw [dif_pos hlt]
   by_cases hp : p ((i + j) / 2) = true
   ·rw [if_pos hp]
    obtain ⟨a, b, c, d⟩ := ih ((i + j) / 2 + 1) j (by omega) (by omega)
    refine ⟨by omega, b, Or.inr ?_, d⟩
    rcases c with c | c
    ·rw [c]; simpa using hp
    ·exact c
   ·rw [if_neg hp]
    obtain ⟨a, b, c, d⟩ := ih i ((i + j) / 2) (by omega) (by omega)
    refine ⟨a, by omega, c, Or.inr ?_⟩
    rcases d with d | d
    ·rw [d]; simpa using hp
    ·exact d
  ·rw [dif_neg hlt]; exact ⟨Nat.le_refl _, h2, Or.inl rfl, Or.inl (by omega)⟩
section
variable (c : Int → Int)
def Srt (l : List Int) : Prop := l.Pairwise (fun x y => c x ≤ c y)
def Sam (l l' : List Int) : Prop := ∀ k, l.filter (fun x => c x == k) = l'.filter (fun x => c x == k)
def ltc : Int → Int → Bool := fun x y => decide (c x < c y)
variable {c}
theorem Sam.refl (l : List Int) : Sam c l l := fun _ => rfl
theorem Sam.trans {l l1 l2 : List Int} (h : Sam c l l1) (h2 : Sam c l1 l2) : Sam c l l2 := fun k => (h k).trans (h2 k)
theorem Sam.symm {l l1 : List Int} (h : Sam c l l1) : Sam c l1 l := fun k => (h k).symm
theorem Sam.app {l l1 m m1 : List Int} (h : Sam c l l1) (h2 : Sam c m m1) : Sam c (l ++ m) (l1 ++ m1) := fun k => by rw [List.filter_append, List.filter_append, h k, h2 k]
theorem Sam.len_mem {l l1 : List Int} (h : Sam c l l1) (x : Int) (hx : x ∈ l) : x ∈ l1 := by
 have : x ∈ l.filter (fun y => c y == c x) := List.mem_filter.2 ⟨hx, by simp⟩
 rw [h] at this
 exact (List.mem_filter.1 this).1
theorem Sam.swap {u v : List Int} (h : ∀ x ∈ u, ∀ y ∈ v, c y < c x) : Sam c (u ++ v) (v ++ u) := fun k => by
 rw [List.filter_append, List.filter_append]
 by_cases hu : u.filter (fun x => c x == k) = []
 ·rw [hu]; simp
 ·have : v.filter (fun x => c x == k) = [] := by
   rw [List.filter_eq_nil_iff]
   intro y hy hk
   obtain ⟨x, hx⟩ := List.exists_mem_of_ne_nil _ hu
   obtain ⟨hx1, hx2⟩ := List.mem_filter.1 hx
   have := h x hx1 y hy
   simp at hk hx2; omega
  rw [this]; simp
theorem Srt.app {u v : List Int} (hu : Srt c u) (hv : Srt c v) (h : ∀ x ∈ u, ∀ y ∈ v, c x ≤ c y) : Srt c (u ++ v) := List.pairwise_append.2 ⟨hu, hv, h⟩
theorem Srt.left {u v : List Int} (h : Srt c (u ++ v)) : Srt c u := (List.pairwise_append.1 h).1
theorem Srt.right {u v : List Int} (h : Srt c (u ++ v)) : Srt c v := (List.pairwise_append.1 h).2.1
theorem Srt.mid {u v : List Int} (h : Srt c (u ++ v)) : ∀ x ∈ u, ∀ y ∈ v, c x ≤ c y := (List.pairwise_append.1 h).2.2
theorem Srt.head {x : Int} {v : List Int} (h : Srt c (x :: v)) : ∀ y ∈ v, c x ≤ c y := (List.pairwise_cons.1 h).1
theorem Srt.last {x : Int} {v : List Int} (h : Srt c (v ++ [x])) : ∀ y ∈ v, c y ≤ c x := fun y hy => h.mid y hy x (by simp)
theorem Srt.uniq : ∀ {l l1 : List Int}, Srt c l → Srt c l1 → Sam c l l1 → l = l1
 | [], [], _, _, _ => rfl
 | [], y :: l1, _, _, h => by have := h (c y); simp at this
 | x :: l, [], _, _, h => by have := h (c x); simp at this
 | x :: l, y :: l1, hs, hs1, h => by
  have hxy : c x = c y := by
   have h1 : c x ≤ c y := by
    have := h.symm.len_mem y (by simp)
    rcases List.mem_cons.1 this with rfl | hm
    ·omega
    ·exact hs.head _ hm
   have h2 : c y ≤ c x := by
    have := h.len_mem x (by simp)
    rcases List.mem_cons.1 this with rfl | hm
    ·omega
    ·exact hs1.head _ hm
   omega
  have h3 := h (c x)
  rw [List.filter_cons, List.filter_cons, if_pos (by simp), if_pos (by simp [hxy])] at h3
  injection h3 with h4 h5
  subst h4
  have : l = l1 := Srt.uniq (List.pairwise_cons.1 hs).2 (List.pairwise_cons.1 hs1).2 (fun k => by
   by_cases hk : c x = k
   ·subst hk; exact h5
   ·have := h k
    rw [List.filter_cons, List.filter_cons, if_neg (by simp [hk]), if_neg (by simp [hk])] at this
    exact this)
  rw [this]
theorem insInner_list (x : Int) : ∀ (r A B : List Int) (a j : Nat), a = A.length → j = a + r.length → Srt c r.reverse →
  ∃ s1 s2, r.reverse = s1 ++ s2 ∧ (∀ y ∈ s1, c y ≤ c x) ∧ (∀ y ∈ s2, c x < c y) ∧ insInner (ltc c) a j (A ++ r.reverse ++ x :: B).toArray = (A ++ s1 ++ x :: s2 ++ B).toArray
 | [], A, B, a, j, ha, hj, hs => by
  refine ⟨[], [], rfl, by simp, by simp, ?_⟩
  simp only [List.length_nil, Nat.add_zero] at hj
  subst hj
  cases j with
  | zero => simp [insInner]
  | succ j => rw [insInner, if_neg (by simp)]; simp
 | y :: r, A, B, a, j, ha, hj, hs => by
  simp only [List.length_cons] at hj
  obtain ⟨j, rfl⟩ : ∃ m, j = m + 1 := ⟨j - 1, by omega⟩
  have e : A ++ (y :: r).reverse ++ x :: B = A ++ r.reverse ++ y :: ([] ++ x :: B) := by simp
  have g1 : (A ++ (y :: r).reverse ++ x :: B).toArray[j + 1]! = x := get_mid _ _ _ _ (by simp; omega)
  have g2 : (A ++ (y :: r).reverse ++ x :: B).toArray[j]! = y := by rw [e]; exact get_mid _ _ _ _ (by simp; omega)
  rw [insInner, g1, g2]
  by_cases hlt : c x < c y
  ·rw [if_pos (by simp [ltc, hlt]; omega)]
   have h := swp_list (A ++ r.reverse) [] B y x j (j + 1) (by simp; omega) (by simp; omega)
   have hs' : swp (A ++ (y :: r).reverse ++ x :: B).toArray (j + 1) j = swp (A ++ (y :: r).reverse ++ x :: B).toArray j (j + 1) := by
    unfold swp
    apply Array.ext_getElem?
    intro q
    simp only [Array.getElem?_setIfInBounds, Array.size_setIfInBounds]
    by_cases h1 : j + 1 = q <;> by_cases h2 : j = q <;> simp [h1, h2] <;> omega
   rw [hs', e, h]
   rw [List.reverse_cons] at hs
   obtain ⟨s1, s2, q1, q2, q3, q4⟩ := insInner_list x r A (y :: B) a j ha (by omega) hs.left
   refine ⟨s1, s2 ++ [y], by rw [List.reverse_cons, q1, List.append_assoc], q2, fun z hz => ?_, ?_⟩
   ·rcases List.mem_append.1 hz with hz | hz
    ·exact q3 z hz
    ·rw [List.mem_singleton.1 hz]; exact hlt
   ·rw [List.nil_append, q4]; simp
  ·rw [if_neg (by simp [ltc, hlt])]
   refine ⟨(y :: r).reverse, [], by simp, fun z hz => ?_, by simp, by simp⟩
   rw [List.reverse_cons] at hs hz
   rcases List.mem_append.1 hz with hz | hz
   ·have := hs.last z hz; omega
   ·rw [List.mem_singleton.1 hz]; omega
theorem insOuter_list : ∀ (r A s B : List Int) (a b i : Nat), a = A.length → i = a + s.length → b = i + r.length → Srt c s →
  ∃ s', insOuter (ltc c) a b i (A ++ s ++ r ++ B).toArray = (A ++ s' ++ B).toArray ∧ Srt c s' ∧ Sam c (s ++ r) s' ∧ s'.length = s.length + r.length
 | [], A, s, B, a, b, i, ha, hi, hb, hs => ⟨s, by rw [insOuter, if_neg (by simp at hb; omega)]; simp, hs, by rw [List.append_nil]; exact Sam.refl _, by simp⟩
 | x :: r, A, s, B, a, b, i, ha, hi, hb, hs => by
  simp only [List.length_cons] at hb
  rw [insOuter, if_pos (by omega)]
  obtain ⟨s1, s2, q1, q2, q3, q4⟩ := insInner_list (c := c) x s.reverse A (r ++ B) a i ha (by simp; omega) (by rw [List.reverse_reverse]; exact hs)
  rw [List.reverse_reverse] at q1 q4
  have e : A ++ s ++ x :: r ++ B = A ++ s ++ x :: (r ++ B) := by simp
  rw [e, q4]
  have hsrt : Srt c (s1 ++ x :: s2) := by
   rw [q1] at hs
   refine hs.left.app (List.pairwise_cons.2 ⟨fun y hy => by have := q3 y hy; omega, hs.right⟩) (fun y hy z hz => ?_)
   rcases List.mem_cons.1 hz with rfl | hz
   ·exact q2 y hy
   ·exact hs.mid y hy z hz
  obtain ⟨s', h1, h2, h3, h4⟩ := insOuter_list r A (s1 ++ x :: s2) B a b (i + 1) ha (by rw [q1] at hi; simp at hi ⊢; omega) (by omega) hsrt
  refine ⟨s', ?_, h2, Sam.trans ?_ h3, by rw [h4, q1]; simp; omega⟩
  ·rw [← h1]; congr 1; simp
  ·rw [q1]
   have : Sam c (s1 ++ s2 ++ x :: r) (s1 ++ x :: s2 ++ r) := by
    have h5 : Sam c (s2 ++ [x]) ([x] ++ s2) := Sam.swap (fun a ha b hb => by rw [List.mem_singleton.1 hb]; exact q3 a ha)
    have := ((Sam.refl (c := c) s1).app h5).app (Sam.refl (c := c) r)
    simpa using this
   exact this
theorem ins_list (A s B : List Int) (a b : Nat) (ha : a = A.length) (hb : b = a + s.length) : ∃ s', insertionSort (ltc c) (A ++ s ++ B).toArray a b = (A ++ s' ++ B).toArray ∧ Srt c s' ∧ Sam c s s' ∧ s'.length = s.length := by
 cases s with
 | nil =>
  refine ⟨[], ?_, List.Pairwise.nil, Sam.refl _, rfl⟩
  rw [insertionSort, insOuter, if_neg (by simp at hb; omega)]
 | cons x r =>
  obtain ⟨s', h1, h2, h3, h4⟩ := insOuter_list (c := c) r A [x] B a b (a + 1) ha (by simp) (by simp at hb; omega) (by simp [Srt])
  refine ⟨s', ?_, h2, by simpa using h3, by simp at h4 ⊢; omega⟩
  rw [insertionSort, ← h1]; congr 1; simp
end
end Go.Proofs.YtnbedmihgnjdpaaDoor.Stab
/- symMerge, the blocks, the rounds: Go's stable sort in place is the stable sorting of the list. No memory in it. -/
namespace Go.Proofs.YtnbedmihgnjdpaaDoor.Stab
open Go.Sort
variable {c : Int → Int}
theorem get_in (A u B : List Int) (a k : Nat) (ha : a = A.length) (h1 : a ≤ k) (h2 : k < a + u.length) : (A ++ u ++ B).toArray[k]! = u[k - a]! := by
 subst ha
 simp only [List.getElem!_toArray, List.getElem!_eq_getElem?_getD]
 rw [List.append_assoc, List.getElem?_append_right h1, List.getElem?_append_left (by omega)]
structure Off (p : Prop) : Prop where
 out : p
theorem part_at (u : List Int) (k : Nat) (hk : k ≤ u.length) : ∃ u1 u2, u = u1 ++ u2 ∧ u1.length = k ∧ u2.length = u.length - k ∧ Off (0 < k → ∃ y r, u1 = r ++ [y] ∧ u[k - 1]! = y) ∧ Off (k < u.length → ∃ y r, u2 = y :: r ∧ u[k]! = y) := by
 refine ⟨u.take k, u.drop k, (List.take_append_drop _ _).symm, by rw [List.length_take]; omega, by rw [List.length_drop], ⟨fun h => ?_⟩, ⟨fun h => ?_⟩⟩
 ·refine ⟨u[k - 1]!, u.take (k - 1), ?_, rfl⟩
  have : k = (k - 1) + 1 := by omega
  conv => lhs; rw [this, List.take_succ_eq_append_getElem (by omega)]
  rw [getElem!_pos u (k - 1) (by omega)]
 ·refine ⟨u[k]!, u.drop (k + 1), ?_, rfl⟩
  rw [getElem!_pos u k h, List.drop_eq_getElem_cons h]
theorem sym_left (x : Int) (v A B : List Int) (a m b : Nat) (ha : a = A.length) (hm : m = a + 1) (hb : b = m + v.length) (hv : Srt c v) :
  ∃ s, shR (bs (fun h => ltc c (A ++ x :: v ++ B).toArray[h]! (A ++ x :: v ++ B).toArray[a]!) m b) a (A ++ x :: v ++ B).toArray = (A ++ s ++ B).toArray ∧ Srt c s ∧ Sam c (x :: v) s ∧ s.length = v.length + 1 := by
 have g0 : (A ++ x :: v ++ B).toArray[a]! = x := by rw [List.append_assoc]; exact get_mid _ _ _ _ ha
 rw [g0]
 have gk : ∀ k, m ≤ k → k < b → (A ++ x :: v ++ B).toArray[k]! = v[k - m]! := fun k h1 h2 => by
  have := get_in (A ++ [x]) v B m k (by simp; omega) h1 (by omega)
  simpa using this
 obtain ⟨h1, h2, h3, h4⟩ := bs_spec (fun h => ltc c (A ++ x :: v ++ B).toArray[h]! x) (b - m) m b (Nat.le_refl _) (by omega)
 generalize bs (fun h => ltc c (A ++ x :: v ++ B).toArray[h]! x) m b = i at h1 h2 h3 h4 ⊢
 obtain ⟨v1, v2, rfl, l1, l2, p1, p2⟩ := part_at v (i - m) (by omega)
 have q1 : ∀ y ∈ v1, c y < c x := by
  intro y hy
  rcases h3 with h3 | h3
  ·have : v1 = [] := List.eq_nil_of_length_eq_zero (by omega)
   rw [this] at hy; cases hy
  ·by_cases h0 : 0 < i - m
   ·obtain ⟨z, r, hz, hz2⟩ := p1.out h0
    simp only [ltc, decide_eq_true_eq] at h3
    rw [gk (i - 1) (by omega) (by omega), show i - 1 - m = i - m - 1 from by omega, hz2] at h3
    rw [hz] at hy
    have hs1 := hv.left
    rw [hz] at hs1
    rcases List.mem_append.1 hy with hy | hy
    ·have := hs1.last y hy; omega
    ·rw [List.mem_singleton.1 hy]; exact h3
   ·have : v1 = [] := List.eq_nil_of_length_eq_zero (by omega)
    rw [this] at hy; cases hy
 have q2 : ∀ y ∈ v2, c x ≤ c y := by
  intro y hy
  rcases h4 with h4 | h4
  ·have : v2 = [] := List.eq_nil_of_length_eq_zero (by rw [List.length_append] at l2 hb; omega)
   rw [this] at hy; cases hy
  ·by_cases h0 : i - m < (v1 ++ v2).length
   ·obtain ⟨z, r, hz, hz2⟩ := p2.out h0
    simp only [ltc, decide_eq_false_iff_not] at h4
    rw [gk i (by omega) (by omega), hz2] at h4
    have hs2 := hv.right
    rw [hz] at hy hs2
    rcases List.mem_cons.1 hy with rfl | hy
    ·omega
    ·have := hs2.head y hy; omega
   ·have : v2 = [] := List.eq_nil_of_length_eq_zero (by omega)
    rw [this] at hy; cases hy
 refine ⟨v1 ++ x :: v2, ?_, ?_, ?_, by simp; omega⟩
 ·have := shR_list x v1 A (v2 ++ B) i a ha (by omega)
  have e : A ++ x :: (v1 ++ v2) ++ B = A ++ x :: (v1 ++ (v2 ++ B)) := by simp
  rw [e, this]; simp
 ·refine hv.left.app (List.pairwise_cons.2 ⟨q2, hv.right⟩) (fun y hy z hz => ?_)
  rcases List.mem_cons.1 hz with rfl | hz
  ·have := q1 y hy; omega
  ·exact hv.mid y hy z hz
 ·have h5 : Sam c ([x] ++ v1) (v1 ++ [x]) := Sam.swap (fun y hy z hz => by rw [List.mem_singleton.1 hy]; exact q1 z hz)
  have := h5.app (Sam.refl (c := c) v2)
  simpa using this
theorem sym_right (x : Int) (u A B : List Int) (a m b : Nat) (ha : a = A.length) (hm : m = a + u.length) (hu : Srt c u) :
  ∃ s, shL (bs (fun h => !ltc c (A ++ u ++ x :: B).toArray[m]! (A ++ u ++ x :: B).toArray[h]!) a m) m (A ++ u ++ x :: B).toArray = (A ++ s ++ B).toArray ∧ Srt c s ∧ Sam c (u ++ [x]) s ∧ s.length = u.length + 1 := by
 have g0 : (A ++ u ++ x :: B).toArray[m]! = x := get_mid _ _ _ _ (by simp; omega)
 rw [g0]
 have gk : ∀ k, a ≤ k → k < m → (A ++ u ++ x :: B).toArray[k]! = u[k - a]! := fun k h1 h2 => get_in A u (x :: B) a k ha h1 (by omega)
 obtain ⟨h1, h2, h3, h4⟩ := bs_spec (fun h => !ltc c x (A ++ u ++ x :: B).toArray[h]!) (m - a) a m (Nat.le_refl _) (by omega)
 generalize bs (fun h => !ltc c x (A ++ u ++ x :: B).toArray[h]!) a m = i at h1 h2 h3 h4 ⊢
 obtain ⟨v1, v2, rfl, l1, l2, p1, p2⟩ := part_at u (i - a) (by omega)
 have q1 : ∀ y ∈ v1, c y ≤ c x := by
  intro y hy
  rcases h3 with h3 | h3
  ·have : v1 = [] := List.eq_nil_of_length_eq_zero (by omega)
   rw [this] at hy; cases hy
  ·by_cases h0 : 0 < i - a
   ·obtain ⟨z, r, hz, hz2⟩ := p1.out h0
    simp only [ltc, Bool.not_eq_true', decide_eq_false_iff_not] at h3
    rw [gk (i - 1) (by omega) (by omega), show i - 1 - a = i - a - 1 from by omega, hz2] at h3
    rw [hz] at hy
    have hs1 := hu.left
    rw [hz] at hs1
    rcases List.mem_append.1 hy with hy | hy
    ·have := hs1.last y hy; omega
    ·rw [List.mem_singleton.1 hy]; omega
   ·have : v1 = [] := List.eq_nil_of_length_eq_zero (by omega)
    rw [this] at hy; cases hy
 have q2 : ∀ y ∈ v2, c x < c y := by
  intro y hy
  rcases h4 with h4 | h4
  ·have : v2 = [] := List.eq_nil_of_length_eq_zero (by rw [List.length_append] at l2 hm; omega)
   rw [this] at hy; cases hy
  ·by_cases h0 : i - a < (v1 ++ v2).length
   ·obtain ⟨z, r, hz, hz2⟩ := p2.out h0
    simp only [ltc, Bool.not_eq_false', decide_eq_true_eq] at h4
    rw [gk i (by omega) (by omega), hz2] at h4
    have hs2 := hu.right
    rw [hz] at hy hs2
    rcases List.mem_cons.1 hy with rfl | hy
    ·omega
    ·have := hs2.head y hy; omega
   ·have : v2 = [] := List.eq_nil_of_length_eq_zero (by omega)
    rw [this] at hy; cases hy
 refine ⟨v1 ++ x :: v2, ?_, ?_, ?_, by simp; omega⟩
 ·have := shL_list x v2.reverse (A ++ v1) B i m (by simp; omega) (by rw [List.length_append] at hm; simp; omega)
  rw [List.reverse_reverse] at this
  have e : A ++ (v1 ++ v2) ++ x :: B = A ++ v1 ++ v2 ++ x :: B := by simp
  rw [e, this]; simp
 ·refine hu.left.app (List.pairwise_cons.2 ⟨fun y hy => by have := q2 y hy; omega, hu.right⟩) (fun y hy z hz => ?_)
  rcases List.mem_cons.1 hz with rfl | hz
  ·exact q1 y hy
  ·exact hu.mid y hy z hz
 ·have h5 : Sam c (v2 ++ [x]) ([x] ++ v2) := Sam.swap (fun y hy z hz => by rw [List.mem_singleton.1 hz]; exact q2 y hy)
  have := (Sam.refl (c := c) v1).app h5
  simpa using this
theorem start_spec (u v A B : List Int) (a m b : Nat) (ha : a = A.length) (hm : m = a + u.length) (hb : b = m + v.length) (h0 : 0 < u.length) (h1 : 0 < v.length) (hu : Srt c u) (hv : Srt c v) :
  ∃ u1 u2 v1 v2, u = u1 ++ u2 ∧ v = v1 ++ v2 ∧ symStart (ltc c) a m b (A ++ u ++ v ++ B).toArray = a + u1.length ∧ (a + b) / 2 + m - symStart (ltc c) a m b (A ++ u ++ v ++ B).toArray = m + v1.length ∧
   (∀ x ∈ u2, ∀ y ∈ v1, c y < c x) ∧ (∀ x ∈ u1, ∀ y ∈ v2, c x ≤ c y) ∧ u1.length + v1.length = (a + b) / 2 - a := by
 have gu : ∀ k, a ≤ k → k < m → (A ++ u ++ v ++ B).toArray[k]! = u[k - a]! := fun k h1 h2 => by
  have := get_in A u (v ++ B) a k ha h1 (by omega)
  simpa using this
 have gv : ∀ k, m ≤ k → k < b → (A ++ u ++ v ++ B).toArray[k]! = v[k - m]! := fun k h1 h2 => get_in (A ++ u) v B m k (by simp; omega) h1 (by omega)
 -- the search, in one form
 obtain ⟨lo, hi, hst, k1, k2, k3, k4⟩ : ∃ lo hi, symStart (ltc c) a m b (A ++ u ++ v ++ B).toArray = bs (fun k => !ltc c (A ++ u ++ v ++ B).toArray[(a + b) / 2 + m - 1 - k]! (A ++ u ++ v ++ B).toArray[k]!) lo hi ∧
   lo ≤ hi ∧ a ≤ lo ∧ hi ≤ m ∧ ((lo = (a + b) / 2 + m - b ∧ hi = (a + b) / 2) ∧ (a + b) / 2 < m ∨ (lo = a ∧ hi = m) ∧ ¬ (a + b) / 2 < m) := by
  unfold symStart
  by_cases hc : (a + b) / 2 < m
  ·rw [if_pos hc]; exact ⟨_, _, rfl, by omega, by omega, by omega, .inl ⟨⟨rfl, rfl⟩, hc⟩⟩
  ·rw [if_neg hc]; exact ⟨_, _, rfl, by omega, by omega, by omega, .inr ⟨⟨rfl, rfl⟩, hc⟩⟩
 rw [hst]
 obtain ⟨h2, h3, h4, h5⟩ := bs_spec (fun k => !ltc c (A ++ u ++ v ++ B).toArray[(a + b) / 2 + m - 1 - k]! (A ++ u ++ v ++ B).toArray[k]!) (hi - lo) lo hi (Nat.le_refl _) k1
 generalize bs (fun k => !ltc c (A ++ u ++ v ++ B).toArray[(a + b) / 2 + m - 1 - k]! (A ++ u ++ v ++ B).toArray[k]!) lo hi = s at h2 h3 h4 h5 ⊢
 clear hst
 have e1 : m ≤ (a + b) / 2 + m - s := by omega
 have e2 : (a + b) / 2 + m - s ≤ b := by omega
 generalize he : (a + b) / 2 + m - s = e at e1 e2 ⊢
 obtain ⟨u1, u2, rfl, l1, l2, p1, p2⟩ := part_at u (s - a) (by omega)
 obtain ⟨v1, v2, rfl, l3, l4, p3, p4⟩ := part_at v (e - m) (by omega)
 rw [List.length_append] at *
 refine ⟨u1, u2, v1, v2, rfl, rfl, by omega, by omega, fun x hx y hy => ?_, fun x hx y hy => ?_, by omega⟩
 ·have hx0 := List.length_pos_of_mem hx
  have hy0 := List.length_pos_of_mem hy
  obtain ⟨z, r, hz, hz2⟩ := p2.out (by omega)
  obtain ⟨z', r', hz', hz2'⟩ := p3.out (by omega)
  rcases h5 with h5 | h5
  ·omega
  ·simp only [ltc, Bool.not_eq_false', decide_eq_true_eq] at h5
   rw [show (a + b) / 2 + m - 1 - s = e - 1 from by omega, gv (e - 1) (by omega) (by omega), gu s (by omega) (by omega), show e - 1 - m = e - m - 1 from by omega, hz2, hz2'] at h5
   have hs1 := hu.right
   have hs2 := hv.left
   rw [hz] at hx hs1
   rw [hz'] at hy hs2
   have q1 : c z ≤ c x := by
    rcases List.mem_cons.1 hx with rfl | hx
    ·omega
    ·exact hs1.head x hx
   have q2 : c y ≤ c z' := by
    rcases List.mem_append.1 hy with hy | hy
    ·exact hs2.last y hy
    ·rw [List.mem_singleton.1 hy]; omega
   omega
 ·have hx0 := List.length_pos_of_mem hx
  have hy0 := List.length_pos_of_mem hy
  obtain ⟨z, r, hz, hz2⟩ := p1.out (by omega)
  obtain ⟨z', r', hz', hz2'⟩ := p4.out (by omega)
  rcases h4 with h4 | h4
  ·omega
  ·simp only [ltc, Bool.not_eq_true', decide_eq_false_iff_not] at h4
   rw [show (a + b) / 2 + m - 1 - (s - 1) = e from by omega, gv e (by omega) (by omega), gu (s - 1) (by omega) (by omega), show s - 1 - a = s - a - 1 from by omega, hz2, hz2'] at h4
   have hs1 := hu.left
   have hs2 := hv.right
   rw [hz] at hx hs1
   rw [hz'] at hy hs2
   have q1 : c x ≤ c z := by
    rcases List.mem_append.1 hx with hx | hx
    ·exact hs1.last x hx
    ·rw [List.mem_singleton.1 hx]; omega
   have q2 : c z' ≤ c y := by
    rcases List.mem_cons.1 hy with rfl | hy
    ·omega
    ·exact hs2.head y hy
   omega
theorem symM_list : ∀ (t : Nat) (u v A B : List Int) (a m b : Nat), b - a ≤ t → a = A.length → m = a + u.length → b = m + v.length → Srt c u → Srt c v →
  ∃ s, symM (ltc c) a m b (A ++ u ++ v ++ B).toArray = (A ++ s ++ B).toArray ∧ Srt c s ∧ Sam c (u ++ v) s ∧ s.length = u.length + v.length := by
 intro t
 induction t with
 | zero =>
  intro u v A B a m b h ha hm hb hu hv
  have : u = [] := List.eq_nil_of_length_eq_zero (by omega)
  subst this
  have : v = [] := List.eq_nil_of_length_eq_zero (by omega)
  subst this
  exact ⟨[], by rw [symM, dif_neg (by omega)]; simp, hu, Sam.refl _, rfl⟩
 | succ t ih =>
  intro u v A B a m b h ha hm hb hu hv
  rw [symM]
  by_cases hg : a < m ∧ m < b
  ·rw [dif_pos hg]
   by_cases c1 : m - a = 1
   ·rw [if_pos c1]
    obtain ⟨x, rfl⟩ : ∃ x, u = [x] := List.length_eq_one_iff.1 (by omega)
    have := sym_left x v A B a m b ha (by omega) hb hv
    simpa [Nat.add_comm] using this
   ·rw [if_neg c1]
    by_cases c2 : b - m = 1
    ·rw [if_pos c2]
     obtain ⟨x, rfl⟩ : ∃ x, v = [x] := List.length_eq_one_iff.1 (by omega)
     have := sym_right x u A B a m b ha hm hu
     simpa using this
    ·rw [if_neg c2]
     obtain ⟨u1, u2, v1, v2, rfl, rfl, hs, he, q1, q2, hl⟩ := start_spec u v A B a m b ha hm hb (by omega) (by omega) hu hv
     generalize symStart (ltc c) a m b (A ++ (u1 ++ u2) ++ (v1 ++ v2) ++ B).toArray = S at hs he ⊢
     simp only [he]
     simp only [hs]
     clear he hs
     rw [List.length_append] at *
     have hd1 : (if a + u1.length < m ∧ m < m + v1.length then rot m (m - (a + u1.length)) (m + v1.length - m) (A ++ (u1 ++ u2) ++ (v1 ++ v2) ++ B).toArray else (A ++ (u1 ++ u2) ++ (v1 ++ v2) ++ B).toArray) = (A ++ u1 ++ v1 ++ (u2 ++ v2 ++ B)).toArray := by
      by_cases hc : a + u1.length < m ∧ m < m + v1.length
      ·rw [if_pos hc]
       have := rot_list _ (A ++ u1) u2 v1 (v2 ++ B) m (m - (a + u1.length)) (m + v1.length - m) (Nat.le_refl _) (by omega) (by omega) (by simp; omega) (by omega) (by omega)
       simpa using this
      ·rw [if_neg hc]
       by_cases h0 : u2.length = 0
       ·have := List.eq_nil_of_length_eq_zero h0
        subst this; simp
       ·have := List.eq_nil_of_length_eq_zero (show v1.length = 0 by omega)
        subst this; simp
     rw [hd1]
     have hd2 : ∃ s1, (if a < a + u1.length ∧ a + u1.length < (a + b) / 2 then symM (ltc c) a (a + u1.length) ((a + b) / 2) (A ++ u1 ++ v1 ++ (u2 ++ v2 ++ B)).toArray else (A ++ u1 ++ v1 ++ (u2 ++ v2 ++ B)).toArray) = (A ++ s1 ++ (u2 ++ v2 ++ B)).toArray ∧
       Srt c s1 ∧ Sam c (u1 ++ v1) s1 ∧ s1.length = u1.length + v1.length := by
      by_cases hc : a < a + u1.length ∧ a + u1.length < (a + b) / 2
      ·rw [if_pos hc]
       exact ih u1 v1 A (u2 ++ v2 ++ B) a (a + u1.length) ((a + b) / 2) (by omega) ha rfl (by omega) hu.left hv.left
      ·rw [if_neg hc]
       by_cases h0 : u1.length = 0
       ·have := List.eq_nil_of_length_eq_zero h0
        subst this
        exact ⟨v1, by simp, hv.left, Sam.refl _, by simp⟩
       ·have := List.eq_nil_of_length_eq_zero (show v1.length = 0 by omega)
        subst this
        exact ⟨u1, by simp, hu.left, by rw [List.append_nil]; exact Sam.refl _, by simp⟩
     obtain ⟨s1, e1, z1, m1, l1⟩ := hd2
     rw [e1]
     have hd3 : ∃ s2, (if (a + b) / 2 < m + v1.length ∧ m + v1.length < b then symM (ltc c) ((a + b) / 2) (m + v1.length) b (A ++ s1 ++ (u2 ++ v2 ++ B)).toArray else (A ++ s1 ++ (u2 ++ v2 ++ B)).toArray) = (A ++ s1 ++ s2 ++ B).toArray ∧
       Srt c s2 ∧ Sam c (u2 ++ v2) s2 ∧ s2.length = u2.length + v2.length := by
      by_cases hc : (a + b) / 2 < m + v1.length ∧ m + v1.length < b
      ·rw [if_pos hc]
       have := ih u2 v2 (A ++ s1) B ((a + b) / 2) (m + v1.length) b (by omega) (by simp; omega) (by omega) (by omega) hu.right hv.right
       simpa using this
      ·rw [if_neg hc]
       by_cases h0 : u2.length = 0
       ·have := List.eq_nil_of_length_eq_zero h0
        subst this
        exact ⟨v2, by simp, hv.right, Sam.refl _, by simp⟩
       ·have := List.eq_nil_of_length_eq_zero (show v2.length = 0 by omega)
        subst this
        exact ⟨u2, by simp, hu.right, by rw [List.append_nil]; exact Sam.refl _, by simp⟩
     obtain ⟨s2, e2, z2, m2, l2⟩ := hd3
     rw [e2]
     refine ⟨s1 ++ s2, by simp, z1.app z2 (fun x hx y hy => ?_), ?_, by simp only [List.length_append]; omega⟩
     ·have hx := m1.symm.len_mem x hx
      have hy := m2.symm.len_mem y hy
      rcases List.mem_append.1 hx with hx | hx <;> rcases List.mem_append.1 hy with hy | hy
      ·exact hu.mid x hx y hy
      ·exact q2 x hx y hy
      ·have := q1 y hy x hx; omega
      ·exact hv.mid x hx y hy
     ·have h5 : Sam c (u2 ++ v1) (v1 ++ u2) := Sam.swap q1
      have h6 := ((Sam.refl (c := c) u1).app h5).app (Sam.refl (c := c) v2)
      have h7 := m1.app m2
      have e3 : u1 ++ u2 ++ (v1 ++ v2) = u1 ++ (u2 ++ v1) ++ v2 := by simp
      have e4 : u1 ++ v1 ++ (u2 ++ v2) = u1 ++ (v1 ++ u2) ++ v2 := by simp
      rw [e4] at h7
      rw [e3]
      exact h6.trans h7
  ·rw [dif_neg hg]
   by_cases h0 : u.length = 0
   ·have := List.eq_nil_of_length_eq_zero h0
    subst this
    exact ⟨v, by simp, hv, Sam.refl _, by simp⟩
   ·have := List.eq_nil_of_length_eq_zero (show v.length = 0 by omega)
    subst this
    exact ⟨u, by simp, hu, by rw [List.append_nil]; exact Sam.refl _, by simp⟩
def Blk (c : Int → Int) (z : Nat) (l : List Int) : Prop := ∃ (L : List (List Int)) (t : List Int), l = L.flatten ++ t ∧ (∀ x ∈ L, x.length = z ∧ Srt c x) ∧ t.length ≤ z ∧ Srt c t
theorem blks_list (n : Nat) : ∀ (t : Nat) (A s : List Int) (a : Nat), n - a ≤ t → a = A.length → n = a + s.length →
  ∃ s', blks (ltc c) n a (A ++ s).toArray = (A ++ s').toArray ∧ Blk c 20 s' ∧ Sam c s s' ∧ s'.length = s.length := by
 intro t
 induction t with
 | zero =>
  intro A s a h ha hn
  have : s = [] := List.eq_nil_of_length_eq_zero (by omega)
  subst this
  rw [blks, dif_neg (by omega)]
  obtain ⟨s', h1, h2, h3, h4⟩ := ins_list (c := c) A [] [] a n ha (by simp; omega)
  have : s' = [] := List.eq_nil_of_length_eq_zero h4
  subst this
  exact ⟨[], by simpa using h1, ⟨[], [], rfl, by simp, by simp, List.Pairwise.nil⟩, Sam.refl _, rfl⟩
 | succ t ih =>
  intro A s a h ha hn
  rw [blks]
  by_cases hc : a + 20 ≤ n
  ·rw [dif_pos hc]
   obtain ⟨s1, s2, rfl, l1, l2, _, _⟩ := part_at s 20 (by omega)
   rw [List.length_append] at *
   obtain ⟨s1', h1, h2, h3, h4⟩ := ins_list (c := c) A s1 s2 a (a + 20) ha (by omega)
   rw [← List.append_assoc, h1]
   obtain ⟨s', h5, ⟨L, q, rfl, h6, h7, h8⟩, h9, h10⟩ := ih (A ++ s1') s2 (a + 20) (by omega) (by simp; omega) (by omega)
   rw [h5]
   refine ⟨s1' ++ (L.flatten ++ q), by simp, ⟨s1' :: L, q, by simp, fun x hx => ?_, h7, h8⟩, h3.app h9, by simp at h10 ⊢; omega⟩
   rcases List.mem_cons.1 hx with rfl | hx
   ·exact ⟨by omega, h2⟩
   ·exact h6 x hx
  ·rw [dif_neg hc]
   obtain ⟨s', h1, h2, h3, h4⟩ := ins_list (c := c) A s [] a n ha hn
   rw [List.append_nil, List.append_nil] at h1
   exact ⟨s', h1, ⟨[], s', by simp, by simp, by omega, h2⟩, h3, h4⟩
theorem mrg_list (n z : Nat) (hz : 0 < z) : ∀ (k : Nat) (A t : List Int) (L : List (List Int)) (a : Nat), L.length ≤ k → a = A.length → n = a + (L.flatten ++ t).length → (∀ x ∈ L, x.length = z ∧ Srt c x) → t.length ≤ z → Srt c t →
  ∃ s', mrg (ltc c) n z a (A ++ (L.flatten ++ t)).toArray = (A ++ s').toArray ∧ Blk c (2 * z) s' ∧ Sam c (L.flatten ++ t) s' ∧ s'.length = (L.flatten ++ t).length := by
 intro k
 induction k using Nat.strongRecOn with
 | ind k ih =>
  intro A t L a hk ha hn hL ht hs
  match L, hk, hn, hL with
  | [], hk, hn, hL =>
   simp only [List.flatten_nil, List.nil_append] at hn ⊢
   by_cases h2 : 0 < z ∧ a + 2 * z ≤ n
   ·omega
   ·rw [mrg, dif_neg h2, if_neg (by omega)]
    exact ⟨t, rfl, ⟨[], t, by simp, by simp, by omega, hs⟩, Sam.refl _, rfl⟩
  | [x], hk, hn, hL =>
   obtain ⟨hx1, hx2⟩ := hL x (by simp)
   simp only [List.flatten_cons, List.flatten_nil, List.append_nil, List.length_append] at hn ⊢
   by_cases h2 : 0 < z ∧ a + 2 * z ≤ n
   ·rw [mrg, dif_pos h2]
    -- t has z elements, too
    obtain ⟨s, h3, h4, h5, h6⟩ := symM_list (c := c) (a + 2 * z - a) x t A [] a (a + z) (a + 2 * z) (Nat.le_refl _) ha (by omega) (by omega) hx2 hs
    rw [List.append_nil, List.append_nil, List.append_assoc] at h3
    rw [h3, mrg, dif_neg (by omega), if_neg (by omega)]
    exact ⟨s, rfl, ⟨[], s, by simp, by simp, by omega, h4⟩, h5, by omega⟩
   ·rw [mrg, dif_neg h2]
    by_cases h3 : a + z < n
    ·rw [if_pos h3]
     obtain ⟨s, h3, h4, h5, h6⟩ := symM_list (c := c) (n - a) x t A [] a (a + z) n (Nat.le_refl _) ha (by omega) (by omega) hx2 hs
     rw [List.append_nil, List.append_nil, List.append_assoc] at h3
     rw [h3]
     exact ⟨s, rfl, ⟨[], s, by simp, by simp, by omega, h4⟩, h5, by omega⟩
    ·rw [if_neg h3]
     have : t = [] := List.eq_nil_of_length_eq_zero (by omega)
     subst this
     refine ⟨x ++ [], rfl, ⟨[], x, by simp, by simp, by omega, hx2⟩, Sam.refl _, by simp⟩
  | x :: y :: L, hk, hn, hL =>
   obtain ⟨hx1, hx2⟩ := hL x (by simp)
   obtain ⟨hy1, hy2⟩ := hL y (by simp)
   simp only [List.flatten_cons, List.length_append, List.length_cons] at hn hk ⊢
   rw [mrg, dif_pos (by omega)]
   obtain ⟨s, h3, h4, h5, h6⟩ := symM_list (c := c) (a + 2 * z - a) x y A (L.flatten ++ t) a (a + z) (a + 2 * z) (Nat.le_refl _) ha (by omega) (by omega) hx2 hy2
   have e : A ++ (x ++ (y ++ L.flatten) ++ t) = A ++ x ++ y ++ (L.flatten ++ t) := by simp
   rw [e, h3]
   obtain ⟨s', g1, ⟨L', q, rfl, g2, g3, g4⟩, g5, g6⟩ := ih L.length (by omega) (A ++ s) t L (a + 2 * z) (Nat.le_refl _) (by rw [List.length_append]; omega) (by rw [List.length_append]; omega) (fun x hx => hL x (by simp [hx])) ht hs
   rw [g1]
   refine ⟨s ++ (L'.flatten ++ q), by simp, ⟨s :: L', q, by simp, fun x hx => ?_, g3, g4⟩, ?_, by simp at g6 ⊢; omega⟩
   ·rcases List.mem_cons.1 hx with rfl | hx
    ·exact ⟨by omega, h4⟩
    ·exact g2 x hx
   ·have := h5.app g5
    simpa using this
theorem rnds_list (n : Nat) : ∀ (k z : Nat) (l : List Int), n - z ≤ k → 0 < z → n = l.length → Blk c z l → ∃ s, rnds (ltc c) n z l.toArray = s.toArray ∧ Srt c s ∧ Sam c l s := by
 have base : ∀ (z : Nat) (l : List Int), 0 < z → n ≤ z → n = l.length → Blk c z l → Srt c l := by
  rintro z l h0 h hn ⟨L, t, rfl, h1, h2, h3⟩
  match L, hn, h1 with
  | [], hn, h1 => simpa using h3
  | [x], hn, h1 =>
   obtain ⟨a, b⟩ := h1 x (by simp)
   simp at hn
   have : t = [] := List.eq_nil_of_length_eq_zero (by omega)
   subst this
   simpa using b
  | x :: y :: L, hn, h1 =>
   obtain ⟨a, _⟩ := h1 x (by simp)
   obtain ⟨b, _⟩ := h1 y (by simp)
   simp at hn; omega
 intro k
 induction k with
 | zero =>
  intro z l h hz hn hb
  rw [rnds, dif_neg (by omega)]
  exact ⟨l, rfl, base z l hz (by omega) hn hb, Sam.refl _⟩
 | succ k ih =>
  intro z l h hz hn hb
  by_cases hc : 0 < z ∧ z < n
  ·rw [rnds, dif_pos hc]
   obtain ⟨L, t, rfl, h1, h2, h3⟩ := hb
   obtain ⟨s, g1, g2, g3, g4⟩ := mrg_list (c := c) n z hz L.length [] t L 0 (Nat.le_refl _) rfl (by simpa using hn) h1 h2 h3
   rw [List.nil_append, List.nil_append] at g1
   rw [g1]
   obtain ⟨s', k1, k2, k3⟩ := ih (2 * z) s (by omega) (by omega) (by omega) g2
   exact ⟨s', k1, k2, g3.trans k3⟩
  ·rw [rnds, dif_neg hc]
   exact ⟨l, rfl, base z l hz (by omega) hn hb, Sam.refl _⟩
theorem stab_list (l : List Int) : ∃ s, stab (ltc c) l.toArray = s.toArray ∧ Srt c s ∧ Sam c l s := by
 rw [stab, List.size_toArray]
 obtain ⟨s1, h1, h2, h3, h4⟩ := blks_list (c := c) l.length l.length [] l 0 (by omega) rfl (by simp)
 rw [List.nil_append, List.nil_append] at h1
 rw [h1]
 obtain ⟨s, g1, g2, g3⟩ := rnds_list (c := c) l.length l.length 20 s1 (by omega) (by omega) h4.symm h2
 exact ⟨s, g1, g2, h3.trans g3⟩
def insL (c : Int → Int) (x : Int) : List Int → List Int
 | [] => [x]
 | y :: r => if c y < c x then y :: insL c x r else x :: y :: r
def srtL (c : Int → Int) : List Int → List Int
 | [] => []
 | x :: l => insL c x (srtL c l)
theorem insL_mem (x y : Int) : ∀ l : List Int, y ∈ insL c x l ↔ y = x ∨ y ∈ l
 | [] => by simp [insL]
 | z :: r => by
  rw [insL]
  split
  ·rw [List.mem_cons, List.mem_cons, insL_mem x y r]
   constructor
   ·rintro (h | h | h) <;> simp [h]
   ·rintro (h | h | h) <;> simp [h]
  ·simp
theorem insL_srt (x : Int) : ∀ l : List Int, Srt c l → Srt c (insL c x l)
 | [], _ => by simp [insL, Srt]
 | y :: r, h => by
  rw [insL]
  split
  ·refine List.pairwise_cons.2 ⟨fun z hz => ?_, insL_srt x r (List.pairwise_cons.1 h).2⟩
   rcases (insL_mem x z r).1 hz with rfl | hz
   ·omega
   ·exact h.head z hz
  ·refine List.pairwise_cons.2 ⟨fun z hz => ?_, h⟩
   rcases List.mem_cons.1 hz with rfl | hz
   ·omega
   ·have := h.head z hz; omega
theorem insL_sam (x : Int) : ∀ l : List Int, Sam c (x :: l) (insL c x l)
 | [] => Sam.refl _
 | y :: r => by
  rw [insL]
  split
  next h =>
   have h1 : Sam c ([x] ++ [y]) ([y] ++ [x]) := Sam.swap (fun a ha b hb => by rw [List.mem_singleton.1 ha, List.mem_singleton.1 hb]; exact h)
   have h2 := h1.app (Sam.refl (c := c) r)
   have h3 := (Sam.refl (c := c) [y]).app (insL_sam x r)
   exact h2.trans h3
  next h => exact Sam.refl _
theorem srtL_srt : ∀ l : List Int, Srt c (srtL c l)
 | [] => List.Pairwise.nil
 | x :: l => insL_srt x _ (srtL_srt l)
theorem srtL_sam : ∀ l : List Int, Sam c l (srtL c l)
 | [] => Sam.refl _
 | x :: l => ((Sam.refl (c := c) [x]).app (srtL_sam l)).trans (insL_sam x _)
theorem stab_eq (l : List Int) : stab (ltc c) l.toArray = (srtL c l).toArray := by
 obtain ⟨s, h1, h2, h3⟩ := stab_list (c := c) l
 rw [h1, Srt.uniq h2 (srtL_srt l) (h3.symm.trans (srtL_sam l))]
theorem insL_length (x : Int) : ∀ l : List Int, (insL c x l).length = l.length + 1
 | [] => rfl
 | y :: r => by rw [insL]; split <;> simp [insL_length x r]
theorem srtL_length : ∀ l : List Int, (srtL c l).length = l.length
 | [] => rfl
 | x :: l => by rw [srtL, insL_length, srtL_length]; rfl
end Go.Proofs.YtnbedmihgnjdpaaDoor.Stab
/- The walks of Go's stable sort in place (slices.SortStableFunc of int64): what the library's own text computes is Stab's functions. -/
namespace Go.Proofs.YtnbedmihgnjdpaaDoor.Stab
open Go.Shelf Go.RowKit Go.Lib Go.Sort
abbrev enc : Int → Value := Value.int .i64
set_option maxHeartbeats 4000000 in
set_option maxRecDepth 1000000 in
theorem swapRange_calls (blk off cap a b n N : Nat) (cmp : Value) (d : Array Int) (w : World) (hN : d.size = N) (hH : Holds enc w blk off d) (ha : a + n ≤ d.size) (hb : b + n ≤ d.size) (hab : a + n ≤ b) (hsz : d.size < 4611686018427387904) :
  Calls Tryd.prog 107 #[.slice (some ⟨blk, off, none⟩) N cap, .int .i64 a, .int .i64 b, .int .i64 n, cmp] w fun e w' =>
   e = .returned (.tuple #[]) ∧ ∃ q, w' = (putRow enc w blk off (swR a b n 0 d)).drewN q := by
 subst hN
 have HST : Aside (w = (putRow enc w blk off d).drewN 0) := (putRow_self enc w blk off d hH).symm
 have HH : Aside (Holds enc w blk off d) := hH
 clear hH
 go_enter Tryd.func107, Tryd.ntmps107
 go_wp2
 go_loopg [10] n (fun g1 vi wr => ∃ (i q : Nat) (dk : Array Int), vi = .int .i64 i ∧ i ≤ n ∧ n - i ≤ g1 ∧ dk.size = d.size ∧ wr = (putRow enc w blk off dk).drewN q ∧ Aside (swR a b n i dk = swR a b n 0 d))
 case atStart => exact ⟨0, 0, d, by go_num, by omega, by omega, rfl, HST.out, rfl⟩
 case round =>
  obtain ⟨i, q, dk, rfl, hin, hg1, hsk, hwr, HO⟩ := hrel
  by_cases hlt : i < n
  ·have hltz : (i : Int) < (n : Int) := by omega
   have hHk : Holds enc wr blk off dk := by rw [hwr]; exact holds_putRow enc w blk off d dk HH.out hsk
   obtain ⟨x, hx⟩ : ∃ x, x = a + i := ⟨_, rfl⟩
   obtain ⟨y, hy⟩ : ∃ y, y = b + i := ⟨_, rfl⟩
   obtain ⟨ci, fi⟩ := hHk x (by omega)
   obtain ⟨cj, fj⟩ := hHk y (by omega)
   have wx : IntKind.i64.wrap ((a : Int) + (i : Int)) = (x : Int) := by rw [IntKind.wrap_i64]; omega
   have wy : IntKind.i64.wrap ((b : Int) + (i : Int)) = (y : Int) := by rw [IntKind.wrap_i64]; omega
   have xz : (x : Int) < (d.size : Int) := by omega
   have yz : (y : Int) < (d.size : Int) := by omega
   have A : Aside (wr = (putRow enc w blk off dk).drewN q) := hwr
   have XY : Aside (x = a + i ∧ y = b + i) := ⟨hx, hy⟩
   have hne : ¬ off + x = off + y := by omega
   have hne2 : ¬ off + y = off + x := by omega
   clear hwr hHk hx hy
   go_wp2_with fail
   go_region
   go_wp2
   go_roundg (n - (i + 1))
   case measure => omega
   case rel =>
    refine ⟨i + 1, q + 1, swp dk x y, by go_num, by omega, by omega, by rw [size_swp]; exact hsk, ?_, (show Aside _ from ?_)⟩
    ·rw [A.out]; exact swap_worldC enc w blk off dk q x y (by have := XY.out; omega) (by have := XY.out; omega)
    ·show _ = _
     rw [← HO.out, swR.eq_1 (i := i), dif_pos hlt, XY.out.1, XY.out.2]
  ·have hltz : ¬ (i : Int) < (n : Int) := by omega
   go_wp2
   go_end0
   exact ⟨rfl, q, by rw [← HO.out, swR, dif_neg hlt] <;> exact hwr⟩
theorem relay (w : World) (blk off q q2 : Nat) (d dk X : Array Int) (h : X.size = dk.size) : (putRow enc ((putRow enc w blk off dk).drewN q) blk off X).drewN q2 = (putRow enc w blk off X).drewN (q + q2) := by
 have h1 : putRow enc ((putRow enc w blk off dk).drewN q) blk off X = (putRow enc (putRow enc w blk off dk) blk off X).drewN q := rfl
 rw [h1, putRow_putRow enc w blk off dk X h, World.drewN_drewN]
set_option maxHeartbeats 4000000 in
set_option maxRecDepth 1000000 in
theorem rotate_calls (blk off cap a m b N : Nat) (cmp : Value) (d : Array Int) (w : World) (hN : d.size = N) (hH : Holds enc w blk off d) (ham : a < m) (hmb : m < b) (hb : b ≤ d.size) (hsz : d.size < 4611686018427387904) :
  Calls Tryd.prog 106 #[.slice (some ⟨blk, off, none⟩) N cap, .int .i64 a, .int .i64 m, .int .i64 b, cmp] w fun e w' =>
   e = .returned (.tuple #[]) ∧ ∃ q, w' = (putRow enc w blk off (rot m (m - a) (b - m) d)).drewN q := by
 subst hN
 have HST : Aside (w = (putRow enc w blk off d).drewN 0) := (putRow_self enc w blk off d hH).symm
 have HH : Aside (Holds enc w blk off d) := hH
 clear hH
 obtain ⟨i0, hi0⟩ : ∃ i0, i0 = m - a := ⟨_, rfl⟩
 obtain ⟨j0, hj0⟩ : ∃ j0, j0 = b - m := ⟨_, rfl⟩
 have wi : IntKind.i64.wrap ((m : Int) - (a : Int)) = (i0 : Int) := by rw [IntKind.wrap_i64]; omega
 have wj : IntKind.i64.wrap ((b : Int) - (m : Int)) = (j0 : Int) := by rw [IntKind.wrap_i64]; omega
 rw [← hi0, ← hj0]
 have HIJ : Aside (i0 = m - a ∧ j0 = b - m) := ⟨hi0, hj0⟩
 clear hi0 hj0
 go_enter Tryd.func106, Tryd.ntmps106
 go_wp2
 go_loopg [10, 11] (i0 + j0) (fun g1 vi vj wr => ∃ (i j q : Nat) (dk : Array Int), vi = .int .i64 i ∧ vj = .int .i64 j ∧ 0 < i ∧ 0 < j ∧ i ≤ i0 ∧ j ≤ j0 ∧ i + j ≤ g1 ∧ dk.size = d.size ∧ wr = (putRow enc w blk off dk).drewN q ∧ Aside (rot m i j dk = rot m i0 j0 d))
 case atStart => 
  have := HIJ.out
  exact ⟨i0, j0, 0, d, by go_num, by go_num, by omega, by omega, by omega, by omega, by omega, rfl, HST.out, rfl⟩
 case round =>
  obtain ⟨i, j, q, dk, rfl, rfl, hi, hj, hii, hjj, hg1, hsk, hwr, HO⟩ := hrel
  have hHk : Holds enc wr blk off dk := by rw [hwr]; exact holds_putRow enc w blk off d dk HH.out hsk
  have hij := HIJ.out
  obtain ⟨x, hx⟩ : ∃ x, x = m - i := ⟨_, rfl⟩
  have wx : IntKind.i64.wrap ((m : Int) - (i : Int)) = (x : Int) := by rw [IntKind.wrap_i64]; omega
  have A : Aside (wr = (putRow enc w blk off dk).drewN q) := hwr
  clear hwr
  have HX : Aside (x = m - i) := hx
  by_cases heq : i = j
  ·subst heq
   have hc := swapRange_calls blk off cap x m i d.size cmp dk wr (by omega) hHk (by omega) (by omega) (by omega) (by omega)
   clear hHk hx hij
   go_wp2_with (first | (go_at_call 107; with_reducible refine hc.mono ?_; rintro e w' ⟨rfl, q2, rfl⟩))
   go_end0
   refine ⟨rfl, q + q2, ?_⟩
   rw [A.out, relay w blk off q q2 d dk _ (swR_size _ _ _ _ _ _ (Nat.le_refl _)), ← HO.out, rot, dif_pos (Or.inl rfl), HX.out]
  ·have hne : ((i : Int) == (j : Int)) = false := by simp; omega
   have hne2 : ¬ (i : Int) = (j : Int) := by omega
   by_cases hgt : j < i
   ·have hgz : (j : Int) < (i : Int) := by omega
    have hc := swapRange_calls blk off cap x m j d.size cmp dk wr (by omega) hHk (by omega) (by omega) (by omega) (by omega)
    clear hHk
    obtain ⟨i1, hi1⟩ : ∃ i1, i1 = i - j := ⟨_, rfl⟩
    have wi1 : IntKind.i64.wrap ((i : Int) - (j : Int)) = (i1 : Int) := by rw [IntKind.wrap_i64]; omega
    have HI1 : Aside (i1 = i - j) := hi1
    clear hx hi1 hij
    go_wp2_with (first | (go_at_call 107; with_reducible refine hc.mono ?_; rintro e w' ⟨rfl, q2, rfl⟩))
    go_roundg (i1 + j)
    case measure => have := HI1.out; omega
    case rel =>
     have hi1 := HI1.out
     have hx := HX.out
     refine ⟨i1, j, q + q2, swR x m j 0 dk, by go_num, by go_num, by omega, by omega, by omega, by omega, by omega, by rw [swR_size _ _ _ _ _ _ (Nat.le_refl _)]; exact hsk, ?_, (show Aside _ from ?_)⟩
     ·rw [A.out, relay w blk off q q2 d dk _ (swR_size _ _ _ _ _ _ (Nat.le_refl _))]
     ·show _ = _
      rw [← HO.out, rot.eq_1 (i := i) (j := j), dif_neg (by omega), dif_pos hgt, hx, hi1]
   ·have hgz : ¬ (j : Int) < (i : Int) := by omega
    obtain ⟨y, hy⟩ : ∃ y, y = m + j := ⟨_, rfl⟩
    have wy : IntKind.i64.wrap ((m : Int) + (j : Int)) = (y : Int) := by rw [IntKind.wrap_i64]; omega
    obtain ⟨z, hz⟩ : ∃ z, z = y - i := ⟨_, rfl⟩
    have wz : IntKind.i64.wrap ((y : Int) - (i : Int)) = (z : Int) := by rw [IntKind.wrap_i64]; omega
    have hc := swapRange_calls blk off cap x z i d.size cmp dk wr (by omega) hHk (by omega) (by omega) (by omega) (by omega)
    clear hHk
    obtain ⟨j1, hj1⟩ : ∃ j1, j1 = j - i := ⟨_, rfl⟩
    have wj1 : IntKind.i64.wrap ((j : Int) - (i : Int)) = (j1 : Int) := by rw [IntKind.wrap_i64]; omega
    have HJ1 : Aside (j1 = j - i ∧ z = y - i ∧ y = m + j) := ⟨hj1, hz, hy⟩
    clear hx hj1 hz hy hij
    go_wp2_with (first | (go_at_call 107; with_reducible refine hc.mono ?_; rintro e w' ⟨rfl, q2, rfl⟩))
    go_roundg (i + j1)
    case measure => have := HJ1.out; omega
    case rel =>
     have hx := HX.out
     obtain ⟨hj1, hz, hy⟩ := HJ1.out
     refine ⟨i, j1, q + q2, swR x z i 0 dk, by go_num, by go_num, by omega, by omega, by omega, by omega, by omega, by rw [swR_size _ _ _ _ _ _ (Nat.le_refl _)]; exact hsk, ?_, (show Aside _ from ?_)⟩
     ·rw [A.out, relay w blk off q q2 d dk _ (swR_size _ _ _ _ _ _ (Nat.le_refl _))]
     ·show _ = _
      rw [← HO.out, rot.eq_1 (i := i) (j := j), dif_neg (by omega), dif_neg hgt, hx, hz, hy, hj1]
end Go.Proofs.YtnbedmihgnjdpaaDoor.Stab
/- The walk of slices.symMergeCmpFunc at int64. -/
namespace Go.Proofs.YtnbedmihgnjdpaaDoor.Stab
open Go.Shelf Go.RowKit Go.Lib Go.Sort
def CmpOk (cf : Int → Int → Int) : Prop := ∀ (x y : Int) (W : World), Calls Tryd.prog 79 #[enc x, enc y] W fun e w' => e = .returned (.int .i64 (cf x y)) ∧ ∃ q, w' = W.drewN q
theorem bs_go (p : Nat → Bool) (i j : Nat) (h : i < j) (hp : p ((i + j) / 2) = true) : bs p i j = bs p ((i + j) / 2 + 1) j := by rw [bs, dif_pos h, if_pos hp]
theorem bs_no (p : Nat → Bool) (i j : Nat) (h : i < j) (hp : p ((i + j) / 2) = false) : bs p i j = bs p i ((i + j) / 2) := by rw [bs, dif_pos h, if_neg (by rw [hp]; decide)]
theorem bs_end (p : Nat → Bool) (i j : Nat) (h : ¬ i < j) : bs p i j = i := by rw [bs, dif_neg h]
set_option maxHeartbeats 4000000 in
set_option maxRecDepth 1000000 in
theorem sym1_calls (cf : Int → Int → Int) (hcmp : CmpOk cf) (blk off cap a m b N : Nat) (d : Array Int) (w : World) (hN : d.size = N) (hH : Holds enc w blk off d) (ham : m = a + 1) (hmb : m < b) (hb : b ≤ d.size) (hsz : d.size < 4611686018427387904) :
  Calls Tryd.prog 102 #[.slice (some ⟨blk, off, none⟩) N cap, .int .i64 a, .int .i64 m, .int .i64 b, (.func (.func 79) #[] #[])] w fun e w' =>
   e = .returned (.tuple #[]) ∧ ∃ q, w' = (putRow enc w blk off (shR (bs (fun h => ltOf cf d[h]! d[a]!) m b) a d)).drewN q := by
 subst hN
 have HST : Aside (w = (putRow enc w blk off d).drewN 0) := (putRow_self enc w blk off d hH).symm
 have HH : Aside (Holds enc w blk off d) := hH
 have HC : Aside _ := hcmp
 clear hH hcmp
 have w1 : IntKind.i64.wrap ((m : Int) - (a : Int)) = 1 := by rw [IntKind.wrap_i64]; omega
 have HM : Aside (m = a + 1) := ham
 clear ham
 go_enter Tryd.func102, Tryd.ntmps102
 go_wp2
 go_loopg [10, 11] (b - m) (fun g1 vi vj wr => ∃ (i j q : Nat), vi = .int .i64 i ∧ vj = .int .i64 j ∧ m ≤ i ∧ i ≤ j ∧ j ≤ b ∧ j - i ≤ g1 ∧ wr = (putRow enc w blk off d).drewN q ∧ Aside (bs (fun h => ltOf cf d[h]! d[a]!) i j = bs (fun h => ltOf cf d[h]! d[a]!) m b))
 case atStart => exact ⟨m, b, 0, by go_num, by go_num, by omega, by omega, by omega, by omega, HST.out, rfl⟩
 case round =>
  obtain ⟨i, j, q, rfl, rfl, hmi, hij, hjb, hg1, hwr, HO⟩ := hrel
  by_cases hlt : i < j
  ·have hltz : (i : Int) < (j : Int) := by omega
   have hHk : Holds enc wr blk off d := by rw [hwr]; exact holds_putRow enc w blk off d d HH.out rfl
   have A : Aside (wr = (putRow enc w blk off d).drewN q) := hwr
   clear hwr
   obtain ⟨h, hh⟩ : ∃ h, h = (i + j) / 2 := ⟨_, rfl⟩
   have eh : ((i : Int) + (j : Int)) / 2 = (h : Int) := by omega
   obtain ⟨x, hx⟩ : ∃ x, d[h]! = x := ⟨_, rfl⟩
   obtain ⟨y, hy⟩ : ∃ y, d[a]! = y := ⟨_, rfl⟩
   have ham := HM.out
   obtain ⟨ch, _⟩ := hHk h (by omega)
   obtain ⟨ca, _⟩ := hHk a (by omega)
   rw [hx] at ch
   rw [hy] at ca
   have hz : (h : Int) < (d.size : Int) := by omega
   have az : (a : Int) < (d.size : Int) := by omega
   have hc : ∀ n, Calls Tryd.prog 79 #[enc x, enc y] (wr.drewN n) fun e w' => e = .returned (.int .i64 (cf x y)) ∧ ∃ q, w' = (wr.drewN n).drewN q := fun n => HC.out x y _
   have HI : Aside (i < j ∧ h = (i + j) / 2 ∧ d[h]! = x ∧ d[a]! = y) := ⟨hlt, hh, hx, hy⟩
   clear hHk hh hx hy ham
   by_cases hlv : cf x y < 0
   ·go_wp2_with fail
    go_quiet (first | (go_at_call 79; refine Calls.quiet_of (hc _)))
    go_wp2
    go_roundg (j - (h + 1))
    case measure => have := HI.out; omega
    case rel =>
     obtain ⟨_, hh, hx, hy⟩ := HI.out
     refine ⟨h + 1, j, q + nq, by go_num, by go_num, by omega, by omega, by omega, by omega, by rw [A.out, World.drewN_drewN], (show Aside _ from ?_)⟩
     show _ = _
     rw [← HO.out, bs_go _ i j hlt (by rw [← hh, hx, hy]; exact decide_eq_true hlv), hh]
   ·go_wp2_with fail
    go_quiet (first | (go_at_call 79; refine Calls.quiet_of (hc _)))
    go_wp2
    go_roundg (h - i)
    case measure => have := HI.out; omega
    case rel =>
     obtain ⟨_, hh, hx, hy⟩ := HI.out
     refine ⟨i, h, q + nq, by go_num, by go_num, by omega, by omega, by omega, by omega, by rw [A.out, World.drewN_drewN], (show Aside _ from ?_)⟩
     show _ = _
     rw [← HO.out, bs_no _ i j hlt (by rw [← hh, hx, hy]; exact decide_eq_false (by omega)), hh]
  ·have hltz : ¬ (i : Int) < (j : Int) := by omega
   have HB : Aside (i = bs (fun h => ltOf cf d[h]! d[a]!) m b) := by rw [← HO.out, bs_end _ i j hlt]; exact rfl
   have A : Aside (wr = (putRow enc w blk off d).drewN q) := hwr
   have ham := HM.out
   obtain ⟨i1, hi1⟩ : ∃ i1, i1 + 1 = i := ⟨i - 1, by omega⟩
   have wi1 : IntKind.i64.wrap ((i : Int) - 1) = (i1 : Int) := by rw [IntKind.wrap_i64]; omega
   have HI1 : Aside (i1 + 1 = i) := hi1
   clear hwr hi1 ham
   go_wp2
   go_loopg [13] (i1 - a) (fun g1 vk wr => ∃ (k q : Nat) (dk : Array Int), vk = .int .i64 k ∧ a ≤ k ∧ k ≤ i1 ∧ i1 - k ≤ g1 ∧ dk.size = d.size ∧ wr = (putRow enc w blk off dk).drewN q ∧ Aside (shR i k dk = shR i a d))
   case atStart => have := HI1.out; have := HM.out; exact ⟨a, q, d, by go_num, by omega, by omega, by omega, rfl, A.out, rfl⟩
   case round =>
    clear A
    obtain ⟨k, q, dk, rfl, hak, hki, hg2, hsk, hwr, HO2⟩ := hrel
    by_cases hk : k < i1
    ·have hkz : (k : Int) < (i1 : Int) := by omega
     have hHk : Holds enc wr blk off dk := by rw [hwr]; exact holds_putRow enc w blk off d dk HH.out hsk
     have hi1 := HI1.out
     obtain ⟨k1, hk1⟩ : ∃ k1, k1 = k + 1 := ⟨_, rfl⟩
     obtain ⟨ci, fi⟩ := hHk k (by omega)
     obtain ⟨cj, fj⟩ := hHk k1 (by omega)
     have wk : IntKind.i64.wrap ((k : Int) + 1) = (k1 : Int) := by rw [IntKind.wrap_i64]; omega
     have ek : (k : Int) + 1 = (k1 : Int) := by omega
     have kz : (k : Int) < (d.size : Int) := by omega
     have kz1 : (k1 : Int) < (d.size : Int) := by omega
     have hne : ¬ off + k = off + k1 := by omega
     have hne2 : ¬ off + k1 = off + k := by omega
     have A : Aside (wr = (putRow enc w blk off dk).drewN q) := hwr
     have HK : Aside (k1 = k + 1) := hk1
     clear hwr hHk hk1 hi1
     go_wp2_with fail
     go_region
     go_wp2
     go_roundg (i1 - k1)
     case measure => have := HK.out; omega
     case rel =>
      have hk1 := HK.out
      have hi1 := HI1.out
      refine ⟨k1, q + 1, swp dk k k1, by go_num, by omega, by omega, by omega, by rw [size_swp]; exact hsk, ?_, (show Aside _ from ?_)⟩
      ·rw [A.out]; exact swap_worldC enc w blk off dk q k k1 (by omega) (by omega)
      ·show _ = _
       rw [← HO2.out, shR.eq_1 (k := k), dif_pos (by omega), hk1]
    ·have hkz : ¬ (k : Int) < (i1 : Int) := by omega
     go_wp2
     refine bodyPost_ret (results_none rfl _ _ _) rfl ?_
     have hi1 := HI1.out
     refine ⟨rfl, q, ?_⟩
     rw [← HB.out, ← HO2.out, shR, dif_neg (by omega)] <;> exact hwr
end Go.Proofs.YtnbedmihgnjdpaaDoor.Stab
/- The walk of slices.symMergeCmpFunc at int64, going on: the other cases. -/
namespace Go.Proofs.YtnbedmihgnjdpaaDoor.Stab
open Go.Shelf Go.RowKit Go.Lib Go.Sort
theorem holds_drewN {w : World} {blk off : Nat} {d : Array Int} (n : Nat) (h : Holds enc w blk off d) : Holds enc (w.drewN n) blk off d := h
theorem shL_go (i k : Nat) (d : Array Int) (h : i < k + 1) : shL i (k + 1) d = shL i k (swp d (k + 1) k) := by rw [shL, if_pos h]
theorem shL_end (i k : Nat) (d : Array Int) (h : ¬ i < k) : shL i k d = d := by
 cases k with
 | zero => rfl
 | succ k => rw [shL, if_neg h]
set_option maxHeartbeats 4000000 in
set_option maxRecDepth 1000000 in
theorem sym2_calls (cf : Int → Int → Int) (hcmp : CmpOk cf) (blk off cap a m b N : Nat) (d : Array Int) (w : World) (hN : d.size = N) (hH : Holds enc w blk off d) (ham : a + 2 ≤ m) (hmb : b = m + 1) (hb : b ≤ d.size) (hsz : d.size < 4611686018427387904) :
  Calls Tryd.prog 102 #[.slice (some ⟨blk, off, none⟩) N cap, .int .i64 a, .int .i64 m, .int .i64 b, (.func (.func 79) #[] #[])] w fun e w' =>
   e = .returned (.tuple #[]) ∧ ∃ q, w' = (putRow enc w blk off (shL (bs (fun h => !ltOf cf d[m]! d[h]!) a m) m d)).drewN q := by
 subst hN
 have HST : Aside (w = (putRow enc w blk off d).drewN 0) := (putRow_self enc w blk off d hH).symm
 have HH : Aside (Holds enc w blk off d) := hH
 have HC : Aside _ := hcmp
 clear hH hcmp
 obtain ⟨u, hu⟩ : ∃ u, u = m - a := ⟨_, rfl⟩
 have w1 : IntKind.i64.wrap ((m : Int) - (a : Int)) = (u : Int) := by rw [IntKind.wrap_i64]; omega
 have w1b : ((u : Int) == 1) = false := by simp; omega
 have w1c : ¬ (u : Int) = 1 := by omega
 have w2 : IntKind.i64.wrap ((b : Int) - (m : Int)) = 1 := by rw [IntKind.wrap_i64]; omega
 have HM : Aside (a + 2 ≤ m ∧ b = m + 1) := ⟨ham, hmb⟩
 clear ham hmb hu
 go_enter Tryd.func102, Tryd.ntmps102
 go_wp2
 go_loopg [14, 15] (m - a) (fun g1 vi vj wr => ∃ (i j q : Nat), vi = .int .i64 i ∧ vj = .int .i64 j ∧ a ≤ i ∧ i ≤ j ∧ j ≤ m ∧ j - i ≤ g1 ∧ wr = (putRow enc w blk off d).drewN q ∧ Aside (bs (fun h => !ltOf cf d[m]! d[h]!) i j = bs (fun h => !ltOf cf d[m]! d[h]!) a m))
 case atStart => have := HM.out; exact ⟨a, m, 0, by go_num, by go_num, by omega, by omega, by omega, by omega, HST.out, rfl⟩
 case round =>
  obtain ⟨i, j, q, rfl, rfl, hmi, hij, hjb, hg1, hwr, HO⟩ := hrel
  by_cases hlt : i < j
  ·have hltz : (i : Int) < (j : Int) := by omega
   have hHk : Holds enc wr blk off d := by rw [hwr]; exact holds_putRow enc w blk off d d HH.out rfl
   have A : Aside (wr = (putRow enc w blk off d).drewN q) := hwr
   clear hwr
   have ham := HM.out
   obtain ⟨h, hh⟩ : ∃ h, h = (i + j) / 2 := ⟨_, rfl⟩
   have eh : ((i : Int) + (j : Int)) / 2 = (h : Int) := by omega
   obtain ⟨x, hx⟩ : ∃ x, d[m]! = x := ⟨_, rfl⟩
   obtain ⟨y, hy⟩ : ∃ y, d[h]! = y := ⟨_, rfl⟩
   obtain ⟨ch, _⟩ := hHk m (by omega)
   obtain ⟨ca, _⟩ := hHk h (by omega)
   rw [hx] at ch
   rw [hy] at ca
   have hz : (h : Int) < (d.size : Int) := by omega
   have az : (m : Int) < (d.size : Int) := by omega
   have hc : ∀ n, Calls Tryd.prog 79 #[enc x, enc y] (wr.drewN n) fun e w' => e = .returned (.int .i64 (cf x y)) ∧ ∃ q, w' = (wr.drewN n).drewN q := fun n => HC.out x y _
   have HI : Aside (i < j ∧ h = (i + j) / 2 ∧ d[m]! = x ∧ d[h]! = y) := ⟨hlt, hh, hx, hy⟩
   clear hHk hh hx hy ham
   by_cases hlv : cf x y < 0
   ·have hlvb : decide (cf x y < 0) = true := decide_eq_true hlv
    go_wp2_with fail
    go_quiet (first | (go_at_call 79; refine Calls.quiet_of (hc _)))
    go_wp2
    go_roundg (h - i)
    case measure => have := HI.out; omega
    case rel =>
     obtain ⟨_, hh, hx, hy⟩ := HI.out
     refine ⟨i, h, q + nq, by go_num, by go_num, by omega, by omega, by omega, by omega, by rw [A.out, World.drewN_drewN], (show Aside _ from ?_)⟩
     show _ = _
     rw [← HO.out, bs_no _ i j hlt (by rw [← hh, hx, hy]; simp [ltOf, hlv]), hh]
   ·have hlvb : decide (cf x y < 0) = false := decide_eq_false hlv
    go_wp2_with fail
    go_quiet (first | (go_at_call 79; refine Calls.quiet_of (hc _)))
    go_wp2
    go_roundg (j - (h + 1))
    case measure => have := HI.out; omega
    case rel =>
     obtain ⟨_, hh, hx, hy⟩ := HI.out
     refine ⟨h + 1, j, q + nq, by go_num, by go_num, by omega, by omega, by omega, by omega, by rw [A.out, World.drewN_drewN], (show Aside _ from ?_)⟩
     show _ = _
     rw [← HO.out, bs_go _ i j hlt (by rw [← hh, hx, hy]; simp [ltOf]; omega), hh]
  ·have hltz : ¬ (i : Int) < (j : Int) := by omega
   have HB : Aside (i = bs (fun h => !ltOf cf d[m]! d[h]!) a m) := by rw [← HO.out, bs_end _ i j hlt]; exact rfl
   have A : Aside (wr = (putRow enc w blk off d).drewN q) := hwr
   clear hwr
   go_wp2
   go_loopg [17] (m - i) (fun g1 vk wr => ∃ (k q : Nat) (dk : Array Int), vk = .int .i64 k ∧ i ≤ k ∧ k ≤ m ∧ k - i ≤ g1 ∧ dk.size = d.size ∧ wr = (putRow enc w blk off dk).drewN q ∧ Aside (shL i k dk = shL i m d))
   case atStart => have := HM.out; exact ⟨m, q, d, by go_num, by omega, by omega, by omega, rfl, A.out, rfl⟩
   case round =>
    clear A
    obtain ⟨k, q, dk, rfl, hak, hki, hg2, hsk, hwr, HO2⟩ := hrel
    by_cases hk : i < k
    ·have hkz : (i : Int) < (k : Int) := by omega
     have hHk : Holds enc wr blk off dk := by rw [hwr]; exact holds_putRow enc w blk off d dk HH.out hsk
     have hm2 := HM.out
     obtain ⟨k1, hk1⟩ : ∃ k1, k = k1 + 1 := ⟨k - 1, by omega⟩
     obtain ⟨ci, fi⟩ := hHk k (by omega)
     obtain ⟨cj, fj⟩ := hHk k1 (by omega)
     have wk : IntKind.i64.wrap ((k : Int) - 1) = (k1 : Int) := by rw [IntKind.wrap_i64]; omega
     have kz : (k : Int) < (d.size : Int) := by omega
     have kz1 : (k1 : Int) < (d.size : Int) := by omega
     have hne : ¬ off + k = off + k1 := by omega
     have hne2 : ¬ off + k1 = off + k := by omega
     have A : Aside (wr = (putRow enc w blk off dk).drewN q) := hwr
     have HK : Aside (k = k1 + 1) := hk1
     clear hwr hHk hk1 hm2
     go_wp2_with fail
     go_region
     go_wp2
     go_roundg (k1 - i)
     case measure => have := HK.out; omega
     case rel =>
      have hk1 := HK.out
      have hm2 := HM.out
      refine ⟨k1, q + 1, swp dk k k1, by go_num, by omega, by omega, by omega, by rw [size_swp]; exact hsk, ?_, (show Aside _ from ?_)⟩
      ·rw [A.out]; exact swap_worldC enc w blk off dk q k k1 (by omega) (by omega)
      ·show _ = _
       rw [← HO2.out, hk1, shL_go i k1 dk (by omega)]
    ·have hkz : ¬ (i : Int) < (k : Int) := by omega
     go_wp2
     refine bodyPost_ret (results_none rfl _ _ _) rfl ?_
     refine ⟨rfl, q, ?_⟩
     rw [← HB.out, ← HO2.out, shL_end _ _ _ hk] <;> exact hwr
set_option maxHeartbeats 8000000 in
set_option maxRecDepth 1000000 in
theorem symMerge_calls (cf : Int → Int → Int) (hcmp : CmpOk cf) (blk off cap N : Nat) : ∀ (t a m b : Nat) (d : Array Int) (w : World), b - a ≤ t → d.size = N → Holds enc w blk off d → a < m → m < b → b ≤ d.size → d.size < 4611686018427387904 →
  Calls Tryd.prog 102 #[.slice (some ⟨blk, off, none⟩) N cap, .int .i64 a, .int .i64 m, .int .i64 b, (.func (.func 79) #[] #[])] w fun e w' =>
   e = .returned (.tuple #[]) ∧ ∃ q, w' = (putRow enc w blk off (symM (ltOf cf) a m b d)).drewN q := by
 intro t
 induction t with
 | zero => intro a m b d w h _ _ h1 h2; omega
 | succ t ih =>
 intro a m b d w ht hN hH ham hmb hb hsz
 by_cases c1 : m - a = 1
 ·refine (sym1_calls cf hcmp blk off cap a m b N d w hN hH (by omega) hmb hb hsz).mono ?_
  rintro e w' ⟨rfl, q, rfl⟩
  exact ⟨rfl, q, by rw [symM.eq_1 (m := m), dif_pos ⟨ham, hmb⟩, if_pos c1]⟩
 by_cases c2 : b - m = 1
 ·refine (sym2_calls cf hcmp blk off cap a m b N d w hN hH (by omega) (by omega) hb hsz).mono ?_
  rintro e w' ⟨rfl, q, rfl⟩
  exact ⟨rfl, q, by rw [symM.eq_1 (m := m), dif_pos ⟨ham, hmb⟩, if_neg c1, if_pos c2]⟩
 obtain ⟨mid, hmid⟩ : ∃ mid, mid = (a + b) / 2 := ⟨_, rfl⟩
 have hsym : symM (ltOf cf) a m b d = (let s := symStart (ltOf cf) a m b d
   let e := mid + m - s
   let d1 := if s < m ∧ m < e then rot m (m - s) (e - m) d else d
   let d2 := if a < s ∧ s < mid then symM (ltOf cf) a s mid d1 else d1
   if mid < e ∧ e < b then symM (ltOf cf) mid e b d2 else d2) := by rw [symM.eq_1 (m := m), dif_pos ⟨ham, hmb⟩, if_neg c1, if_neg c2, hmid]
 have HSYM : Aside _ := hsym
 clear hsym
 subst hN
 have HST : Aside (w = (putRow enc w blk off d).drewN 0) := (putRow_self enc w blk off d hH).symm
 have HH : Aside (Holds enc w blk off d) := hH
 have HC : Aside _ := hcmp
 have IH : Aside _ := ih
 clear hH hcmp ih
 obtain ⟨u, hu⟩ : ∃ u, u = m - a := ⟨_, rfl⟩
 have w1 : IntKind.i64.wrap ((m : Int) - (a : Int)) = (u : Int) := by rw [IntKind.wrap_i64]; omega
 have w1b : ((u : Int) == 1) = false := by simp; omega
 have w1c : ¬ (u : Int) = 1 := by omega
 obtain ⟨u2, hu2⟩ : ∃ u, u = b - m := ⟨_, rfl⟩
 have w2 : IntKind.i64.wrap ((b : Int) - (m : Int)) = (u2 : Int) := by rw [IntKind.wrap_i64]; omega
 have w2b : ((u2 : Int) == 1) = false := by simp; omega
 have w2c : ¬ (u2 : Int) = 1 := by omega
 have emid : ((a : Int) + (b : Int)) / 2 = (mid : Int) := by omega
 obtain ⟨n, hn⟩ : ∃ n, n = mid + m := ⟨_, rfl⟩
 have en : (mid : Int) + (m : Int) = (n : Int) := by omega
 obtain ⟨p, hp⟩ : ∃ p, n = p + 1 := ⟨n - 1, by omega⟩
 have wp : IntKind.i64.wrap ((n : Int) - 1) = (p : Int) := by rw [IntKind.wrap_i64]; omega
 have HA : Aside (b - a ≤ t + 1 ∧ a < m ∧ m < b ∧ b ≤ d.size ∧ m - a ≠ 1 ∧ b - m ≠ 1 ∧ mid = (a + b) / 2 ∧ n = mid + m ∧ n = p + 1) := ⟨ht, ham, hmb, hb, c1, c2, hmid, hn, hp⟩
 obtain ⟨lo, hi, HLO⟩ : ∃ lo hi : Nat, Aside (symStart (ltOf cf) a m b d = bs (fun c => !ltOf cf d[p - c]! d[c]!) lo hi ∧ lo ≤ hi ∧ a ≤ lo ∧ hi ≤ m ∧ (mid < m ∧ lo = n - b ∧ hi = mid ∨ ¬ mid < m ∧ lo = a ∧ hi = m)) := by
  by_cases hc : mid < m
  ·refine ⟨n - b, mid, ?_⟩
   show _ ∧ _
   unfold symStart
   rw [← hmid, if_pos hc, ← hn, hp]
   exact ⟨rfl, by omega, by omega, by omega, .inl ⟨hc, rfl, rfl⟩⟩
  ·refine ⟨a, m, ?_⟩
   show _ ∧ _
   unfold symStart
   rw [← hmid, if_neg hc, ← hn, hp]
   exact ⟨rfl, by omega, by omega, by omega, .inr ⟨hc, rfl, rfl⟩⟩
 clear ht c1 c2 hmid hu hu2 hn hp
 by_cases hbig : mid < m
 ·have hbz : (mid : Int) < (m : Int) := by omega
  have wlo : IntKind.i64.wrap ((n : Int) - (b : Int)) = (lo : Int) := by have := HA.out; have := HLO.out; rw [IntKind.wrap_i64]; omega
  skip
  go_enter Tryd.func102, Tryd.ntmps102
  go_wp2
  go_loopg [20, 21] (hi - lo) (fun g1 vi vj wr => ∃ (i j q : Nat), vi = .int .i64 i ∧ vj = .int .i64 j ∧ lo ≤ i ∧ i ≤ j ∧ j ≤ hi ∧ j - i ≤ g1 ∧ wr = (putRow enc w blk off d).drewN q ∧ Aside (bs (fun c => !ltOf cf d[p - c]! d[c]!) i j = bs (fun c => !ltOf cf d[p - c]! d[c]!) lo hi))
  case atStart =>
   obtain ⟨_, h2, h3, h4, h5⟩ := HLO.out
   exact ⟨lo, hi, 0, by first | go_num | (congr 1; omega), by first | go_num | (congr 1; omega), by omega, by omega, by omega, by omega, HST.out, rfl⟩
  case round =>
   obtain ⟨i, j, q, rfl, rfl, hmi, hij, hjb, hg1, hwr, HO⟩ := hrel
   have hHk : Holds enc wr blk off d := by rw [hwr]; exact holds_putRow enc w blk off d d HH.out rfl
   have A : Aside (wr = (putRow enc w blk off d).drewN q) := hwr
   clear hwr
   by_cases hlt : i < j
   ·have hltz : (i : Int) < (j : Int) := by omega
    have ham := HA.out
    have hlo := HLO.out
    obtain ⟨h, hh⟩ : ∃ h, h = (i + j) / 2 := ⟨_, rfl⟩
    have eh : ((i : Int) + (j : Int)) / 2 = (h : Int) := by omega
    obtain ⟨pc, hpc⟩ : ∃ pc, pc = p - h := ⟨_, rfl⟩
    have wpc : IntKind.i64.wrap ((p : Int) - (h : Int)) = (pc : Int) := by rw [IntKind.wrap_i64]; omega
    obtain ⟨x, hx⟩ : ∃ x, d[pc]! = x := ⟨_, rfl⟩
    obtain ⟨y, hy⟩ : ∃ y, d[h]! = y := ⟨_, rfl⟩
    obtain ⟨ch, _⟩ := hHk pc (by omega)
    obtain ⟨ca, _⟩ := hHk h (by omega)
    rw [hx] at ch
    rw [hy] at ca
    have hz : (h : Int) < (d.size : Int) := by omega
    have az : (pc : Int) < (d.size : Int) := by omega
    have hc : ∀ n, Calls Tryd.prog 79 #[enc x, enc y] (wr.drewN n) fun e w' => e = .returned (.int .i64 (cf x y)) ∧ ∃ q, w' = (wr.drewN n).drewN q := fun n => HC.out x y _
    have HI : Aside (i < j ∧ h = (i + j) / 2 ∧ d[p - h]! = x ∧ d[h]! = y) := ⟨hlt, hh, by rw [← hpc]; exact hx, hy⟩
    clear hHk hh hx hy ham hlo hpc
    by_cases hlv : cf x y < 0
    ·have hlvb : decide (cf x y < 0) = true := decide_eq_true hlv
     go_wp2_with fail
     go_quiet (first | (go_at_call 79; refine Calls.quiet_of (hc _)))
     go_wp2
     go_roundg (h - i)
     case measure => have := HI.out; omega
     case rel =>
      obtain ⟨_, hh, hx, hy⟩ := HI.out
      refine ⟨i, h, q + nq, by go_num, by go_num, by omega, by omega, by omega, by omega, by rw [A.out, World.drewN_drewN], (show Aside _ from ?_)⟩
      show _ = _
      rw [← HO.out, bs_no _ i j hlt (by rw [← hh, hx, hy]; simp [ltOf, hlv]), hh]
    ·have hlvb : decide (cf x y < 0) = false := decide_eq_false hlv
     go_wp2_with fail
     go_quiet (first | (go_at_call 79; refine Calls.quiet_of (hc _)))
     go_wp2
     go_roundg (j - (h + 1))
     case measure => have := HI.out; omega
     case rel =>
      obtain ⟨_, hh, hx, hy⟩ := HI.out
      refine ⟨h + 1, j, q + nq, by go_num, by go_num, by omega, by omega, by omega, by omega, by rw [A.out, World.drewN_drewN], (show Aside _ from ?_)⟩
      show _ = _
      rw [← HO.out, bs_go _ i j hlt (by rw [← hh, hx, hy]; simp [ltOf]; omega), hh]
   ·have hltz : ¬ (i : Int) < (j : Int) := by omega
    have hS : symStart (ltOf cf) a m b d = i := by rw [HLO.out.1, ← HO.out, bs_end _ i j hlt]
    have ham := HA.out
    have hlo := HLO.out
    obtain ⟨e, he⟩ : ∃ e, e = n - i := ⟨_, rfl⟩
    have we : IntKind.i64.wrap ((n : Int) - (i : Int)) = (e : Int) := by rw [IntKind.wrap_i64]; omega
    have HE : Aside (e = n - i ∧ a ≤ i ∧ i ≤ m ∧ m ≤ e ∧ e ≤ b) := by
     show _ ∧ _
     omega
    have hs2 := HSYM.out
    simp only [hS] at hs2
    rw [show mid + m - i = e from by omega] at hs2
    have HS2 : Aside _ := hs2
    have hE := HE.out
    clear hS hs2 he
    rcases (show (i < m ∧ m < e) ∨ (¬ i < m) ∨ (i < m ∧ ¬ m < e) by omega) with hr | hr | hr
    ·have cRa : (i : Int) < (m : Int) := by omega
     have cRb : (m : Int) < (e : Int) := by omega
     have cR := hr
     rcases (show (a < i ∧ i < mid) ∨ (¬ a < i) ∨ (a < i ∧ ¬ i < mid) by omega) with hl | hl | hl
     ·have cLa : (a : Int) < (i : Int) := by omega
      have cLb : (i : Int) < (mid : Int) := by omega
      have cL := hl
      rcases (show (mid < e ∧ e < b) ∨ (¬ mid < e) ∨ (mid < e ∧ ¬ e < b) by omega) with hq | hq | hq
      ·have cQa : (mid : Int) < (e : Int) := by omega
       have cQb : (e : Int) < (b : Int) := by omega
       have cQ := hq
       have s1 : (rot m (m - i) (e - m) d).size = d.size := rot_size _ m (m - i) (e - m) d (Nat.le_refl _)
       have s2 : (symM (ltOf cf) a i mid (rot m (m - i) (e - m) d)).size = d.size := (symM_size _ _ _ _ _ _ (Nat.le_refl _)).trans s1
       have s3 : (symM (ltOf cf) mid e b (symM (ltOf cf) a i mid (rot m (m - i) (e - m) d))).size = d.size := (symM_size _ _ _ _ _ _ (Nat.le_refl _)).trans s2
       have S123 : Aside ((rot m (m - i) (e - m) d).size = d.size ∧ (symM (ltOf cf) a i mid (rot m (m - i) (e - m) d)).size = d.size ∧ (symM (ltOf cf) mid e b (symM (ltOf cf) a i mid (rot m (m - i) (e - m) d))).size = d.size) := ⟨s1, s2, s3⟩
       have hcR := rotate_calls blk off cap i m e d.size (.func (.func 79) #[] #[]) d wr rfl hHk (by omega) (by omega) (by omega) (by omega)
       have hcL := fun (W : World) (hW : Holds enc W blk off (rot m (m - i) (e - m) d)) => IH.out a i mid (rot m (m - i) (e - m) d) W (by omega) s1 hW (by omega) (by omega) (by omega) (by omega)
       have hcQ := fun (W : World) (hW : Holds enc W blk off (symM (ltOf cf) a i mid (rot m (m - i) (e - m) d))) => IH.out mid e b (symM (ltOf cf) a i mid (rot m (m - i) (e - m) d)) W (by omega) s2 hW (by omega) (by omega) (by omega) (by omega)
       clear hE ham hlo s1 s2 s3
       go_wp2_with (first | (go_at_call 106; with_reducible refine hcR.mono ?_; rintro e1 w1' ⟨rfl, q1, rfl⟩) | (go_at_call 102; with_reducible refine (hcL _ (holds_drewN _ (holds_putRow enc wr blk off d _ hHk S123.out.1))).mono ?_; rintro e1 w1' ⟨rfl, q2, rfl⟩) | (go_at_call 102; with_reducible refine (hcQ _ (holds_drewN _ (holds_putRow enc _ blk off _ _ (holds_drewN _ (holds_putRow enc wr blk off d _ hHk S123.out.1)) (S123.out.2.1.trans S123.out.1.symm)))).mono ?_; rintro e1 w1' ⟨rfl, q3, rfl⟩))
       go_end0
       obtain ⟨s1, s2, s3⟩ := S123.out
       have hs2 := HS2.out
       rw [if_pos cR, if_pos cL, if_pos cQ] at hs2
       rw [hs2, A.out]
       refine ⟨rfl, q + q1 + q2 + q3, ?_⟩
       rw [relay w blk off _ _ d d (rot m (m - i) (e - m) d) (s1.trans (rfl).symm), relay w blk off _ _ d (rot m (m - i) (e - m) d) (symM (ltOf cf) a i mid (rot m (m - i) (e - m) d)) (s2.trans (s1).symm), relay w blk off _ _ d (symM (ltOf cf) a i mid (rot m (m - i) (e - m) d)) (symM (ltOf cf) mid e b (symM (ltOf cf) a i mid (rot m (m - i) (e - m) d))) (s3.trans (s2).symm)]
      ·have cQa : ¬ (mid : Int) < (e : Int) := by omega
       have cQ : ¬ (mid < e ∧ e < b) := by omega
       have s1 : (rot m (m - i) (e - m) d).size = d.size := rot_size _ m (m - i) (e - m) d (Nat.le_refl _)
       have s2 : (symM (ltOf cf) a i mid (rot m (m - i) (e - m) d)).size = d.size := (symM_size _ _ _ _ _ _ (Nat.le_refl _)).trans s1
       have s3 : (symM (ltOf cf) a i mid (rot m (m - i) (e - m) d)).size = d.size := s2
       have S123 : Aside ((rot m (m - i) (e - m) d).size = d.size ∧ (symM (ltOf cf) a i mid (rot m (m - i) (e - m) d)).size = d.size ∧ (symM (ltOf cf) a i mid (rot m (m - i) (e - m) d)).size = d.size) := ⟨s1, s2, s3⟩
       have hcR := rotate_calls blk off cap i m e d.size (.func (.func 79) #[] #[]) d wr rfl hHk (by omega) (by omega) (by omega) (by omega)
       have hcL := fun (W : World) (hW : Holds enc W blk off (rot m (m - i) (e - m) d)) => IH.out a i mid (rot m (m - i) (e - m) d) W (by omega) s1 hW (by omega) (by omega) (by omega) (by omega)
       clear hE ham hlo s1 s2 s3
       go_wp2_with (first | (go_at_call 106; with_reducible refine hcR.mono ?_; rintro e1 w1' ⟨rfl, q1, rfl⟩) | (go_at_call 102; with_reducible refine (hcL _ (holds_drewN _ (holds_putRow enc wr blk off d _ hHk S123.out.1))).mono ?_; rintro e1 w1' ⟨rfl, q2, rfl⟩))
       go_end0
       obtain ⟨s1, s2, s3⟩ := S123.out
       have hs2 := HS2.out
       rw [if_pos cR, if_pos cL, if_neg cQ] at hs2
       rw [hs2, A.out]
       refine ⟨rfl, q + q1 + q2, ?_⟩
       rw [relay w blk off _ _ d d (rot m (m - i) (e - m) d) (s1.trans (rfl).symm), relay w blk off _ _ d (rot m (m - i) (e - m) d) (symM (ltOf cf) a i mid (rot m (m - i) (e - m) d)) (s2.trans (s1).symm)]
      ·have cQa : (mid : Int) < (e : Int) := by omega
       have cQb : ¬ (e : Int) < (b : Int) := by omega
       have cQ : ¬ (mid < e ∧ e < b) := by omega
       have s1 : (rot m (m - i) (e - m) d).size = d.size := rot_size _ m (m - i) (e - m) d (Nat.le_refl _)
       have s2 : (symM (ltOf cf) a i mid (rot m (m - i) (e - m) d)).size = d.size := (symM_size _ _ _ _ _ _ (Nat.le_refl _)).trans s1
       have s3 : (symM (ltOf cf) a i mid (rot m (m - i) (e - m) d)).size = d.size := s2
       have S123 : Aside ((rot m (m - i) (e - m) d).size = d.size ∧ (symM (ltOf cf) a i mid (rot m (m - i) (e - m) d)).size = d.size ∧ (symM (ltOf cf) a i mid (rot m (m - i) (e - m) d)).size = d.size) := ⟨s1, s2, s3⟩
       have hcR := rotate_calls blk off cap i m e d.size (.func (.func 79) #[] #[]) d wr rfl hHk (by omega) (by omega) (by omega) (by omega)
       have hcL := fun (W : World) (hW : Holds enc W blk off (rot m (m - i) (e - m) d)) => IH.out a i mid (rot m (m - i) (e - m) d) W (by omega) s1 hW (by omega) (by omega) (by omega) (by omega)
       clear hE ham hlo s1 s2 s3
       go_wp2_with (first | (go_at_call 106; with_reducible refine hcR.mono ?_; rintro e1 w1' ⟨rfl, q1, rfl⟩) | (go_at_call 102; with_reducible refine (hcL _ (holds_drewN _ (holds_putRow enc wr blk off d _ hHk S123.out.1))).mono ?_; rintro e1 w1' ⟨rfl, q2, rfl⟩))
       go_end0
       obtain ⟨s1, s2, s3⟩ := S123.out
       have hs2 := HS2.out
       rw [if_pos cR, if_pos cL, if_neg cQ] at hs2
       rw [hs2, A.out]
       refine ⟨rfl, q + q1 + q2, ?_⟩
       rw [relay w blk off _ _ d d (rot m (m - i) (e - m) d) (s1.trans (rfl).symm), relay w blk off _ _ d (rot m (m - i) (e - m) d) (symM (ltOf cf) a i mid (rot m (m - i) (e - m) d)) (s2.trans (s1).symm)]
     ·have cLa : ¬ (a : Int) < (i : Int) := by omega
      have cL : ¬ (a < i ∧ i < mid) := by omega
      rcases (show (mid < e ∧ e < b) ∨ (¬ mid < e) ∨ (mid < e ∧ ¬ e < b) by omega) with hq | hq | hq
      ·have cQa : (mid : Int) < (e : Int) := by omega
       have cQb : (e : Int) < (b : Int) := by omega
       have cQ := hq
       have s1 : (rot m (m - i) (e - m) d).size = d.size := rot_size _ m (m - i) (e - m) d (Nat.le_refl _)
       have s2 : (rot m (m - i) (e - m) d).size = d.size := s1
       have s3 : (symM (ltOf cf) mid e b (rot m (m - i) (e - m) d)).size = d.size := (symM_size _ _ _ _ _ _ (Nat.le_refl _)).trans s2
       have S123 : Aside ((rot m (m - i) (e - m) d).size = d.size ∧ (rot m (m - i) (e - m) d).size = d.size ∧ (symM (ltOf cf) mid e b (rot m (m - i) (e - m) d)).size = d.size) := ⟨s1, s2, s3⟩
       have hcR := rotate_calls blk off cap i m e d.size (.func (.func 79) #[] #[]) d wr rfl hHk (by omega) (by omega) (by omega) (by omega)
       have hcQ := fun (W : World) (hW : Holds enc W blk off (rot m (m - i) (e - m) d)) => IH.out mid e b (rot m (m - i) (e - m) d) W (by omega) s2 hW (by omega) (by omega) (by omega) (by omega)
       clear hE ham hlo s1 s2 s3
       go_wp2_with (first | (go_at_call 106; with_reducible refine hcR.mono ?_; rintro e1 w1' ⟨rfl, q1, rfl⟩) | (go_at_call 102; with_reducible refine (hcQ _ (holds_drewN _ (holds_putRow enc wr blk off d _ hHk S123.out.1))).mono ?_; rintro e1 w1' ⟨rfl, q3, rfl⟩))
       go_end0
       obtain ⟨s1, s2, s3⟩ := S123.out
       have hs2 := HS2.out
       rw [if_pos cR, if_neg cL, if_pos cQ] at hs2
       rw [hs2, A.out]
       refine ⟨rfl, q + q1 + q3, ?_⟩
       rw [relay w blk off _ _ d d (rot m (m - i) (e - m) d) (s1.trans (rfl).symm), relay w blk off _ _ d (rot m (m - i) (e - m) d) (symM (ltOf cf) mid e b (rot m (m - i) (e - m) d)) (s3.trans (s1).symm)]
      ·have cQa : ¬ (mid : Int) < (e : Int) := by omega
       have cQ : ¬ (mid < e ∧ e < b) := by omega
       have s1 : (rot m (m - i) (e - m) d).size = d.size := rot_size _ m (m - i) (e - m) d (Nat.le_refl _)
       have s2 : (rot m (m - i) (e - m) d).size = d.size := s1
       have s3 : (rot m (m - i) (e - m) d).size = d.size := s2
       have S123 : Aside ((rot m (m - i) (e - m) d).size = d.size ∧ (rot m (m - i) (e - m) d).size = d.size ∧ (rot m (m - i) (e - m) d).size = d.size) := ⟨s1, s2, s3⟩
       have hcR := rotate_calls blk off cap i m e d.size (.func (.func 79) #[] #[]) d wr rfl hHk (by omega) (by omega) (by omega) (by omega)
       clear hE ham hlo s1 s2 s3
       go_wp2_with (first | (go_at_call 106; with_reducible refine hcR.mono ?_; rintro e1 w1' ⟨rfl, q1, rfl⟩))
       go_end0
       obtain ⟨s1, s2, s3⟩ := S123.out
       have hs2 := HS2.out
       rw [if_pos cR, if_neg cL, if_neg cQ] at hs2
       rw [hs2, A.out]
       refine ⟨rfl, q + q1, ?_⟩
       rw [relay w blk off _ _ d d (rot m (m - i) (e - m) d) (s1.trans (rfl).symm)]
      ·have cQa : (mid : Int) < (e : Int) := by omega
       have cQb : ¬ (e : Int) < (b : Int) := by omega
       have cQ : ¬ (mid < e ∧ e < b) := by omega
       have s1 : (rot m (m - i) (e - m) d).size = d.size := rot_size _ m (m - i) (e - m) d (Nat.le_refl _)
       have s2 : (rot m (m - i) (e - m) d).size = d.size := s1
       have s3 : (rot m (m - i) (e - m) d).size = d.size := s2
       have S123 : Aside ((rot m (m - i) (e - m) d).size = d.size ∧ (rot m (m - i) (e - m) d).size = d.size ∧ (rot m (m - i) (e - m) d).size = d.size) := ⟨s1, s2, s3⟩
       have hcR := rotate_calls blk off cap i m e d.size (.func (.func 79) #[] #[]) d wr rfl hHk (by omega) (by omega) (by omega) (by omega)
       clear hE ham hlo s1 s2 s3
       go_wp2_with (first | (go_at_call 106; with_reducible refine hcR.mono ?_; rintro e1 w1' ⟨rfl, q1, rfl⟩))
       go_end0
       obtain ⟨s1, s2, s3⟩ := S123.out
       have hs2 := HS2.out
       rw [if_pos cR, if_neg cL, if_neg cQ] at hs2
       rw [hs2, A.out]
       refine ⟨rfl, q + q1, ?_⟩
       rw [relay w blk off _ _ d d (rot m (m - i) (e - m) d) (s1.trans (rfl).symm)]
     ·have cLa : (a : Int) < (i : Int) := by omega
      have cLb : ¬ (i : Int) < (mid : Int) := by omega
      have cL : ¬ (a < i ∧ i < mid) := by omega
      rcases (show (mid < e ∧ e < b) ∨ (¬ mid < e) ∨ (mid < e ∧ ¬ e < b) by omega) with hq | hq | hq
      ·have cQa : (mid : Int) < (e : Int) := by omega
       have cQb : (e : Int) < (b : Int) := by omega
       have cQ := hq
       have s1 : (rot m (m - i) (e - m) d).size = d.size := rot_size _ m (m - i) (e - m) d (Nat.le_refl _)
       have s2 : (rot m (m - i) (e - m) d).size = d.size := s1
       have s3 : (symM (ltOf cf) mid e b (rot m (m - i) (e - m) d)).size = d.size := (symM_size _ _ _ _ _ _ (Nat.le_refl _)).trans s2
       have S123 : Aside ((rot m (m - i) (e - m) d).size = d.size ∧ (rot m (m - i) (e - m) d).size = d.size ∧ (symM (ltOf cf) mid e b (rot m (m - i) (e - m) d)).size = d.size) := ⟨s1, s2, s3⟩
       have hcR := rotate_calls blk off cap i m e d.size (.func (.func 79) #[] #[]) d wr rfl hHk (by omega) (by omega) (by omega) (by omega)
       have hcQ := fun (W : World) (hW : Holds enc W blk off (rot m (m - i) (e - m) d)) => IH.out mid e b (rot m (m - i) (e - m) d) W (by omega) s2 hW (by omega) (by omega) (by omega) (by omega)
       clear hE ham hlo s1 s2 s3
       go_wp2_with (first | (go_at_call 106; with_reducible refine hcR.mono ?_; rintro e1 w1' ⟨rfl, q1, rfl⟩) | (go_at_call 102; with_reducible refine (hcQ _ (holds_drewN _ (holds_putRow enc wr blk off d _ hHk S123.out.1))).mono ?_; rintro e1 w1' ⟨rfl, q3, rfl⟩))
       go_end0
       obtain ⟨s1, s2, s3⟩ := S123.out
       have hs2 := HS2.out
       rw [if_pos cR, if_neg cL, if_pos cQ] at hs2
       rw [hs2, A.out]
       refine ⟨rfl, q + q1 + q3, ?_⟩
       rw [relay w blk off _ _ d d (rot m (m - i) (e - m) d) (s1.trans (rfl).symm), relay w blk off _ _ d (rot m (m - i) (e - m) d) (symM (ltOf cf) mid e b (rot m (m - i) (e - m) d)) (s3.trans (s1).symm)]
      ·have cQa : ¬ (mid : Int) < (e : Int) := by omega
       have cQ : ¬ (mid < e ∧ e < b) := by omega
       have s1 : (rot m (m - i) (e - m) d).size = d.size := rot_size _ m (m - i) (e - m) d (Nat.le_refl _)
       have s2 : (rot m (m - i) (e - m) d).size = d.size := s1
       have s3 : (rot m (m - i) (e - m) d).size = d.size := s2
       have S123 : Aside ((rot m (m - i) (e - m) d).size = d.size ∧ (rot m (m - i) (e - m) d).size = d.size ∧ (rot m (m - i) (e - m) d).size = d.size) := ⟨s1, s2, s3⟩
       have hcR := rotate_calls blk off cap i m e d.size (.func (.func 79) #[] #[]) d wr rfl hHk (by omega) (by omega) (by omega) (by omega)
       clear hE ham hlo s1 s2 s3
       go_wp2_with (first | (go_at_call 106; with_reducible refine hcR.mono ?_; rintro e1 w1' ⟨rfl, q1, rfl⟩))
       go_end0
       obtain ⟨s1, s2, s3⟩ := S123.out
       have hs2 := HS2.out
       rw [if_pos cR, if_neg cL, if_neg cQ] at hs2
       rw [hs2, A.out]
       refine ⟨rfl, q + q1, ?_⟩
       rw [relay w blk off _ _ d d (rot m (m - i) (e - m) d) (s1.trans (rfl).symm)]
      ·have cQa : (mid : Int) < (e : Int) := by omega
       have cQb : ¬ (e : Int) < (b : Int) := by omega
       have cQ : ¬ (mid < e ∧ e < b) := by omega
       have s1 : (rot m (m - i) (e - m) d).size = d.size := rot_size _ m (m - i) (e - m) d (Nat.le_refl _)
       have s2 : (rot m (m - i) (e - m) d).size = d.size := s1
       have s3 : (rot m (m - i) (e - m) d).size = d.size := s2
       have S123 : Aside ((rot m (m - i) (e - m) d).size = d.size ∧ (rot m (m - i) (e - m) d).size = d.size ∧ (rot m (m - i) (e - m) d).size = d.size) := ⟨s1, s2, s3⟩
       have hcR := rotate_calls blk off cap i m e d.size (.func (.func 79) #[] #[]) d wr rfl hHk (by omega) (by omega) (by omega) (by omega)
       clear hE ham hlo s1 s2 s3
       go_wp2_with (first | (go_at_call 106; with_reducible refine hcR.mono ?_; rintro e1 w1' ⟨rfl, q1, rfl⟩))
       go_end0
       obtain ⟨s1, s2, s3⟩ := S123.out
       have hs2 := HS2.out
       rw [if_pos cR, if_neg cL, if_neg cQ] at hs2
       rw [hs2, A.out]
       refine ⟨rfl, q + q1, ?_⟩
       rw [relay w blk off _ _ d d (rot m (m - i) (e - m) d) (s1.trans (rfl).symm)]
    ·have cRa : ¬ (i : Int) < (m : Int) := by omega
     have cR : ¬ (i < m ∧ m < e) := by omega
     rcases (show (a < i ∧ i < mid) ∨ (¬ a < i) ∨ (a < i ∧ ¬ i < mid) by omega) with hl | hl | hl
     ·have cLa : (a : Int) < (i : Int) := by omega
      have cLb : (i : Int) < (mid : Int) := by omega
      have cL := hl
      rcases (show (mid < e ∧ e < b) ∨ (¬ mid < e) ∨ (mid < e ∧ ¬ e < b) by omega) with hq | hq | hq
      ·have cQa : (mid : Int) < (e : Int) := by omega
       have cQb : (e : Int) < (b : Int) := by omega
       have cQ := hq
       have s1 : d.size = d.size := rfl
       have s2 : (symM (ltOf cf) a i mid d).size = d.size := (symM_size _ _ _ _ _ _ (Nat.le_refl _)).trans s1
       have s3 : (symM (ltOf cf) mid e b (symM (ltOf cf) a i mid d)).size = d.size := (symM_size _ _ _ _ _ _ (Nat.le_refl _)).trans s2
       have S123 : Aside (d.size = d.size ∧ (symM (ltOf cf) a i mid d).size = d.size ∧ (symM (ltOf cf) mid e b (symM (ltOf cf) a i mid d)).size = d.size) := ⟨s1, s2, s3⟩
       have hcL := fun (W : World) (hW : Holds enc W blk off d) => IH.out a i mid d W (by omega) s1 hW (by omega) (by omega) (by omega) (by omega)
       have hcQ := fun (W : World) (hW : Holds enc W blk off (symM (ltOf cf) a i mid d)) => IH.out mid e b (symM (ltOf cf) a i mid d) W (by omega) s2 hW (by omega) (by omega) (by omega) (by omega)
       clear hE ham hlo s1 s2 s3
       go_wp2_with (first | (go_at_call 102; with_reducible refine (hcL _ hHk).mono ?_; rintro e1 w1' ⟨rfl, q2, rfl⟩) | (go_at_call 102; with_reducible refine (hcQ _ (holds_drewN _ (holds_putRow enc wr blk off d _ hHk S123.out.2.1))).mono ?_; rintro e1 w1' ⟨rfl, q3, rfl⟩))
       go_end0
       obtain ⟨s1, s2, s3⟩ := S123.out
       have hs2 := HS2.out
       rw [if_neg cR, if_pos cL, if_pos cQ] at hs2
       rw [hs2, A.out]
       refine ⟨rfl, q + q2 + q3, ?_⟩
       rw [relay w blk off _ _ d d (symM (ltOf cf) a i mid d) (s2.trans (rfl).symm), relay w blk off _ _ d (symM (ltOf cf) a i mid d) (symM (ltOf cf) mid e b (symM (ltOf cf) a i mid d)) (s3.trans (s2).symm)]
      ·have cQa : ¬ (mid : Int) < (e : Int) := by omega
       have cQ : ¬ (mid < e ∧ e < b) := by omega
       have s1 : d.size = d.size := rfl
       have s2 : (symM (ltOf cf) a i mid d).size = d.size := (symM_size _ _ _ _ _ _ (Nat.le_refl _)).trans s1
       have s3 : (symM (ltOf cf) a i mid d).size = d.size := s2
       have S123 : Aside (d.size = d.size ∧ (symM (ltOf cf) a i mid d).size = d.size ∧ (symM (ltOf cf) a i mid d).size = d.size) := ⟨s1, s2, s3⟩
       have hcL := fun (W : World) (hW : Holds enc W blk off d) => IH.out a i mid d W (by omega) s1 hW (by omega) (by omega) (by omega) (by omega)
       clear hE ham hlo s1 s2 s3
       go_wp2_with (first | (go_at_call 102; with_reducible refine (hcL _ hHk).mono ?_; rintro e1 w1' ⟨rfl, q2, rfl⟩))
       go_end0
       obtain ⟨s1, s2, s3⟩ := S123.out
       have hs2 := HS2.out
       rw [if_neg cR, if_pos cL, if_neg cQ] at hs2
       rw [hs2, A.out]
       refine ⟨rfl, q + q2, ?_⟩
       rw [relay w blk off _ _ d d (symM (ltOf cf) a i mid d) (s2.trans (rfl).symm)]
      ·have cQa : (mid : Int) < (e : Int) := by omega
       have cQb : ¬ (e : Int) < (b : Int) := by omega
       have cQ : ¬ (mid < e ∧ e < b) := by omega
       have s1 : d.size = d.size := rfl
       have s2 : (symM (ltOf cf) a i mid d).size = d.size := (symM_size _ _ _ _ _ _ (Nat.le_refl _)).trans s1
       have s3 : (symM (ltOf cf) a i mid d).size = d.size := s2
       have S123 : Aside (d.size = d.size ∧ (symM (ltOf cf) a i mid d).size = d.size ∧ (symM (ltOf cf) a i mid d).size = d.size) := ⟨s1, s2, s3⟩
       have hcL := fun (W : World) (hW : Holds enc W blk off d) => IH.out a i mid d W (by omega) s1 hW (by omega) (by omega) (by omega) (by omega)
       clear hE ham hlo s1 s2 s3
       go_wp2_with (first | (go_at_call 102; with_reducible refine (hcL _ hHk).mono ?_; rintro e1 w1' ⟨rfl, q2, rfl⟩))
       go_end0
       obtain ⟨s1, s2, s3⟩ := S123.out
       have hs2 := HS2.out
       rw [if_neg cR, if_pos cL, if_neg cQ] at hs2
       rw [hs2, A.out]
       refine ⟨rfl, q + q2, ?_⟩
       rw [relay w blk off _ _ d d (symM (ltOf cf) a i mid d) (s2.trans (rfl).symm)]
     ·have cLa : ¬ (a : Int) < (i : Int) := by omega
      have cL : ¬ (a < i ∧ i < mid) := by omega
      rcases (show (mid < e ∧ e < b) ∨ (¬ mid < e) ∨ (mid < e ∧ ¬ e < b) by omega) with hq | hq | hq
      ·have cQa : (mid : Int) < (e : Int) := by omega
       have cQb : (e : Int) < (b : Int) := by omega
       have cQ := hq
       have s1 : d.size = d.size := rfl
       have s2 : d.size = d.size := s1
       have s3 : (symM (ltOf cf) mid e b d).size = d.size := (symM_size _ _ _ _ _ _ (Nat.le_refl _)).trans s2
       have S123 : Aside (d.size = d.size ∧ d.size = d.size ∧ (symM (ltOf cf) mid e b d).size = d.size) := ⟨s1, s2, s3⟩
       have hcQ := fun (W : World) (hW : Holds enc W blk off d) => IH.out mid e b d W (by omega) s2 hW (by omega) (by omega) (by omega) (by omega)
       clear hE ham hlo s1 s2 s3
       go_wp2_with (first | (go_at_call 102; with_reducible refine (hcQ _ hHk).mono ?_; rintro e1 w1' ⟨rfl, q3, rfl⟩))
       go_end0
       obtain ⟨s1, s2, s3⟩ := S123.out
       have hs2 := HS2.out
       rw [if_neg cR, if_neg cL, if_pos cQ] at hs2
       rw [hs2, A.out]
       refine ⟨rfl, q + q3, ?_⟩
       rw [relay w blk off _ _ d d (symM (ltOf cf) mid e b d) (s3.trans (rfl).symm)]
      ·have cQa : ¬ (mid : Int) < (e : Int) := by omega
       have cQ : ¬ (mid < e ∧ e < b) := by omega
       have s1 : d.size = d.size := rfl
       have s2 : d.size = d.size := s1
       have s3 : d.size = d.size := s2
       have S123 : Aside (d.size = d.size ∧ d.size = d.size ∧ d.size = d.size) := ⟨s1, s2, s3⟩
       clear hE ham hlo s1 s2 s3
       go_wp2_with (first | fail)
       go_end0
       obtain ⟨s1, s2, s3⟩ := S123.out
       have hs2 := HS2.out
       rw [if_neg cR, if_neg cL, if_neg cQ] at hs2
       rw [hs2, A.out]
       exact ⟨rfl, q, rfl⟩
      ·have cQa : (mid : Int) < (e : Int) := by omega
       have cQb : ¬ (e : Int) < (b : Int) := by omega
       have cQ : ¬ (mid < e ∧ e < b) := by omega
       have s1 : d.size = d.size := rfl
       have s2 : d.size = d.size := s1
       have s3 : d.size = d.size := s2
       have S123 : Aside (d.size = d.size ∧ d.size = d.size ∧ d.size = d.size) := ⟨s1, s2, s3⟩
       clear hE ham hlo s1 s2 s3
       go_wp2_with (first | fail)
       go_end0
       obtain ⟨s1, s2, s3⟩ := S123.out
       have hs2 := HS2.out
       rw [if_neg cR, if_neg cL, if_neg cQ] at hs2
       rw [hs2, A.out]
       exact ⟨rfl, q, rfl⟩
     ·have cLa : (a : Int) < (i : Int) := by omega
      have cLb : ¬ (i : Int) < (mid : Int) := by omega
      have cL : ¬ (a < i ∧ i < mid) := by omega
      rcases (show (mid < e ∧ e < b) ∨ (¬ mid < e) ∨ (mid < e ∧ ¬ e < b) by omega) with hq | hq | hq
      ·have cQa : (mid : Int) < (e : Int) := by omega
       have cQb : (e : Int) < (b : Int) := by omega
       have cQ := hq
       have s1 : d.size = d.size := rfl
       have s2 : d.size = d.size := s1
       have s3 : (symM (ltOf cf) mid e b d).size = d.size := (symM_size _ _ _ _ _ _ (Nat.le_refl _)).trans s2
       have S123 : Aside (d.size = d.size ∧ d.size = d.size ∧ (symM (ltOf cf) mid e b d).size = d.size) := ⟨s1, s2, s3⟩
       have hcQ := fun (W : World) (hW : Holds enc W blk off d) => IH.out mid e b d W (by omega) s2 hW (by omega) (by omega) (by omega) (by omega)
       clear hE ham hlo s1 s2 s3
       go_wp2_with (first | (go_at_call 102; with_reducible refine (hcQ _ hHk).mono ?_; rintro e1 w1' ⟨rfl, q3, rfl⟩))
       go_end0
       obtain ⟨s1, s2, s3⟩ := S123.out
       have hs2 := HS2.out
       rw [if_neg cR, if_neg cL, if_pos cQ] at hs2
       rw [hs2, A.out]
       refine ⟨rfl, q + q3, ?_⟩
       rw [relay w blk off _ _ d d (symM (ltOf cf) mid e b d) (s3.trans (rfl).symm)]
      ·have cQa : ¬ (mid : Int) < (e : Int) := by omega
       have cQ : ¬ (mid < e ∧ e < b) := by omega
       have s1 : d.size = d.size := rfl
       have s2 : d.size = d.size := s1
       have s3 : d.size = d.size := s2
       have S123 : Aside (d.size = d.size ∧ d.size = d.size ∧ d.size = d.size) := ⟨s1, s2, s3⟩
       clear hE ham hlo s1 s2 s3
       go_wp2_with (first | fail)
       go_end0
       obtain ⟨s1, s2, s3⟩ := S123.out
       have hs2 := HS2.out
       rw [if_neg cR, if_neg cL, if_neg cQ] at hs2
       rw [hs2, A.out]
       exact ⟨rfl, q, rfl⟩
      ·have cQa : (mid : Int) < (e : Int) := by omega
       have cQb : ¬ (e : Int) < (b : Int) := by omega
       have cQ : ¬ (mid < e ∧ e < b) := by omega
       have s1 : d.size = d.size := rfl
       have s2 : d.size = d.size := s1
       have s3 : d.size = d.size := s2
       have S123 : Aside (d.size = d.size ∧ d.size = d.size ∧ d.size = d.size) := ⟨s1, s2, s3⟩
       clear hE ham hlo s1 s2 s3
       go_wp2_with (first | fail)
       go_end0
       obtain ⟨s1, s2, s3⟩ := S123.out
       have hs2 := HS2.out
       rw [if_neg cR, if_neg cL, if_neg cQ] at hs2
       rw [hs2, A.out]
       exact ⟨rfl, q, rfl⟩
    ·have cRa : (i : Int) < (m : Int) := by omega
     have cRb : ¬ (m : Int) < (e : Int) := by omega
     have cR : ¬ (i < m ∧ m < e) := by omega
     rcases (show (a < i ∧ i < mid) ∨ (¬ a < i) ∨ (a < i ∧ ¬ i < mid) by omega) with hl | hl | hl
     ·have cLa : (a : Int) < (i : Int) := by omega
      have cLb : (i : Int) < (mid : Int) := by omega
      have cL := hl
      rcases (show (mid < e ∧ e < b) ∨ (¬ mid < e) ∨ (mid < e ∧ ¬ e < b) by omega) with hq | hq | hq
      ·have cQa : (mid : Int) < (e : Int) := by omega
       have cQb : (e : Int) < (b : Int) := by omega
       have cQ := hq
       have s1 : d.size = d.size := rfl
       have s2 : (symM (ltOf cf) a i mid d).size = d.size := (symM_size _ _ _ _ _ _ (Nat.le_refl _)).trans s1
       have s3 : (symM (ltOf cf) mid e b (symM (ltOf cf) a i mid d)).size = d.size := (symM_size _ _ _ _ _ _ (Nat.le_refl _)).trans s2
       have S123 : Aside (d.size = d.size ∧ (symM (ltOf cf) a i mid d).size = d.size ∧ (symM (ltOf cf) mid e b (symM (ltOf cf) a i mid d)).size = d.size) := ⟨s1, s2, s3⟩
       have hcL := fun (W : World) (hW : Holds enc W blk off d) => IH.out a i mid d W (by omega) s1 hW (by omega) (by omega) (by omega) (by omega)
       have hcQ := fun (W : World) (hW : Holds enc W blk off (symM (ltOf cf) a i mid d)) => IH.out mid e b (symM (ltOf cf) a i mid d) W (by omega) s2 hW (by omega) (by omega) (by omega) (by omega)
       clear hE ham hlo s1 s2 s3
       go_wp2_with (first | (go_at_call 102; with_reducible refine (hcL _ hHk).mono ?_; rintro e1 w1' ⟨rfl, q2, rfl⟩) | (go_at_call 102; with_reducible refine (hcQ _ (holds_drewN _ (holds_putRow enc wr blk off d _ hHk S123.out.2.1))).mono ?_; rintro e1 w1' ⟨rfl, q3, rfl⟩))
       go_end0
       obtain ⟨s1, s2, s3⟩ := S123.out
       have hs2 := HS2.out
       rw [if_neg cR, if_pos cL, if_pos cQ] at hs2
       rw [hs2, A.out]
       refine ⟨rfl, q + q2 + q3, ?_⟩
       rw [relay w blk off _ _ d d (symM (ltOf cf) a i mid d) (s2.trans (rfl).symm), relay w blk off _ _ d (symM (ltOf cf) a i mid d) (symM (ltOf cf) mid e b (symM (ltOf cf) a i mid d)) (s3.trans (s2).symm)]
      ·have cQa : ¬ (mid : Int) < (e : Int) := by omega
       have cQ : ¬ (mid < e ∧ e < b) := by omega
       have s1 : d.size = d.size := rfl
       have s2 : (symM (ltOf cf) a i mid d).size = d.size := (symM_size _ _ _ _ _ _ (Nat.le_refl _)).trans s1
       have s3 : (symM (ltOf cf) a i mid d).size = d.size := s2
       have S123 : Aside (d.size = d.size ∧ (symM (ltOf cf) a i mid d).size = d.size ∧ (symM (ltOf cf) a i mid d).size = d.size) := ⟨s1, s2, s3⟩
       have hcL := fun (W : World) (hW : Holds enc W blk off d) => IH.out a i mid d W (by omega) s1 hW (by omega) (by omega) (by omega) (by omega)
       clear hE ham hlo s1 s2 s3
       go_wp2_with (first | (go_at_call 102; with_reducible refine (hcL _ hHk).mono ?_; rintro e1 w1' ⟨rfl, q2, rfl⟩))
       go_end0
       obtain ⟨s1, s2, s3⟩ := S123.out
       have hs2 := HS2.out
       rw [if_neg cR, if_pos cL, if_neg cQ] at hs2
       rw [hs2, A.out]
       refine ⟨rfl, q + q2, ?_⟩
       rw [relay w blk off _ _ d d (symM (ltOf cf) a i mid d) (s2.trans (rfl).symm)]
      ·have cQa : (mid : Int) < (e : Int) := by omega
       have cQb : ¬ (e : Int) < (b : Int) := by omega
       have cQ : ¬ (mid < e ∧ e < b) := by omega
       have s1 : d.size = d.size := rfl
       have s2 : (symM (ltOf cf) a i mid d).size = d.size := (symM_size _ _ _ _ _ _ (Nat.le_refl _)).trans s1
       have s3 : (symM (ltOf cf) a i mid d).size = d.size := s2
       have S123 : Aside (d.size = d.size ∧ (symM (ltOf cf) a i mid d).size = d.size ∧ (symM (ltOf cf) a i mid d).size = d.size) := ⟨s1, s2, s3⟩
       have hcL := fun (W : World) (hW : Holds enc W blk off d) => IH.out a i mid d W (by omega) s1 hW (by omega) (by omega) (by omega) (by omega)
       clear hE ham hlo s1 s2 s3
       go_wp2_with (first | (go_at_call 102; with_reducible refine (hcL _ hHk).mono ?_; rintro e1 w1' ⟨rfl, q2, rfl⟩))
       go_end0
       obtain ⟨s1, s2, s3⟩ := S123.out
       have hs2 := HS2.out
       rw [if_neg cR, if_pos cL, if_neg cQ] at hs2
       rw [hs2, A.out]
       refine ⟨rfl, q + q2, ?_⟩
       rw [relay w blk off _ _ d d (symM (ltOf cf) a i mid d) (s2.trans (rfl).symm)]
     ·have cLa : ¬ (a : Int) < (i : Int) := by omega
      have cL : ¬ (a < i ∧ i < mid) := by omega
      rcases (show (mid < e ∧ e < b) ∨ (¬ mid < e) ∨ (mid < e ∧ ¬ e < b) by omega) with hq | hq | hq
      ·have cQa : (mid : Int) < (e : Int) := by omega
       have cQb : (e : Int) < (b : Int) := by omega
       have cQ := hq
       have s1 : d.size = d.size := rfl
       have s2 : d.size = d.size := s1
       have s3 : (symM (ltOf cf) mid e b d).size = d.size := (symM_size _ _ _ _ _ _ (Nat.le_refl _)).trans s2
       have S123 : Aside (d.size = d.size ∧ d.size = d.size ∧ (symM (ltOf cf) mid e b d).size = d.size) := ⟨s1, s2, s3⟩
       have hcQ := fun (W : World) (hW : Holds enc W blk off d) => IH.out mid e b d W (by omega) s2 hW (by omega) (by omega) (by omega) (by omega)
       clear hE ham hlo s1 s2 s3
       go_wp2_with (first | (go_at_call 102; with_reducible refine (hcQ _ hHk).mono ?_; rintro e1 w1' ⟨rfl, q3, rfl⟩))
       go_end0
       obtain ⟨s1, s2, s3⟩ := S123.out
       have hs2 := HS2.out
       rw [if_neg cR, if_neg cL, if_pos cQ] at hs2
       rw [hs2, A.out]
       refine ⟨rfl, q + q3, ?_⟩
       rw [relay w blk off _ _ d d (symM (ltOf cf) mid e b d) (s3.trans (rfl).symm)]
      ·have cQa : ¬ (mid : Int) < (e : Int) := by omega
       have cQ : ¬ (mid < e ∧ e < b) := by omega
       have s1 : d.size = d.size := rfl
       have s2 : d.size = d.size := s1
       have s3 : d.size = d.size := s2
       have S123 : Aside (d.size = d.size ∧ d.size = d.size ∧ d.size = d.size) := ⟨s1, s2, s3⟩
       clear hE ham hlo s1 s2 s3
       go_wp2_with (first | fail)
       go_end0
       obtain ⟨s1, s2, s3⟩ := S123.out
       have hs2 := HS2.out
       rw [if_neg cR, if_neg cL, if_neg cQ] at hs2
       rw [hs2, A.out]
       exact ⟨rfl, q, rfl⟩
      ·have cQa : (mid : Int) < (e : Int) := by omega
       have cQb : ¬ (e : Int) < (b : Int) := by omega
       have cQ : ¬ (mid < e ∧ e < b) := by omega
       have s1 : d.size = d.size := rfl
       have s2 : d.size = d.size := s1
       have s3 : d.size = d.size := s2
       have S123 : Aside (d.size = d.size ∧ d.size = d.size ∧ d.size = d.size) := ⟨s1, s2, s3⟩
       clear hE ham hlo s1 s2 s3
       go_wp2_with (first | fail)
       go_end0
       obtain ⟨s1, s2, s3⟩ := S123.out
       have hs2 := HS2.out
       rw [if_neg cR, if_neg cL, if_neg cQ] at hs2
       rw [hs2, A.out]
       exact ⟨rfl, q, rfl⟩
     ·have cLa : (a : Int) < (i : Int) := by omega
      have cLb : ¬ (i : Int) < (mid : Int) := by omega
      have cL : ¬ (a < i ∧ i < mid) := by omega
      rcases (show (mid < e ∧ e < b) ∨ (¬ mid < e) ∨ (mid < e ∧ ¬ e < b) by omega) with hq | hq | hq
      ·have cQa : (mid : Int) < (e : Int) := by omega
       have cQb : (e : Int) < (b : Int) := by omega
       have cQ := hq
       have s1 : d.size = d.size := rfl
       have s2 : d.size = d.size := s1
       have s3 : (symM (ltOf cf) mid e b d).size = d.size := (symM_size _ _ _ _ _ _ (Nat.le_refl _)).trans s2
       have S123 : Aside (d.size = d.size ∧ d.size = d.size ∧ (symM (ltOf cf) mid e b d).size = d.size) := ⟨s1, s2, s3⟩
       have hcQ := fun (W : World) (hW : Holds enc W blk off d) => IH.out mid e b d W (by omega) s2 hW (by omega) (by omega) (by omega) (by omega)
       clear hE ham hlo s1 s2 s3
       go_wp2_with (first | (go_at_call 102; with_reducible refine (hcQ _ hHk).mono ?_; rintro e1 w1' ⟨rfl, q3, rfl⟩))
       go_end0
       obtain ⟨s1, s2, s3⟩ := S123.out
       have hs2 := HS2.out
       rw [if_neg cR, if_neg cL, if_pos cQ] at hs2
       rw [hs2, A.out]
       refine ⟨rfl, q + q3, ?_⟩
       rw [relay w blk off _ _ d d (symM (ltOf cf) mid e b d) (s3.trans (rfl).symm)]
      ·have cQa : ¬ (mid : Int) < (e : Int) := by omega
       have cQ : ¬ (mid < e ∧ e < b) := by omega
       have s1 : d.size = d.size := rfl
       have s2 : d.size = d.size := s1
       have s3 : d.size = d.size := s2
       have S123 : Aside (d.size = d.size ∧ d.size = d.size ∧ d.size = d.size) := ⟨s1, s2, s3⟩
       clear hE ham hlo s1 s2 s3
       go_wp2_with (first | fail)
       go_end0
       obtain ⟨s1, s2, s3⟩ := S123.out
       have hs2 := HS2.out
       rw [if_neg cR, if_neg cL, if_neg cQ] at hs2
       rw [hs2, A.out]
       exact ⟨rfl, q, rfl⟩
      ·have cQa : (mid : Int) < (e : Int) := by omega
       have cQb : ¬ (e : Int) < (b : Int) := by omega
       have cQ : ¬ (mid < e ∧ e < b) := by omega
       have s1 : d.size = d.size := rfl
       have s2 : d.size = d.size := s1
       have s3 : d.size = d.size := s2
       have S123 : Aside (d.size = d.size ∧ d.size = d.size ∧ d.size = d.size) := ⟨s1, s2, s3⟩
       clear hE ham hlo s1 s2 s3
       go_wp2_with (first | fail)
       go_end0
       obtain ⟨s1, s2, s3⟩ := S123.out
       have hs2 := HS2.out
       rw [if_neg cR, if_neg cL, if_neg cQ] at hs2
       rw [hs2, A.out]
       exact ⟨rfl, q, rfl⟩
 ·have hbz : ¬ (mid : Int) < (m : Int) := by omega
  go_enter Tryd.func102, Tryd.ntmps102
  go_wp2
  go_loopg [20, 21] (hi - lo) (fun g1 vi vj wr => ∃ (i j q : Nat), vi = .int .i64 i ∧ vj = .int .i64 j ∧ lo ≤ i ∧ i ≤ j ∧ j ≤ hi ∧ j - i ≤ g1 ∧ wr = (putRow enc w blk off d).drewN q ∧ Aside (bs (fun c => !ltOf cf d[p - c]! d[c]!) i j = bs (fun c => !ltOf cf d[p - c]! d[c]!) lo hi))
  case atStart =>
   obtain ⟨_, h2, h3, h4, h5⟩ := HLO.out
   exact ⟨lo, hi, 0, by first | go_num | (congr 1; omega), by first | go_num | (congr 1; omega), by omega, by omega, by omega, by omega, HST.out, rfl⟩
  case round =>
   obtain ⟨i, j, q, rfl, rfl, hmi, hij, hjb, hg1, hwr, HO⟩ := hrel
   have hHk : Holds enc wr blk off d := by rw [hwr]; exact holds_putRow enc w blk off d d HH.out rfl
   have A : Aside (wr = (putRow enc w blk off d).drewN q) := hwr
   clear hwr
   by_cases hlt : i < j
   ·have hltz : (i : Int) < (j : Int) := by omega
    have ham := HA.out
    have hlo := HLO.out
    obtain ⟨h, hh⟩ : ∃ h, h = (i + j) / 2 := ⟨_, rfl⟩
    have eh : ((i : Int) + (j : Int)) / 2 = (h : Int) := by omega
    obtain ⟨pc, hpc⟩ : ∃ pc, pc = p - h := ⟨_, rfl⟩
    have wpc : IntKind.i64.wrap ((p : Int) - (h : Int)) = (pc : Int) := by rw [IntKind.wrap_i64]; omega
    obtain ⟨x, hx⟩ : ∃ x, d[pc]! = x := ⟨_, rfl⟩
    obtain ⟨y, hy⟩ : ∃ y, d[h]! = y := ⟨_, rfl⟩
    obtain ⟨ch, _⟩ := hHk pc (by omega)
    obtain ⟨ca, _⟩ := hHk h (by omega)
    rw [hx] at ch
    rw [hy] at ca
    have hz : (h : Int) < (d.size : Int) := by omega
    have az : (pc : Int) < (d.size : Int) := by omega
    have hc : ∀ n, Calls Tryd.prog 79 #[enc x, enc y] (wr.drewN n) fun e w' => e = .returned (.int .i64 (cf x y)) ∧ ∃ q, w' = (wr.drewN n).drewN q := fun n => HC.out x y _
    have HI : Aside (i < j ∧ h = (i + j) / 2 ∧ d[p - h]! = x ∧ d[h]! = y) := ⟨hlt, hh, by rw [← hpc]; exact hx, hy⟩
    clear hHk hh hx hy ham hlo hpc
    by_cases hlv : cf x y < 0
    ·have hlvb : decide (cf x y < 0) = true := decide_eq_true hlv
     go_wp2_with fail
     go_quiet (first | (go_at_call 79; refine Calls.quiet_of (hc _)))
     go_wp2
     go_roundg (h - i)
     case measure => have := HI.out; omega
     case rel =>
      obtain ⟨_, hh, hx, hy⟩ := HI.out
      refine ⟨i, h, q + nq, by go_num, by go_num, by omega, by omega, by omega, by omega, by rw [A.out, World.drewN_drewN], (show Aside _ from ?_)⟩
      show _ = _
      rw [← HO.out, bs_no _ i j hlt (by rw [← hh, hx, hy]; simp [ltOf, hlv]), hh]
    ·have hlvb : decide (cf x y < 0) = false := decide_eq_false hlv
     go_wp2_with fail
     go_quiet (first | (go_at_call 79; refine Calls.quiet_of (hc _)))
     go_wp2
     go_roundg (j - (h + 1))
     case measure => have := HI.out; omega
     case rel =>
      obtain ⟨_, hh, hx, hy⟩ := HI.out
      refine ⟨h + 1, j, q + nq, by go_num, by go_num, by omega, by omega, by omega, by omega, by rw [A.out, World.drewN_drewN], (show Aside _ from ?_)⟩
      show _ = _
      rw [← HO.out, bs_go _ i j hlt (by rw [← hh, hx, hy]; simp [ltOf]; omega), hh]
   ·have hltz : ¬ (i : Int) < (j : Int) := by omega
    have hS : symStart (ltOf cf) a m b d = i := by rw [HLO.out.1, ← HO.out, bs_end _ i j hlt]
    have ham := HA.out
    have hlo := HLO.out
    obtain ⟨e, he⟩ : ∃ e, e = n - i := ⟨_, rfl⟩
    have we : IntKind.i64.wrap ((n : Int) - (i : Int)) = (e : Int) := by rw [IntKind.wrap_i64]; omega
    have HE : Aside (e = n - i ∧ a ≤ i ∧ i ≤ m ∧ m ≤ e ∧ e ≤ b) := by
     show _ ∧ _
     omega
    have hs2 := HSYM.out
    simp only [hS] at hs2
    rw [show mid + m - i = e from by omega] at hs2
    have HS2 : Aside _ := hs2
    have hE := HE.out
    clear hS hs2 he
    rcases (show (i < m ∧ m < e) ∨ (¬ i < m) ∨ (i < m ∧ ¬ m < e) by omega) with hr | hr | hr
    ·have cRa : (i : Int) < (m : Int) := by omega
     have cRb : (m : Int) < (e : Int) := by omega
     have cR := hr
     rcases (show (a < i ∧ i < mid) ∨ (¬ a < i) ∨ (a < i ∧ ¬ i < mid) by omega) with hl | hl | hl
     ·have cLa : (a : Int) < (i : Int) := by omega
      have cLb : (i : Int) < (mid : Int) := by omega
      have cL := hl
      rcases (show (mid < e ∧ e < b) ∨ (¬ mid < e) ∨ (mid < e ∧ ¬ e < b) by omega) with hq | hq | hq
      ·have cQa : (mid : Int) < (e : Int) := by omega
       have cQb : (e : Int) < (b : Int) := by omega
       have cQ := hq
       have s1 : (rot m (m - i) (e - m) d).size = d.size := rot_size _ m (m - i) (e - m) d (Nat.le_refl _)
       have s2 : (symM (ltOf cf) a i mid (rot m (m - i) (e - m) d)).size = d.size := (symM_size _ _ _ _ _ _ (Nat.le_refl _)).trans s1
       have s3 : (symM (ltOf cf) mid e b (symM (ltOf cf) a i mid (rot m (m - i) (e - m) d))).size = d.size := (symM_size _ _ _ _ _ _ (Nat.le_refl _)).trans s2
       have S123 : Aside ((rot m (m - i) (e - m) d).size = d.size ∧ (symM (ltOf cf) a i mid (rot m (m - i) (e - m) d)).size = d.size ∧ (symM (ltOf cf) mid e b (symM (ltOf cf) a i mid (rot m (m - i) (e - m) d))).size = d.size) := ⟨s1, s2, s3⟩
       have hcR := rotate_calls blk off cap i m e d.size (.func (.func 79) #[] #[]) d wr rfl hHk (by omega) (by omega) (by omega) (by omega)
       have hcL := fun (W : World) (hW : Holds enc W blk off (rot m (m - i) (e - m) d)) => IH.out a i mid (rot m (m - i) (e - m) d) W (by omega) s1 hW (by omega) (by omega) (by omega) (by omega)
       have hcQ := fun (W : World) (hW : Holds enc W blk off (symM (ltOf cf) a i mid (rot m (m - i) (e - m) d))) => IH.out mid e b (symM (ltOf cf) a i mid (rot m (m - i) (e - m) d)) W (by omega) s2 hW (by omega) (by omega) (by omega) (by omega)
       clear hE ham hlo s1 s2 s3
       go_wp2_with (first | (go_at_call 106; with_reducible refine hcR.mono ?_; rintro e1 w1' ⟨rfl, q1, rfl⟩) | (go_at_call 102; with_reducible refine (hcL _ (holds_drewN _ (holds_putRow enc wr blk off d _ hHk S123.out.1))).mono ?_; rintro e1 w1' ⟨rfl, q2, rfl⟩) | (go_at_call 102; with_reducible refine (hcQ _ (holds_drewN _ (holds_putRow enc _ blk off _ _ (holds_drewN _ (holds_putRow enc wr blk off d _ hHk S123.out.1)) (S123.out.2.1.trans S123.out.1.symm)))).mono ?_; rintro e1 w1' ⟨rfl, q3, rfl⟩))
       go_end0
       obtain ⟨s1, s2, s3⟩ := S123.out
       have hs2 := HS2.out
       rw [if_pos cR, if_pos cL, if_pos cQ] at hs2
       rw [hs2, A.out]
       refine ⟨rfl, q + q1 + q2 + q3, ?_⟩
       rw [relay w blk off _ _ d d (rot m (m - i) (e - m) d) (s1.trans (rfl).symm), relay w blk off _ _ d (rot m (m - i) (e - m) d) (symM (ltOf cf) a i mid (rot m (m - i) (e - m) d)) (s2.trans (s1).symm), relay w blk off _ _ d (symM (ltOf cf) a i mid (rot m (m - i) (e - m) d)) (symM (ltOf cf) mid e b (symM (ltOf cf) a i mid (rot m (m - i) (e - m) d))) (s3.trans (s2).symm)]
      ·have cQa : ¬ (mid : Int) < (e : Int) := by omega
       have cQ : ¬ (mid < e ∧ e < b) := by omega
       have s1 : (rot m (m - i) (e - m) d).size = d.size := rot_size _ m (m - i) (e - m) d (Nat.le_refl _)
       have s2 : (symM (ltOf cf) a i mid (rot m (m - i) (e - m) d)).size = d.size := (symM_size _ _ _ _ _ _ (Nat.le_refl _)).trans s1
       have s3 : (symM (ltOf cf) a i mid (rot m (m - i) (e - m) d)).size = d.size := s2
       have S123 : Aside ((rot m (m - i) (e - m) d).size = d.size ∧ (symM (ltOf cf) a i mid (rot m (m - i) (e - m) d)).size = d.size ∧ (symM (ltOf cf) a i mid (rot m (m - i) (e - m) d)).size = d.size) := ⟨s1, s2, s3⟩
       have hcR := rotate_calls blk off cap i m e d.size (.func (.func 79) #[] #[]) d wr rfl hHk (by omega) (by omega) (by omega) (by omega)
       have hcL := fun (W : World) (hW : Holds enc W blk off (rot m (m - i) (e - m) d)) => IH.out a i mid (rot m (m - i) (e - m) d) W (by omega) s1 hW (by omega) (by omega) (by omega) (by omega)
       clear hE ham hlo s1 s2 s3
       go_wp2_with (first | (go_at_call 106; with_reducible refine hcR.mono ?_; rintro e1 w1' ⟨rfl, q1, rfl⟩) | (go_at_call 102; with_reducible refine (hcL _ (holds_drewN _ (holds_putRow enc wr blk off d _ hHk S123.out.1))).mono ?_; rintro e1 w1' ⟨rfl, q2, rfl⟩))
       go_end0
       obtain ⟨s1, s2, s3⟩ := S123.out
       have hs2 := HS2.out
       rw [if_pos cR, if_pos cL, if_neg cQ] at hs2
       rw [hs2, A.out]
       refine ⟨rfl, q + q1 + q2, ?_⟩
       rw [relay w blk off _ _ d d (rot m (m - i) (e - m) d) (s1.trans (rfl).symm), relay w blk off _ _ d (rot m (m - i) (e - m) d) (symM (ltOf cf) a i mid (rot m (m - i) (e - m) d)) (s2.trans (s1).symm)]
      ·have cQa : (mid : Int) < (e : Int) := by omega
       have cQb : ¬ (e : Int) < (b : Int) := by omega
       have cQ : ¬ (mid < e ∧ e < b) := by omega
       have s1 : (rot m (m - i) (e - m) d).size = d.size := rot_size _ m (m - i) (e - m) d (Nat.le_refl _)
       have s2 : (symM (ltOf cf) a i mid (rot m (m - i) (e - m) d)).size = d.size := (symM_size _ _ _ _ _ _ (Nat.le_refl _)).trans s1
       have s3 : (symM (ltOf cf) a i mid (rot m (m - i) (e - m) d)).size = d.size := s2
       have S123 : Aside ((rot m (m - i) (e - m) d).size = d.size ∧ (symM (ltOf cf) a i mid (rot m (m - i) (e - m) d)).size = d.size ∧ (symM (ltOf cf) a i mid (rot m (m - i) (e - m) d)).size = d.size) := ⟨s1, s2, s3⟩
       have hcR := rotate_calls blk off cap i m e d.size (.func (.func 79) #[] #[]) d wr rfl hHk (by omega) (by omega) (by omega) (by omega)
       have hcL := fun (W : World) (hW : Holds enc W blk off (rot m (m - i) (e - m) d)) => IH.out a i mid (rot m (m - i) (e - m) d) W (by omega) s1 hW (by omega) (by omega) (by omega) (by omega)
       clear hE ham hlo s1 s2 s3
       go_wp2_with (first | (go_at_call 106; with_reducible refine hcR.mono ?_; rintro e1 w1' ⟨rfl, q1, rfl⟩) | (go_at_call 102; with_reducible refine (hcL _ (holds_drewN _ (holds_putRow enc wr blk off d _ hHk S123.out.1))).mono ?_; rintro e1 w1' ⟨rfl, q2, rfl⟩))
       go_end0
       obtain ⟨s1, s2, s3⟩ := S123.out
       have hs2 := HS2.out
       rw [if_pos cR, if_pos cL, if_neg cQ] at hs2
       rw [hs2, A.out]
       refine ⟨rfl, q + q1 + q2, ?_⟩
       rw [relay w blk off _ _ d d (rot m (m - i) (e - m) d) (s1.trans (rfl).symm), relay w blk off _ _ d (rot m (m - i) (e - m) d) (symM (ltOf cf) a i mid (rot m (m - i) (e - m) d)) (s2.trans (s1).symm)]
     ·have cLa : ¬ (a : Int) < (i : Int) := by omega
      have cL : ¬ (a < i ∧ i < mid) := by omega
      rcases (show (mid < e ∧ e < b) ∨ (¬ mid < e) ∨ (mid < e ∧ ¬ e < b) by omega) with hq | hq | hq
      ·have cQa : (mid : Int) < (e : Int) := by omega
       have cQb : (e : Int) < (b : Int) := by omega
       have cQ := hq
       have s1 : (rot m (m - i) (e - m) d).size = d.size := rot_size _ m (m - i) (e - m) d (Nat.le_refl _)
       have s2 : (rot m (m - i) (e - m) d).size = d.size := s1
       have s3 : (symM (ltOf cf) mid e b (rot m (m - i) (e - m) d)).size = d.size := (symM_size _ _ _ _ _ _ (Nat.le_refl _)).trans s2
       have S123 : Aside ((rot m (m - i) (e - m) d).size = d.size ∧ (rot m (m - i) (e - m) d).size = d.size ∧ (symM (ltOf cf) mid e b (rot m (m - i) (e - m) d)).size = d.size) := ⟨s1, s2, s3⟩
       have hcR := rotate_calls blk off cap i m e d.size (.func (.func 79) #[] #[]) d wr rfl hHk (by omega) (by omega) (by omega) (by omega)
       have hcQ := fun (W : World) (hW : Holds enc W blk off (rot m (m - i) (e - m) d)) => IH.out mid e b (rot m (m - i) (e - m) d) W (by omega) s2 hW (by omega) (by omega) (by omega) (by omega)
       clear hE ham hlo s1 s2 s3
       go_wp2_with (first | (go_at_call 106; with_reducible refine hcR.mono ?_; rintro e1 w1' ⟨rfl, q1, rfl⟩) | (go_at_call 102; with_reducible refine (hcQ _ (holds_drewN _ (holds_putRow enc wr blk off d _ hHk S123.out.1))).mono ?_; rintro e1 w1' ⟨rfl, q3, rfl⟩))
       go_end0
       obtain ⟨s1, s2, s3⟩ := S123.out
       have hs2 := HS2.out
       rw [if_pos cR, if_neg cL, if_pos cQ] at hs2
       rw [hs2, A.out]
       refine ⟨rfl, q + q1 + q3, ?_⟩
       rw [relay w blk off _ _ d d (rot m (m - i) (e - m) d) (s1.trans (rfl).symm), relay w blk off _ _ d (rot m (m - i) (e - m) d) (symM (ltOf cf) mid e b (rot m (m - i) (e - m) d)) (s3.trans (s1).symm)]
      ·have cQa : ¬ (mid : Int) < (e : Int) := by omega
       have cQ : ¬ (mid < e ∧ e < b) := by omega
       have s1 : (rot m (m - i) (e - m) d).size = d.size := rot_size _ m (m - i) (e - m) d (Nat.le_refl _)
       have s2 : (rot m (m - i) (e - m) d).size = d.size := s1
       have s3 : (rot m (m - i) (e - m) d).size = d.size := s2
       have S123 : Aside ((rot m (m - i) (e - m) d).size = d.size ∧ (rot m (m - i) (e - m) d).size = d.size ∧ (rot m (m - i) (e - m) d).size = d.size) := ⟨s1, s2, s3⟩
       have hcR := rotate_calls blk off cap i m e d.size (.func (.func 79) #[] #[]) d wr rfl hHk (by omega) (by omega) (by omega) (by omega)
       clear hE ham hlo s1 s2 s3
       go_wp2_with (first | (go_at_call 106; with_reducible refine hcR.mono ?_; rintro e1 w1' ⟨rfl, q1, rfl⟩))
       go_end0
       obtain ⟨s1, s2, s3⟩ := S123.out
       have hs2 := HS2.out
       rw [if_pos cR, if_neg cL, if_neg cQ] at hs2
       rw [hs2, A.out]
       refine ⟨rfl, q + q1, ?_⟩
       rw [relay w blk off _ _ d d (rot m (m - i) (e - m) d) (s1.trans (rfl).symm)]
      ·have cQa : (mid : Int) < (e : Int) := by omega
       have cQb : ¬ (e : Int) < (b : Int) := by omega
       have cQ : ¬ (mid < e ∧ e < b) := by omega
       have s1 : (rot m (m - i) (e - m) d).size = d.size := rot_size _ m (m - i) (e - m) d (Nat.le_refl _)
       have s2 : (rot m (m - i) (e - m) d).size = d.size := s1
       have s3 : (rot m (m - i) (e - m) d).size = d.size := s2
       have S123 : Aside ((rot m (m - i) (e - m) d).size = d.size ∧ (rot m (m - i) (e - m) d).size = d.size ∧ (rot m (m - i) (e - m) d).size = d.size) := ⟨s1, s2, s3⟩
       have hcR := rotate_calls blk off cap i m e d.size (.func (.func 79) #[] #[]) d wr rfl hHk (by omega) (by omega) (by omega) (by omega)
       clear hE ham hlo s1 s2 s3
       go_wp2_with (first | (go_at_call 106; with_reducible refine hcR.mono ?_; rintro e1 w1' ⟨rfl, q1, rfl⟩))
       go_end0
       obtain ⟨s1, s2, s3⟩ := S123.out
       have hs2 := HS2.out
       rw [if_pos cR, if_neg cL, if_neg cQ] at hs2
       rw [hs2, A.out]
       refine ⟨rfl, q + q1, ?_⟩
       rw [relay w blk off _ _ d d (rot m (m - i) (e - m) d) (s1.trans (rfl).symm)]
     ·have cLa : (a : Int) < (i : Int) := by omega
      have cLb : ¬ (i : Int) < (mid : Int) := by omega
      have cL : ¬ (a < i ∧ i < mid) := by omega
      rcases (show (mid < e ∧ e < b) ∨ (¬ mid < e) ∨ (mid < e ∧ ¬ e < b) by omega) with hq | hq | hq
      ·have cQa : (mid : Int) < (e : Int) := by omega
       have cQb : (e : Int) < (b : Int) := by omega
       have cQ := hq
       have s1 : (rot m (m - i) (e - m) d).size = d.size := rot_size _ m (m - i) (e - m) d (Nat.le_refl _)
       have s2 : (rot m (m - i) (e - m) d).size = d.size := s1
       have s3 : (symM (ltOf cf) mid e b (rot m (m - i) (e - m) d)).size = d.size := (symM_size _ _ _ _ _ _ (Nat.le_refl _)).trans s2
       have S123 : Aside ((rot m (m - i) (e - m) d).size = d.size ∧ (rot m (m - i) (e - m) d).size = d.size ∧ (symM (ltOf cf) mid e b (rot m (m - i) (e - m) d)).size = d.size) := ⟨s1, s2, s3⟩
       have hcR := rotate_calls blk off cap i m e d.size (.func (.func 79) #[] #[]) d wr rfl hHk (by omega) (by omega) (by omega) (by omega)
       have hcQ := fun (W : World) (hW : Holds enc W blk off (rot m (m - i) (e - m) d)) => IH.out mid e b (rot m (m - i) (e - m) d) W (by omega) s2 hW (by omega) (by omega) (by omega) (by omega)
       clear hE ham hlo s1 s2 s3
       go_wp2_with (first | (go_at_call 106; with_reducible refine hcR.mono ?_; rintro e1 w1' ⟨rfl, q1, rfl⟩) | (go_at_call 102; with_reducible refine (hcQ _ (holds_drewN _ (holds_putRow enc wr blk off d _ hHk S123.out.1))).mono ?_; rintro e1 w1' ⟨rfl, q3, rfl⟩))
       go_end0
       obtain ⟨s1, s2, s3⟩ := S123.out
       have hs2 := HS2.out
       rw [if_pos cR, if_neg cL, if_pos cQ] at hs2
       rw [hs2, A.out]
       refine ⟨rfl, q + q1 + q3, ?_⟩
       rw [relay w blk off _ _ d d (rot m (m - i) (e - m) d) (s1.trans (rfl).symm), relay w blk off _ _ d (rot m (m - i) (e - m) d) (symM (ltOf cf) mid e b (rot m (m - i) (e - m) d)) (s3.trans (s1).symm)]
      ·have cQa : ¬ (mid : Int) < (e : Int) := by omega
       have cQ : ¬ (mid < e ∧ e < b) := by omega
       have s1 : (rot m (m - i) (e - m) d).size = d.size := rot_size _ m (m - i) (e - m) d (Nat.le_refl _)
       have s2 : (rot m (m - i) (e - m) d).size = d.size := s1
       have s3 : (rot m (m - i) (e - m) d).size = d.size := s2
       have S123 : Aside ((rot m (m - i) (e - m) d).size = d.size ∧ (rot m (m - i) (e - m) d).size = d.size ∧ (rot m (m - i) (e - m) d).size = d.size) := ⟨s1, s2, s3⟩
       have hcR := rotate_calls blk off cap i m e d.size (.func (.func 79) #[] #[]) d wr rfl hHk (by omega) (by omega) (by omega) (by omega)
       clear hE ham hlo s1 s2 s3
       go_wp2_with (first | (go_at_call 106; with_reducible refine hcR.mono ?_; rintro e1 w1' ⟨rfl, q1, rfl⟩))
       go_end0
       obtain ⟨s1, s2, s3⟩ := S123.out
       have hs2 := HS2.out
       rw [if_pos cR, if_neg cL, if_neg cQ] at hs2
       rw [hs2, A.out]
       refine ⟨rfl, q + q1, ?_⟩
       rw [relay w blk off _ _ d d (rot m (m - i) (e - m) d) (s1.trans (rfl).symm)]
      ·have cQa : (mid : Int) < (e : Int) := by omega
       have cQb : ¬ (e : Int) < (b : Int) := by omega
       have cQ : ¬ (mid < e ∧ e < b) := by omega
       have s1 : (rot m (m - i) (e - m) d).size = d.size := rot_size _ m (m - i) (e - m) d (Nat.le_refl _)
       have s2 : (rot m (m - i) (e - m) d).size = d.size := s1
       have s3 : (rot m (m - i) (e - m) d).size = d.size := s2
       have S123 : Aside ((rot m (m - i) (e - m) d).size = d.size ∧ (rot m (m - i) (e - m) d).size = d.size ∧ (rot m (m - i) (e - m) d).size = d.size) := ⟨s1, s2, s3⟩
       have hcR := rotate_calls blk off cap i m e d.size (.func (.func 79) #[] #[]) d wr rfl hHk (by omega) (by omega) (by omega) (by omega)
       clear hE ham hlo s1 s2 s3
       go_wp2_with (first | (go_at_call 106; with_reducible refine hcR.mono ?_; rintro e1 w1' ⟨rfl, q1, rfl⟩))
       go_end0
       obtain ⟨s1, s2, s3⟩ := S123.out
       have hs2 := HS2.out
       rw [if_pos cR, if_neg cL, if_neg cQ] at hs2
       rw [hs2, A.out]
       refine ⟨rfl, q + q1, ?_⟩
       rw [relay w blk off _ _ d d (rot m (m - i) (e - m) d) (s1.trans (rfl).symm)]
    ·have cRa : ¬ (i : Int) < (m : Int) := by omega
     have cR : ¬ (i < m ∧ m < e) := by omega
     rcases (show (a < i ∧ i < mid) ∨ (¬ a < i) ∨ (a < i ∧ ¬ i < mid) by omega) with hl | hl | hl
     ·have cLa : (a : Int) < (i : Int) := by omega
      have cLb : (i : Int) < (mid : Int) := by omega
      have cL := hl
      rcases (show (mid < e ∧ e < b) ∨ (¬ mid < e) ∨ (mid < e ∧ ¬ e < b) by omega) with hq | hq | hq
      ·have cQa : (mid : Int) < (e : Int) := by omega
       have cQb : (e : Int) < (b : Int) := by omega
       have cQ := hq
       have s1 : d.size = d.size := rfl
       have s2 : (symM (ltOf cf) a i mid d).size = d.size := (symM_size _ _ _ _ _ _ (Nat.le_refl _)).trans s1
       have s3 : (symM (ltOf cf) mid e b (symM (ltOf cf) a i mid d)).size = d.size := (symM_size _ _ _ _ _ _ (Nat.le_refl _)).trans s2
       have S123 : Aside (d.size = d.size ∧ (symM (ltOf cf) a i mid d).size = d.size ∧ (symM (ltOf cf) mid e b (symM (ltOf cf) a i mid d)).size = d.size) := ⟨s1, s2, s3⟩
       have hcL := fun (W : World) (hW : Holds enc W blk off d) => IH.out a i mid d W (by omega) s1 hW (by omega) (by omega) (by omega) (by omega)
       have hcQ := fun (W : World) (hW : Holds enc W blk off (symM (ltOf cf) a i mid d)) => IH.out mid e b (symM (ltOf cf) a i mid d) W (by omega) s2 hW (by omega) (by omega) (by omega) (by omega)
       clear hE ham hlo s1 s2 s3
       go_wp2_with (first | (go_at_call 102; with_reducible refine (hcL _ hHk).mono ?_; rintro e1 w1' ⟨rfl, q2, rfl⟩) | (go_at_call 102; with_reducible refine (hcQ _ (holds_drewN _ (holds_putRow enc wr blk off d _ hHk S123.out.2.1))).mono ?_; rintro e1 w1' ⟨rfl, q3, rfl⟩))
       go_end0
       obtain ⟨s1, s2, s3⟩ := S123.out
       have hs2 := HS2.out
       rw [if_neg cR, if_pos cL, if_pos cQ] at hs2
       rw [hs2, A.out]
       refine ⟨rfl, q + q2 + q3, ?_⟩
       rw [relay w blk off _ _ d d (symM (ltOf cf) a i mid d) (s2.trans (rfl).symm), relay w blk off _ _ d (symM (ltOf cf) a i mid d) (symM (ltOf cf) mid e b (symM (ltOf cf) a i mid d)) (s3.trans (s2).symm)]
      ·have cQa : ¬ (mid : Int) < (e : Int) := by omega
       have cQ : ¬ (mid < e ∧ e < b) := by omega
       have s1 : d.size = d.size := rfl
       have s2 : (symM (ltOf cf) a i mid d).size = d.size := (symM_size _ _ _ _ _ _ (Nat.le_refl _)).trans s1
       have s3 : (symM (ltOf cf) a i mid d).size = d.size := s2
       have S123 : Aside (d.size = d.size ∧ (symM (ltOf cf) a i mid d).size = d.size ∧ (symM (ltOf cf) a i mid d).size = d.size) := ⟨s1, s2, s3⟩
       have hcL := fun (W : World) (hW : Holds enc W blk off d) => IH.out a i mid d W (by omega) s1 hW (by omega) (by omega) (by omega) (by omega)
       clear hE ham hlo s1 s2 s3
       go_wp2_with (first | (go_at_call 102; with_reducible refine (hcL _ hHk).mono ?_; rintro e1 w1' ⟨rfl, q2, rfl⟩))
       go_end0
       obtain ⟨s1, s2, s3⟩ := S123.out
       have hs2 := HS2.out
       rw [if_neg cR, if_pos cL, if_neg cQ] at hs2
       rw [hs2, A.out]
       refine ⟨rfl, q + q2, ?_⟩
       rw [relay w blk off _ _ d d (symM (ltOf cf) a i mid d) (s2.trans (rfl).symm)]
      ·have cQa : (mid : Int) < (e : Int) := by omega
       have cQb : ¬ (e : Int) < (b : Int) := by omega
       have cQ : ¬ (mid < e ∧ e < b) := by omega
       have s1 : d.size = d.size := rfl
       have s2 : (symM (ltOf cf) a i mid d).size = d.size := (symM_size _ _ _ _ _ _ (Nat.le_refl _)).trans s1
       have s3 : (symM (ltOf cf) a i mid d).size = d.size := s2
       have S123 : Aside (d.size = d.size ∧ (symM (ltOf cf) a i mid d).size = d.size ∧ (symM (ltOf cf) a i mid d).size = d.size) := ⟨s1, s2, s3⟩
       have hcL := fun (W : World) (hW : Holds enc W blk off d) => IH.out a i mid d W (by omega) s1 hW (by omega) (by omega) (by omega) (by omega)
       clear hE ham hlo s1 s2 s3
       go_wp2_with (first | (go_at_call 102; with_reducible refine (hcL _ hHk).mono ?_; rintro e1 w1' ⟨rfl, q2, rfl⟩))
       go_end0
       obtain ⟨s1, s2, s3⟩ := S123.out
       have hs2 := HS2.out
       rw [if_neg cR, if_pos cL, if_neg cQ] at hs2
       rw [hs2, A.out]
       refine ⟨rfl, q + q2, ?_⟩
       rw [relay w blk off _ _ d d (symM (ltOf cf) a i mid d) (s2.trans (rfl).symm)]
     ·have cLa : ¬ (a : Int) < (i : Int) := by omega
      have cL : ¬ (a < i ∧ i < mid) := by omega
      rcases (show (mid < e ∧ e < b) ∨ (¬ mid < e) ∨ (mid < e ∧ ¬ e < b) by omega) with hq | hq | hq
      ·have cQa : (mid : Int) < (e : Int) := by omega
       have cQb : (e : Int) < (b : Int) := by omega
       have cQ := hq
       have s1 : d.size = d.size := rfl
       have s2 : d.size = d.size := s1
       have s3 : (symM (ltOf cf) mid e b d).size = d.size := (symM_size _ _ _ _ _ _ (Nat.le_refl _)).trans s2
       have S123 : Aside (d.size = d.size ∧ d.size = d.size ∧ (symM (ltOf cf) mid e b d).size = d.size) := ⟨s1, s2, s3⟩
       have hcQ := fun (W : World) (hW : Holds enc W blk off d) => IH.out mid e b d W (by omega) s2 hW (by omega) (by omega) (by omega) (by omega)
       clear hE ham hlo s1 s2 s3
       go_wp2_with (first | (go_at_call 102; with_reducible refine (hcQ _ hHk).mono ?_; rintro e1 w1' ⟨rfl, q3, rfl⟩))
       go_end0
       obtain ⟨s1, s2, s3⟩ := S123.out
       have hs2 := HS2.out
       rw [if_neg cR, if_neg cL, if_pos cQ] at hs2
       rw [hs2, A.out]
       refine ⟨rfl, q + q3, ?_⟩
       rw [relay w blk off _ _ d d (symM (ltOf cf) mid e b d) (s3.trans (rfl).symm)]
      ·have cQa : ¬ (mid : Int) < (e : Int) := by omega
       have cQ : ¬ (mid < e ∧ e < b) := by omega
       have s1 : d.size = d.size := rfl
       have s2 : d.size = d.size := s1
       have s3 : d.size = d.size := s2
       have S123 : Aside (d.size = d.size ∧ d.size = d.size ∧ d.size = d.size) := ⟨s1, s2, s3⟩
       clear hE ham hlo s1 s2 s3
       go_wp2_with (first | fail)
       go_end0
       obtain ⟨s1, s2, s3⟩ := S123.out
       have hs2 := HS2.out
       rw [if_neg cR, if_neg cL, if_neg cQ] at hs2
       rw [hs2, A.out]
       exact ⟨rfl, q, rfl⟩
      ·have cQa : (mid : Int) < (e : Int) := by omega
       have cQb : ¬ (e : Int) < (b : Int) := by omega
       have cQ : ¬ (mid < e ∧ e < b) := by omega
       have s1 : d.size = d.size := rfl
       have s2 : d.size = d.size := s1
       have s3 : d.size = d.size := s2
       have S123 : Aside (d.size = d.size ∧ d.size = d.size ∧ d.size = d.size) := ⟨s1, s2, s3⟩
       clear hE ham hlo s1 s2 s3
       go_wp2_with (first | fail)
       go_end0
       obtain ⟨s1, s2, s3⟩ := S123.out
       have hs2 := HS2.out
       rw [if_neg cR, if_neg cL, if_neg cQ] at hs2
       rw [hs2, A.out]
       exact ⟨rfl, q, rfl⟩
     ·have cLa : (a : Int) < (i : Int) := by omega
      have cLb : ¬ (i : Int) < (mid : Int) := by omega
      have cL : ¬ (a < i ∧ i < mid) := by omega
      rcases (show (mid < e ∧ e < b) ∨ (¬ mid < e) ∨ (mid < e ∧ ¬ e < b) by omega) with hq | hq | hq
      ·have cQa : (mid : Int) < (e : Int) := by omega
       have cQb : (e : Int) < (b : Int) := by omega
       have cQ := hq
       have s1 : d.size = d.size := rfl
       have s2 : d.size = d.size := s1
       have s3 : (symM (ltOf cf) mid e b d).size = d.size := (symM_size _ _ _ _ _ _ (Nat.le_refl _)).trans s2
       have S123 : Aside (d.size = d.size ∧ d.size = d.size ∧ (symM (ltOf cf) mid e b d).size = d.size) := ⟨s1, s2, s3⟩
       have hcQ := fun (W : World) (hW : Holds enc W blk off d) => IH.out mid e b d W (by omega) s2 hW (by omega) (by omega) (by omega) (by omega)
       clear hE ham hlo s1 s2 s3
       go_wp2_with (first | (go_at_call 102; with_reducible refine (hcQ _ hHk).mono ?_; rintro e1 w1' ⟨rfl, q3, rfl⟩))
       go_end0
       obtain ⟨s1, s2, s3⟩ := S123.out
       have hs2 := HS2.out
       rw [if_neg cR, if_neg cL, if_pos cQ] at hs2
       rw [hs2, A.out]
       refine ⟨rfl, q + q3, ?_⟩
       rw [relay w blk off _ _ d d (symM (ltOf cf) mid e b d) (s3.trans (rfl).symm)]
      ·have cQa : ¬ (mid : Int) < (e : Int) := by omega
       have cQ : ¬ (mid < e ∧ e < b) := by omega
       have s1 : d.size = d.size := rfl
       have s2 : d.size = d.size := s1
       have s3 : d.size = d.size := s2
       have S123 : Aside (d.size = d.size ∧ d.size = d.size ∧ d.size = d.size) := ⟨s1, s2, s3⟩
       clear hE ham hlo s1 s2 s3
       go_wp2_with (first | fail)
       go_end0
       obtain ⟨s1, s2, s3⟩ := S123.out
       have hs2 := HS2.out
       rw [if_neg cR, if_neg cL, if_neg cQ] at hs2
       rw [hs2, A.out]
       exact ⟨rfl, q, rfl⟩
      ·have cQa : (mid : Int) < (e : Int) := by omega
       have cQb : ¬ (e : Int) < (b : Int) := by omega
       have cQ : ¬ (mid < e ∧ e < b) := by omega
       have s1 : d.size = d.size := rfl
       have s2 : d.size = d.size := s1
       have s3 : d.size = d.size := s2
       have S123 : Aside (d.size = d.size ∧ d.size = d.size ∧ d.size = d.size) := ⟨s1, s2, s3⟩
       clear hE ham hlo s1 s2 s3
       go_wp2_with (first | fail)
       go_end0
       obtain ⟨s1, s2, s3⟩ := S123.out
       have hs2 := HS2.out
       rw [if_neg cR, if_neg cL, if_neg cQ] at hs2
       rw [hs2, A.out]
       exact ⟨rfl, q, rfl⟩
    ·have cRa : (i : Int) < (m : Int) := by omega
     have cRb : ¬ (m : Int) < (e : Int) := by omega
     have cR : ¬ (i < m ∧ m < e) := by omega
     rcases (show (a < i ∧ i < mid) ∨ (¬ a < i) ∨ (a < i ∧ ¬ i < mid) by omega) with hl | hl | hl
     ·have cLa : (a : Int) < (i : Int) := by omega
      have cLb : (i : Int) < (mid : Int) := by omega
      have cL := hl
      rcases (show (mid < e ∧ e < b) ∨ (¬ mid < e) ∨ (mid < e ∧ ¬ e < b) by omega) with hq | hq | hq
      ·have cQa : (mid : Int) < (e : Int) := by omega
       have cQb : (e : Int) < (b : Int) := by omega
       have cQ := hq
       have s1 : d.size = d.size := rfl
       have s2 : (symM (ltOf cf) a i mid d).size = d.size := (symM_size _ _ _ _ _ _ (Nat.le_refl _)).trans s1
       have s3 : (symM (ltOf cf) mid e b (symM (ltOf cf) a i mid d)).size = d.size := (symM_size _ _ _ _ _ _ (Nat.le_refl _)).trans s2
       have S123 : Aside (d.size = d.size ∧ (symM (ltOf cf) a i mid d).size = d.size ∧ (symM (ltOf cf) mid e b (symM (ltOf cf) a i mid d)).size = d.size) := ⟨s1, s2, s3⟩
       have hcL := fun (W : World) (hW : Holds enc W blk off d) => IH.out a i mid d W (by omega) s1 hW (by omega) (by omega) (by omega) (by omega)
       have hcQ := fun (W : World) (hW : Holds enc W blk off (symM (ltOf cf) a i mid d)) => IH.out mid e b (symM (ltOf cf) a i mid d) W (by omega) s2 hW (by omega) (by omega) (by omega) (by omega)
       clear hE ham hlo s1 s2 s3
       go_wp2_with (first | (go_at_call 102; with_reducible refine (hcL _ hHk).mono ?_; rintro e1 w1' ⟨rfl, q2, rfl⟩) | (go_at_call 102; with_reducible refine (hcQ _ (holds_drewN _ (holds_putRow enc wr blk off d _ hHk S123.out.2.1))).mono ?_; rintro e1 w1' ⟨rfl, q3, rfl⟩))
       go_end0
       obtain ⟨s1, s2, s3⟩ := S123.out
       have hs2 := HS2.out
       rw [if_neg cR, if_pos cL, if_pos cQ] at hs2
       rw [hs2, A.out]
       refine ⟨rfl, q + q2 + q3, ?_⟩
       rw [relay w blk off _ _ d d (symM (ltOf cf) a i mid d) (s2.trans (rfl).symm), relay w blk off _ _ d (symM (ltOf cf) a i mid d) (symM (ltOf cf) mid e b (symM (ltOf cf) a i mid d)) (s3.trans (s2).symm)]
      ·have cQa : ¬ (mid : Int) < (e : Int) := by omega
       have cQ : ¬ (mid < e ∧ e < b) := by omega
       have s1 : d.size = d.size := rfl
       have s2 : (symM (ltOf cf) a i mid d).size = d.size := (symM_size _ _ _ _ _ _ (Nat.le_refl _)).trans s1
       have s3 : (symM (ltOf cf) a i mid d).size = d.size := s2
       have S123 : Aside (d.size = d.size ∧ (symM (ltOf cf) a i mid d).size = d.size ∧ (symM (ltOf cf) a i mid d).size = d.size) := ⟨s1, s2, s3⟩
       have hcL := fun (W : World) (hW : Holds enc W blk off d) => IH.out a i mid d W (by omega) s1 hW (by omega) (by omega) (by omega) (by omega)
       clear hE ham hlo s1 s2 s3
       go_wp2_with (first | (go_at_call 102; with_reducible refine (hcL _ hHk).mono ?_; rintro e1 w1' ⟨rfl, q2, rfl⟩))
       go_end0
       obtain ⟨s1, s2, s3⟩ := S123.out
       have hs2 := HS2.out
       rw [if_neg cR, if_pos cL, if_neg cQ] at hs2
       rw [hs2, A.out]
       refine ⟨rfl, q + q2, ?_⟩
       rw [relay w blk off _ _ d d (symM (ltOf cf) a i mid d) (s2.trans (rfl).symm)]
      ·have cQa : (mid : Int) < (e : Int) := by omega
       have cQb : ¬ (e : Int) < (b : Int) := by omega
       have cQ : ¬ (mid < e ∧ e < b) := by omega
       have s1 : d.size = d.size := rfl
       have s2 : (symM (ltOf cf) a i mid d).size = d.size := (symM_size _ _ _ _ _ _ (Nat.le_refl _)).trans s1
       have s3 : (symM (ltOf cf) a i mid d).size = d.size := s2
       have S123 : Aside (d.size = d.size ∧ (symM (ltOf cf) a i mid d).size = d.size ∧ (symM (ltOf cf) a i mid d).size = d.size) := ⟨s1, s2, s3⟩
       have hcL := fun (W : World) (hW : Holds enc W blk off d) => IH.out a i mid d W (by omega) s1 hW (by omega) (by omega) (by omega) (by omega)
       clear hE ham hlo s1 s2 s3
       go_wp2_with (first | (go_at_call 102; with_reducible refine (hcL _ hHk).mono ?_; rintro e1 w1' ⟨rfl, q2, rfl⟩))
       go_end0
       obtain ⟨s1, s2, s3⟩ := S123.out
       have hs2 := HS2.out
       rw [if_neg cR, if_pos cL, if_neg cQ] at hs2
       rw [hs2, A.out]
       refine ⟨rfl, q + q2, ?_⟩
       rw [relay w blk off _ _ d d (symM (ltOf cf) a i mid d) (s2.trans (rfl).symm)]
     ·have cLa : ¬ (a : Int) < (i : Int) := by omega
      have cL : ¬ (a < i ∧ i < mid) := by omega
      rcases (show (mid < e ∧ e < b) ∨ (¬ mid < e) ∨ (mid < e ∧ ¬ e < b) by omega) with hq | hq | hq
      ·have cQa : (mid : Int) < (e : Int) := by omega
       have cQb : (e : Int) < (b : Int) := by omega
       have cQ := hq
       have s1 : d.size = d.size := rfl
       have s2 : d.size = d.size := s1
       have s3 : (symM (ltOf cf) mid e b d).size = d.size := (symM_size _ _ _ _ _ _ (Nat.le_refl _)).trans s2
       have S123 : Aside (d.size = d.size ∧ d.size = d.size ∧ (symM (ltOf cf) mid e b d).size = d.size) := ⟨s1, s2, s3⟩
       have hcQ := fun (W : World) (hW : Holds enc W blk off d) => IH.out mid e b d W (by omega) s2 hW (by omega) (by omega) (by omega) (by omega)
       clear hE ham hlo s1 s2 s3
       go_wp2_with (first | (go_at_call 102; with_reducible refine (hcQ _ hHk).mono ?_; rintro e1 w1' ⟨rfl, q3, rfl⟩))
       go_end0
       obtain ⟨s1, s2, s3⟩ := S123.out
       have hs2 := HS2.out
       rw [if_neg cR, if_neg cL, if_pos cQ] at hs2
       rw [hs2, A.out]
       refine ⟨rfl, q + q3, ?_⟩
       rw [relay w blk off _ _ d d (symM (ltOf cf) mid e b d) (s3.trans (rfl).symm)]
      ·have cQa : ¬ (mid : Int) < (e : Int) := by omega
       have cQ : ¬ (mid < e ∧ e < b) := by omega
       have s1 : d.size = d.size := rfl
       have s2 : d.size = d.size := s1
       have s3 : d.size = d.size := s2
       have S123 : Aside (d.size = d.size ∧ d.size = d.size ∧ d.size = d.size) := ⟨s1, s2, s3⟩
       clear hE ham hlo s1 s2 s3
       go_wp2_with (first | fail)
       go_end0
       obtain ⟨s1, s2, s3⟩ := S123.out
       have hs2 := HS2.out
       rw [if_neg cR, if_neg cL, if_neg cQ] at hs2
       rw [hs2, A.out]
       exact ⟨rfl, q, rfl⟩
      ·have cQa : (mid : Int) < (e : Int) := by omega
       have cQb : ¬ (e : Int) < (b : Int) := by omega
       have cQ : ¬ (mid < e ∧ e < b) := by omega
       have s1 : d.size = d.size := rfl
       have s2 : d.size = d.size := s1
       have s3 : d.size = d.size := s2
       have S123 : Aside (d.size = d.size ∧ d.size = d.size ∧ d.size = d.size) := ⟨s1, s2, s3⟩
       clear hE ham hlo s1 s2 s3
       go_wp2_with (first | fail)
       go_end0
       obtain ⟨s1, s2, s3⟩ := S123.out
       have hs2 := HS2.out
       rw [if_neg cR, if_neg cL, if_neg cQ] at hs2
       rw [hs2, A.out]
       exact ⟨rfl, q, rfl⟩
     ·have cLa : (a : Int) < (i : Int) := by omega
      have cLb : ¬ (i : Int) < (mid : Int) := by omega
      have cL : ¬ (a < i ∧ i < mid) := by omega
      rcases (show (mid < e ∧ e < b) ∨ (¬ mid < e) ∨ (mid < e ∧ ¬ e < b) by omega) with hq | hq | hq
      ·have cQa : (mid : Int) < (e : Int) := by omega
       have cQb : (e : Int) < (b : Int) := by omega
       have cQ := hq
       have s1 : d.size = d.size := rfl
       have s2 : d.size = d.size := s1
       have s3 : (symM (ltOf cf) mid e b d).size = d.size := (symM_size _ _ _ _ _ _ (Nat.le_refl _)).trans s2
       have S123 : Aside (d.size = d.size ∧ d.size = d.size ∧ (symM (ltOf cf) mid e b d).size = d.size) := ⟨s1, s2, s3⟩
       have hcQ := fun (W : World) (hW : Holds enc W blk off d) => IH.out mid e b d W (by omega) s2 hW (by omega) (by omega) (by omega) (by omega)
       clear hE ham hlo s1 s2 s3
       go_wp2_with (first | (go_at_call 102; with_reducible refine (hcQ _ hHk).mono ?_; rintro e1 w1' ⟨rfl, q3, rfl⟩))
       go_end0
       obtain ⟨s1, s2, s3⟩ := S123.out
       have hs2 := HS2.out
       rw [if_neg cR, if_neg cL, if_pos cQ] at hs2
       rw [hs2, A.out]
       refine ⟨rfl, q + q3, ?_⟩
       rw [relay w blk off _ _ d d (symM (ltOf cf) mid e b d) (s3.trans (rfl).symm)]
      ·have cQa : ¬ (mid : Int) < (e : Int) := by omega
       have cQ : ¬ (mid < e ∧ e < b) := by omega
       have s1 : d.size = d.size := rfl
       have s2 : d.size = d.size := s1
       have s3 : d.size = d.size := s2
       have S123 : Aside (d.size = d.size ∧ d.size = d.size ∧ d.size = d.size) := ⟨s1, s2, s3⟩
       clear hE ham hlo s1 s2 s3
       go_wp2_with (first | fail)
       go_end0
       obtain ⟨s1, s2, s3⟩ := S123.out
       have hs2 := HS2.out
       rw [if_neg cR, if_neg cL, if_neg cQ] at hs2
       rw [hs2, A.out]
       exact ⟨rfl, q, rfl⟩
      ·have cQa : (mid : Int) < (e : Int) := by omega
       have cQb : ¬ (e : Int) < (b : Int) := by omega
       have cQ : ¬ (mid < e ∧ e < b) := by omega
       have s1 : d.size = d.size := rfl
       have s2 : d.size = d.size := s1
       have s3 : d.size = d.size := s2
       have S123 : Aside (d.size = d.size ∧ d.size = d.size ∧ d.size = d.size) := ⟨s1, s2, s3⟩
       clear hE ham hlo s1 s2 s3
       go_wp2_with (first | fail)
       go_end0
       obtain ⟨s1, s2, s3⟩ := S123.out
       have hs2 := HS2.out
       rw [if_neg cR, if_neg cL, if_neg cQ] at hs2
       rw [hs2, A.out]
       exact ⟨rfl, q, rfl⟩
end Go.Proofs.YtnbedmihgnjdpaaDoor.Stab

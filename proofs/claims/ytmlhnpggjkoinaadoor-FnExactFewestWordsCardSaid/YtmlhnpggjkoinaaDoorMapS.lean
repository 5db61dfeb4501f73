/- A set of texts: a map from strings to bools of the walk's own. -/
import Derived.Test.YtmlhnpggjkoinaaDoorProg
import Derived.Test.YtmlhnpggjkoinaaDoorVFW
import Derived.Maps.OwnSet
import Derived.Maps.Views
import Derived.StringKeys
set_option linter.unusedSimpArgs false
set_option linter.unusedVariables false
namespace Go.Proofs.YtmlhnpggjkoinaaDoor.MapS
open Go.RowKit Go.Maps Go.WideMaps Go.Proofs.YtmlhnpggjkoinaaDoorW.PrintWords Go.Proofs.YtmlhnpggjkoinaaDoorW.PrintLast Go.Proofs.YtmlhnpggjkoinaaDoorW.PrintMore
abbrev MapAt (w : World) (g n : Nat) (D : DataW Unit) : Prop := w.ownsMap Tryd.prog 9 (plainElem (H := Unit) Tryd.prog 4) g n D
def HasAt (w : World) (g : Nat) (D : DataW Unit) : Prop := ∃ n, MapAt w g n D
theorem law9 : Keyed Tryd.prog 9 := string_keyed Tryd.underlying9
def kb (s : ByteArray) : List UInt8 := s.data.toList
def ks (l : List ByteArray) : List (List UInt8) := l.map kb
def ms (l : List ByteArray) : DataW Unit := setOf (.lit (.bool true)) (l.map fun s => Lit.string (kb s))
section
variable {w w1 : World} {g n : Nat} {D : DataW Unit}
theorem at_move (h : MapAt w g n D) (e : w1.heap[g]? = w.heap[g]?) : MapAt w1 g n D := by
  obtain ⟨es, cl, hb, r⟩ := h
  exact ⟨es, cl, e.trans hb, r⟩
theorem has_move (h : HasAt w g D) (e : w1.heap[g]? = w.heap[g]?) : HasAt w1 g D := by
  obtain ⟨n, h⟩ := h
  exact ⟨n, at_move h e⟩
theorem at_lt (h : MapAt w g n D) : g < w.heap.size := by
  obtain ⟨es, cl, hb, _⟩ := h
  exact (Array.getElem?_eq_some_iff.1 hb).1
theorem has_lt (h : HasAt w g D) : g < w.heap.size := by
  obtain ⟨n, h⟩ := h
  exact at_lt h
theorem has_below (h : HasAt w g D) (hb : Below w.heap.size w w1) : HasAt w1 g D := has_move h (hb.block g (has_lt h))
theorem has_grown {row : Option Nat} (h : HasAt w g D) (hg : w.grownBy w1 row) (hne : some g ≠ row) : HasAt w1 g D := has_move h (hg.block g (has_lt h) hne)
theorem has_drew (h : HasAt w g D) : HasAt w.drew g D := h
variable {α : Type} {d : Kd α} {e base : Nat} {ok : Nat → Prop} {v : Value} {xs : List α}
theorem ne_has (h : d.R e w base ok v xs) (hm : HasAt w g D) : some g ≠ v.ownBlock := by
  intro hk
  obtain ⟨_, inner, ho, _⟩ := h
  obtain ⟨cs, hc⟩ := own_typed ho g hk.symm
  obtain ⟨n, es, cl, hm, _⟩ := hm
  rw [hc] at hm
  injection hm with hm
  cases hm
end
section
variable {P : Program} {ops : Array Oper} {rest : List Oper} {o : Oper} {a : Act} {Q : Exit → Act → World → Prop} {W : World}
theorem map_event (hgd : o.guard = none) {N : Tmp} (_hd : o.dst = some N)
    (hrun : (execOp a.eval o).run P W = .ok (.value (.map (some W.heap.size))) (W.alloc (.map #[] 0)))
    (h : ∀ g, g = W.heap.size → ∀ w1, MapAt w1 g 0 (.map []) → Below W.heap.size W w1 → wpList P ops Q rest (a.put o.dst (.map (some g))) w1) : wpList P ops Q (o :: rest) a W :=
  Kd.event_run hgd hrun (h _ rfl _ (World.ownsMap_made W _ _ _) (below_alloc (Below.refl _ _) _))
end
theorem ms_nil : ms [] = .map [] := rfl
theorem ms_snoc (l : List ByteArray) (s : ByteArray) : ms (l ++ [s]) = (ms l).put (.string (kb s)) (.lit (.bool true)) := by
  unfold ms
  rw [List.map_append]
  exact setOf_snoc _ _ _
theorem key_of (s : ByteArray) (h : s.size ≤ 9223372036854775807) : keyOf Tryd.prog 9 (.string s) = some (.string (kb s)) := keyOf_string_mk Tryd.underlying9 (Nat.le_trans h (by decide))
theorem key_lit (s : ByteArray) (h : s.size ≤ 9223372036854775807) : WideAt.IsKeyLit (.string (kb s)) := law9.key (key_of s h)
theorem ms_has (l : List ByteArray) (hl : ∀ y ∈ l, y.size ≤ 9223372036854775807) (s : ByteArray) (hs : s.size ≤ 9223372036854775807) : Maps.has (ms l) (.string (kb s)) = decide (kb s ∈ ks l) := by
  unfold ms
  rw [has_setOf _ _ _ (fun x hx => by
    obtain ⟨y, hy, rfl⟩ := List.mem_map.1 hx
    exact key_lit y (hl y hy))]
  rw [Bool.eq_iff_iff, List.any_eq_true, decide_eq_true_iff]
  constructor
  · rintro ⟨x, hx, he⟩
    obtain ⟨y, hy, rfl⟩ := List.mem_map.1 hx
    have := WideAt.sameKey_eq he
    injection this with this
    exact List.mem_map.2 ⟨y, hy, this⟩
  · intro h
    obtain ⟨y, hy, e⟩ := List.mem_map.1 h
    exact ⟨_, List.mem_map.2 ⟨y, hy, rfl⟩, by rw [e]; exact WideAt.sameKey_self (key_lit s hs)⟩
theorem isMap_ms (l : List ByteArray) : IsMap (ms l) := by
  unfold ms setOf
  generalize l.map (fun s => Lit.string (kb s)) = acc
  suffices H : ∀ (acc : List Lit) (m : DataW Unit), IsMap m → IsMap (acc.foldl (fun m x => m.put x (.lit (.bool true))) m) from H acc _ isMap_empty
  intro acc
  induction acc with
  | nil => exact fun m h => h
  | cons x r ih => exact fun m h => ih _ (h.put _ _)
theorem at_has (k : Lit) (hk : WideAt.IsKeyLit k) (acc : List Lit) : ∀ (m : DataW Unit), IsMap m → m.atKey k (.lit (.bool false)) = .lit (.bool (Maps.has m k)) → (acc.foldl (fun m x => m.put x (.lit (.bool true))) m).atKey k (.lit (.bool false)) = .lit (.bool (Maps.has (acc.foldl (fun m x => m.put x (.lit (.bool true))) m) k)) := by
  induction acc with
  | nil => exact fun m _ h => h
  | cons x r ih =>
    intro m hm h
    refine ih _ (hm.put _ _) ?_
    by_cases e : k = x
    · subst e
      rw [atKey_put_same hm hk, has_put_same hm hk]
    · rw [atKey_put_other e, has_put_other e, h]
theorem at_ms (l : List ByteArray) (s : ByteArray) (hs : s.size ≤ 9223372036854775807) : (ms l).atKey (.string (kb s)) (.lit (.bool false)) = .lit (.bool (Maps.has (ms l) (.string (kb s)))) := by
  unfold ms setOf
  exact at_has _ (key_lit s hs) _ _ isMap_empty rfl
theorem plain_bool_inv {P : Program} {t : TypeId} (he : P.underlying t = some .bool) {v : Value} {z : DataW Unit × List MemPlace} (h : plainElem P t v = some z) : ∃ b, v = .bool b ∧ z.1 = .lit (.bool b) := by
  unfold plainElem at h
  rw [he] at h
  cases v <;> simp at h
  subst h
  exact ⟨_, rfl, rfl⟩
theorem look {w : World} {g : Nat} (l : List ByteArray) (h : HasAt w g (ms l)) (hl : ∀ y ∈ l, y.size ≤ 9223372036854775807) (s : ByteArray) (hs : s.size ≤ 9223372036854775807) :
    (Instr.lookup 96 (.map (some g)) (.string s) false).run Tryd.prog w = .ok (.bool (decide (kb s ∈ ks l))) w := by
  obtain ⟨n, h⟩ := h
  obtain ⟨v, ps, hrun, hv⟩ := h.lookup law9 Tryd.underlying96 (Tryd.zeroValue4 w) (plainElem_bool Tryd.underlying4 false) (key_of s hs)
  obtain ⟨b, rfl, e⟩ := plain_bool_inv Tryd.underlying4 hv
  have e2 : DataW.lit (H := Unit) (.bool (decide (kb s ∈ ks l))) = .lit (.bool b) := by
    refine Eq.trans ?_ e
    rw [← ms_has l hl s hs]
    exact (at_ms l s hs).symm
  have e3 : decide (kb s ∈ ks l) = b := Lit.bool.inj (DataW.lit.inj e2)
  exact e3 ▸ hrun
theorem ite_some {α : Type} {g : Prop} [Decidable g] {x : Option α} {r : α} (h : (if g then x else none) = some r) : g ∧ x = some r := by
  by_cases c : g
  · rw [if_pos c] at h; exact ⟨c, h⟩
  · rw [if_neg c] at h; exact absurd h (by simp)
abbrev Fits (l : List ByteArray) (s : ByteArray) : Prop := l.length ≤ 1000000 ∧ s.size ≤ 9223372036854775807 ∧ l.all (fun y => decide (y.size ≤ 9223372036854775807)) = true
theorem fits_all {l : List ByteArray} {s : ByteArray} (h : Fits l s) : ∀ y ∈ l, y.size ≤ 9223372036854775807 := fun y hy => of_decide_eq_true (List.all_eq_true.1 h.2.2 y hy)
theorem w_succ {x : Int} {n : Nat} (h : x = (n : Int)) (hn : n ≤ 1000000) : wrap64 (x + 1) = ((n + 1 : Nat) : Int) := by
  unfold wrap64; omega
theorem ms_take (l : List ByteArray) (x : Int) (n : Nat) (hx : x = (n : Int)) (h : n < l.length) : ms (l.take (n + 1)) = (ms (l.take n)).put (.string (kb (rdOf ByteArray.empty l x))) (.lit (.bool true)) := by
  rw [List.take_succ_eq_append_getElem h, ms_snoc]
  congr 2
  subst hx
  unfold rdOf
  rw [Int.toNat_natCast]
  simp [h]
theorem rd_fits {l : List ByteArray} {s : ByteArray} (h : Fits l s) (x : Int) : (rdOf ByteArray.empty l x).size ≤ 9223372036854775807 := by
  unfold rdOf
  rw [List.getD_eq_getElem?_getD]
  cases e : l[x.toNat]? with
  | none => exact (by decide : ByteArray.empty.size ≤ 9223372036854775807)
  | some y => exact fits_all h y (List.mem_of_getElem? e)
theorem ext_fits {l : List ByteArray} {s : ByteArray} (h : Fits l s) (a b : Nat) : (s.extract a b).size ≤ 9223372036854775807 := by
  have := h.2.1
  rw [ByteArray.size_extract]
  omega
end Go.Proofs.YtmlhnpggjkoinaaDoor.MapS

/- From an argument that reads as data to the readings that the walks' contracts ask for: slices, structs, rows of rows, strings. -/
import Derived.Test.YtmlhnpggjkoinaaDoorVWG
import Derived.ProofKit
import Derived.OpenShut
import Derived.Deep.Slices
set_option linter.unusedSimpArgs false
set_option linter.unusedVariables false
namespace Go.Proofs.YtmlhnpggjkoinaaDoor.Lib
open Go.RowKit Go.ChangeShapes Go.WideShapes Go.Proofs.YtmlhnpggjkoinaaDoorW.PrintWords Go.Proofs.YtmlhnpggjkoinaaDoorW.PrintLast Go.Proofs.YtmlhnpggjkoinaaDoorW.PrintMore

/-- Whatever reads as data of type t is told by d, and has Q. -/
def Opens {α : Type} (P : Program) (d : Kd α) (t : TypeId) (Q : α → Prop) : Prop :=
  P.cellsOf t = d.sz ∧ ∀ {H : Type} (enc : TypeId × Value → H) (W : World) (fuel : Nat) (cs : List Value) (x : DataW H × List MemPlace),
    DataW.trod enc P W 0 (fun _ => true) true fuel t cs = some x → ∃ a : α, d.K W a cs ∧ Q a
theorem opens_int {P : Program} {t : TypeId} {k : IntKind} (ht : P.underlying t = some (.int k)) (hc : P.cellsOf t = 1) : Opens P (Kd.int k) t (fun x => (Lit.int k x).wf = true) := by
  refine ⟨hc, fun enc W fuel cs x h => ?_⟩
  obtain ⟨n, rfl, _, hw⟩ := DataW.trod_int ht h
  exact ⟨n, rfl, hw⟩
theorem opens_bool {P : Program} {t : TypeId} (ht : P.underlying t = some .bool) (hc : P.cellsOf t = 1) : Opens P Kd.bool t (fun _ => True) := by
  refine ⟨hc, fun enc W fuel cs x h => ?_⟩
  obtain ⟨n, rfl, _⟩ := DataW.trod_bool ht h
  exact ⟨n, rfl, trivial⟩
theorem opens_string {P : Program} {t : TypeId} (ht : P.underlying t = some .string) (hc : P.cellsOf t = 1) : Opens P Kd.string t (fun s => s.size ≤ maxLen) := by
  refine ⟨hc, fun enc W fuel cs x h => ?_⟩
  obtain ⟨s, rfl, _, hs⟩ := DataW.trod_string ht h
  exact ⟨s, rfl, hs⟩
theorem opens_slice {α : Type} {P : Program} {d : Kd α} {t e : TypeId} {Q : α → Prop} (ht : P.underlying t = some (.slice e)) (hd : Opens P d e Q) (hc : P.cellsOf t = 1) :
    Opens P (Kd.slice e d) t (fun l => l.length ≤ maxLen ∧ ∀ x ∈ l, Q x) := by
  refine ⟨hc, fun enc W fuel cs x h => ?_⟩
  rcases Go.Deep.open_slice ht h with ⟨rfl, _⟩ | ⟨a, len, cap, m, n, D, Pl, rfl, _, hl, hm, _, _, hel⟩
  · exact ⟨[], ⟨none, 0, rfl, Nat.le_refl _, Kd.C_nil d W⟩, by simp⟩
  · have hlm : len ≤ m := by
      subst m
      simpa using hl
    have key : ∀ i : Fin len, ∃ y : α, Q y ∧ ∃ cs', cs'.length = d.sz ∧ d.K W y cs' ∧ ∀ j u, cs'[j]? = some u → W.cell? (a.add (i.val * d.sz + j)) = some u := by
      intro i
      obtain ⟨cs', h1, h2⟩ := hel i.val (by omega)
      rw [hd.1] at h1
      obtain ⟨y, hK, hQ⟩ := hd.2 enc W n cs' _ h2
      obtain ⟨_, hlen, hcell⟩ := World.cells?_some h1
      refine ⟨y, hQ, cs', hlen, hK, fun j u hu => ?_⟩
      have hj : j < d.sz := by
        rw [← hlen]
        exact (List.getElem?_eq_some_iff.1 hu).1
      rw [← Go.Deep.add_add, hcell j hj, hu]
    obtain ⟨f, hf⟩ := Classical.skolem.1 key
    have hlen : (List.ofFn f).length = len := List.length_ofFn
    refine ⟨List.ofFn f, ⟨some a, cap, by rw [hlen], by rw [hlen]; exact hl, ?_⟩, by rw [hlen]; exact Nat.le_trans hl hm, fun x hx => ?_⟩
    · have hml : len ≤ maxLen := Nat.le_trans hl hm
      refine ⟨rfl, by rw [hlen]; simpa only [maxLen] using hml, fun _ => ⟨a, rfl, fun j p hj => ?_⟩⟩
      have hjl : j < len := by
        have := (List.getElem?_eq_some_iff.1 hj).1
        rwa [hlen] at this
      have hp : f ⟨j, hjl⟩ = p := by
        have := (List.getElem?_eq_some_iff.1 hj).2
        simpa using this
      obtain ⟨_, c, hc1, hc2, hc3⟩ := hf ⟨j, hjl⟩
      exact ⟨c, hc1, hp ▸ hc2, hc3⟩
    · obtain ⟨i, rfl⟩ := List.mem_ofFn.1 hx
      exact (hf i).1

/-! structs -/
/-- What the fields of a struct read as, one behind the other. -/
def FieldsRead {H : Type} (P : Program) (enc : TypeId × Value → H) (W : World) (fuel : Nat) : List Field → List Value → Prop
  | [], _ => True
  | f :: r, cs => (∃ x, DataW.trod enc P W 0 (fun _ => true) true fuel f.type (cs.take (P.cellsOf f.type)) = some x) ∧ FieldsRead P enc W fuel r (cs.drop (P.cellsOf f.type))
def OpensFs {α : Type} (P : Program) (d : Kd α) (fs : List Field) (Q : α → Prop) : Prop :=
  ∀ {H : Type} (enc : TypeId × Value → H) (W : World) (fuel : Nat) (cs : List Value), cs.length = d.sz → FieldsRead P enc W fuel fs cs → ∃ a : α, d.K W a cs ∧ Q a
theorem opensFs_last {α : Type} {P : Program} {d : Kd α} {f : Field} {Q : α → Prop} (h : Opens P d f.type Q) : OpensFs P d [f] Q := by
  intro H enc W fuel cs hl hr
  obtain ⟨⟨x, hx⟩, _⟩ := hr
  rw [List.take_of_length_le (by rw [hl, h.1]; exact Nat.le_refl _)] at hx
  exact h.2 enc W fuel cs x hx
theorem opensFs_cons {α β : Type} {P : Program} {d : Kd α} {d' : Kd β} {f : Field} {fs : List Field} {Q : α → Prop} {Q' : β → Prop} (h : Opens P d f.type Q) (h' : OpensFs P d' fs Q') :
    OpensFs P (Kd.pair d d') (f :: fs) (fun x => Q x.1 ∧ Q' x.2) := by
  intro H enc W fuel cs hl hr
  have hl2 : cs.length = d.sz + d'.sz := hl
  obtain ⟨⟨x, hx⟩, hr'⟩ := hr
  rw [h.1] at hr' hx
  obtain ⟨a, ha, hQ⟩ := h.2 enc W fuel _ x hx
  obtain ⟨b, hb, hQ'⟩ := h' enc W fuel (cs.drop d.sz) (by rw [List.length_drop, hl2]; omega) hr'
  exact ⟨(a, b), ⟨cs.take d.sz, cs.drop d.sz, (List.take_append_drop _ _).symm, ha, hb⟩, hQ, hQ'⟩
def fieldsFit (P : Program) : Nat → List Field → Bool
  | _, [] => true
  | off, f :: r => (f.offset == off) && fieldsFit P (off + P.cellsOf f.type) r
theorem fieldsRead_of {H : Type} {P : Program} {enc : TypeId × Value → H} {W : World} {fuel : Nat} {cs : List Value} : ∀ (fs : List Field) (off : Nat), fieldsFit P off fs = true →
    (∀ (i : Nat) (f : Field), fs[i]? = some f → ∃ x, DataW.trod enc P W 0 (fun _ => true) true fuel f.type ((cs.drop f.offset).take (P.cellsOf f.type)) = some x) → FieldsRead P enc W fuel fs (cs.drop off)
  | [], _, _, _ => trivial
  | f :: r, off, hf, h => by
    simp only [fieldsFit, Bool.and_eq_true, beq_iff_eq] at hf
    have h0 := h 0 f rfl
    rw [hf.1] at h0
    refine ⟨h0, ?_⟩
    rw [List.drop_drop]
    exact fieldsRead_of r (off + P.cellsOf f.type) hf.2 (fun i g hg => h (i + 1) g hg)
/-- The cells of a struct that reads as data. -/
theorem opens_struct0 {α : Type} {P : Program} {d : Kd α} {t : TypeId} {fs : Array Field} {Q : α → Prop} (ht : P.underlying t = some (.struct fs)) (hc : P.cellsOf t = d.sz) (hfit : fieldsFit P 0 fs.toList = true) (h : OpensFs P d fs.toList Q) : Opens P d t Q := by
  refine ⟨hc, fun enc W fuel cs x hx => ?_⟩
  obtain ⟨xs, n, _, _, hlen, hxl, hall⟩ := DataW.trod_struct ht hx
  have := fieldsRead_of (P := P) (enc := enc) (W := W) (fuel := n) (cs := cs) fs.toList 0 hfit (fun i f hf => by
    have hf' : fs[i]? = some f := by simpa using hf
    have h1 := hall i f hf'
    have hi : i < xs.length := by
      rw [hxl]
      exact (Array.getElem?_eq_some_iff.1 hf').1
    exact ⟨xs[i], h1.trans (List.getElem?_eq_getElem hi)⟩)
  rw [List.drop_zero] at this
  exact h enc W n cs (hlen.trans hc) this
theorem opens_iso {α β : Type} {P : Program} {d : Kd α} {t : TypeId} {Q : α → Prop} (f : β → α) (g : α → β) (hfg : ∀ a, f (g a) = a) (h : Opens P d t Q) : Opens P (Kd.iso d f) t (fun b => Q (f b)) := by
  refine ⟨h.1, fun enc W fuel cs x hx => ?_⟩
  obtain ⟨a, hK, hQ⟩ := h.2 enc W fuel cs x hx
  refine ⟨g a, ?_, ?_⟩
  · show d.K W (f (g a)) cs
    rw [hfg]; exact hK
  · show Q (f (g a))
    rw [hfg]; exact hQ

/-! an argument's value -/
theorem opens_arg_slice {α : Type} {P : Program} {H : Type} {enc : TypeId × Value → H} {W : World} {d : Kd α} {t e : TypeId} {Q : List α → Prop} {v : Value} {x : DataW H} {p : List MemPlace} {r : Reach} {b : Nat} (ht : P.underlying t = some (.slice e))
    (ho : Opens P (Kd.slice e d) t Q) (hv : Value.okWide P W r b t v) (h : DataW.Trod enc P W 0 (fun _ => true) true t v x p) :
    ∃ (A : Option Addr) (l : List α) (c : Nat), v = .slice A l.length c ∧ l.length ≤ c ∧ Kd.C d W A l.length l ∧ Q l := by
  obtain ⟨a, len, cap, rfl⟩ := okWide_slice ht hv
  obtain ⟨fuel, hf⟩ := h
  obtain ⟨l, ⟨A, c, he, hl, hC⟩, hQ⟩ := ho.2 enc W fuel _ _ hf
  simp only [Value.cells, List.cons.injEq, and_true] at he
  exact ⟨A, l, c, he, hl, hC, hQ⟩
theorem opens_arg_struct {α : Type} {P : Program} {H : Type} {enc : TypeId × Value → H} {W : World} {d : Kd α} {t : TypeId} {fs : Array Field} {Q : α → Prop} {v : Value} {x : DataW H} {p : List MemPlace} {r : Reach} {b : Nat} (ht : P.underlying t = some (.struct fs))
    (ho : Opens P d t Q) (hv : Value.okWide P W r b t v) (h : DataW.Trod enc P W 0 (fun _ => true) true t v x p) :
    ∃ (cs : List Value) (a : α), v = .agg cs.toArray ∧ d.K W a cs ∧ Q a := by
  obtain ⟨cs, rfl, _⟩ := okWide_struct ht hv
  obtain ⟨fuel, hf⟩ := h
  obtain ⟨a, hK, hQ⟩ := ho.2 enc W fuel _ _ hf
  exact ⟨cs.toList, a, by simp, hK, hQ⟩

end Go.Proofs.YtmlhnpggjkoinaaDoor.Lib

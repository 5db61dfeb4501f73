/- Blocks of 64 numbers as a map's keys. -/
import Derived.Test.YtogdmjcdfjnifaaDoorProg
import Derived.Maps.OwnSet
import Derived.Maps.Views
import Derived.DeepKeys4
import Derived.WalkKit
set_option linter.unusedSimpArgs false
set_option linter.unusedVariables false
namespace Go.Proofs.YtogdmjcdfjnifaaDoor.TrieMap
open Go.RowKit Go.Maps Go.WideMaps Go.WideElems

set_option maxRecDepth 1000000 in
theorem laidOut : laidOutB Tryd.prog = true := by kernel_rfl
set_option maxRecDepth 1000000 in
theorem row52 : (40 : TypeId) < Tryd.prog.types.size := of_decide_eq_true (by kernel_rfl)
theorem wide52 : (match Tryd.prog.underlying 40 with | some (.array _ _) | some (.struct _) => true | _ => false) = true := by rw [Tryd.underlying40]
set_option maxRecDepth 1000000 in
theorem law52 : Keyed Tryd.prog 40 := Keyed.of_law (deep_law_laid laidOut (m := 2) (by omega) row52 (by kernel_rfl) wide52)
set_option maxRecDepth 1000000 in
theorem cells52 : Tryd.prog.cellsOf 40 = 64 := by kernel_rfl
set_option maxRecDepth 1000000 in
theorem cells2 : Tryd.prog.cellsOf 2 = 1 := by kernel_rfl
set_option maxRecDepth 1000000 in
theorem deep52 : Tryd.prog.keyType 40 = true := by kernel_rfl
set_option maxRecDepth 1000000 in
theorem types_size : ∃ m, Tryd.prog.types.size = m + 1 := ⟨Tryd.prog.types.size - 1, by have h : (40 : Nat) < Tryd.prog.types.size := row52; omega⟩
/-- A block, as a value. -/
def blk (x : List Int) : Value := .agg (x.map (Value.int .i64)).toArray
theorem keyLits_int (d : Nat) (z : Int) (h : (Lit.int .i64 z).wf = true) : Tryd.prog.keyLits (d + 1) 2 [.int .i64 z] = some [.int .i64 z] := by
  simp [Program.keyLits, Tryd.underlying2, h]
theorem keyLits_arr (d : Nat) (cs : List Value) (h : cs.length = 64) : Tryd.prog.keyLits (d + 1) 40 cs = ((List.range 64).mapM fun i => Tryd.prog.keyLits d 2 ((cs.drop (i * 1)).take 1)).map List.flatten := by
  have hc : cs.length = Tryd.prog.cellsOf 40 := by rw [h, cells52]
  simp only [Program.keyLits, Tryd.underlying40, if_pos hc, cells2]
theorem mapM_some {α β : Type} (f : α → Option β) : ∀ l : List α, (∀ a ∈ l, ∃ b, f a = some b) → ∃ r, l.mapM f = some r
  | [], _ => ⟨[], rfl⟩
  | a :: l, h => by
    obtain ⟨b, hb⟩ := h a (by simp)
    obtain ⟨r, hr⟩ := mapM_some f l (fun x hx => h x (by simp [hx]))
    exact ⟨b :: r, by simp [List.mapM_cons, hb, hr]⟩
theorem key_some (x : List Int) (hl : x.length = 64) (hw : ∀ z ∈ x, (Lit.int .i64 z).wf = true) : ∃ l, keyOf Tryd.prog 40 (blk x) = some l := by
  obtain ⟨m, hm⟩ := types_size
  have hf : (blk x).formed Tryd.prog 40 = true := by
    simp [Value.formed, blk, Tryd.underlying40, cells52, hl]
  have hk : ∃ ls, Tryd.prog.keyLits (Tryd.prog.types.size + 1) 40 (x.map (Value.int .i64)) = some ls := by
    rw [hm]
    rw [keyLits_arr (m + 1) _ (by rw [List.length_map, hl])]
    obtain ⟨r, hr⟩ := mapM_some (fun i => Tryd.prog.keyLits (m + 1) 2 (((x.map (Value.int .i64)).drop (i * 1)).take 1)) (List.range 64) (fun i hi => by
      have hi' : i < x.length := by rw [hl]; exact List.mem_range.1 hi
      have e : ((x.map (Value.int .i64)).drop (i * 1)).take 1 = [.int .i64 x[i]] := by
        rw [Nat.mul_one, List.drop_eq_getElem_cons (by rw [List.length_map]; exact hi'), List.getElem_map]
        rfl
      exact ⟨_, by rw [e]; exact keyLits_int m _ (hw _ (List.getElem_mem hi'))⟩)
    exact ⟨r.flatten, by rw [hr]; rfl⟩
  obtain ⟨ls, hls⟩ := hk
  refine ⟨.string (keyBytes ls), ?_⟩
  unfold keyOf
  rw [Tryd.underlying40]
  simp only [deep52, hf, Bool.and_true, Bool.true_and, if_true]
  show ((Tryd.prog.keyLits (Tryd.prog.types.size + 1) 40 (blk x).cells.toList).map fun ls => Lit.string (keyBytes ls)) = _
  have e : (blk x).cells.toList = x.map (Value.int .i64) := by simp [blk, Value.cells]
  rw [e, hls]; rfl
theorem blk_inj {x y : List Int} (h : blk x = blk y) : x = y := by
  unfold blk at h
  injection h with h
  have := congrArg Array.toList h
  simp only [List.toList_toArray] at this
  have hi : ∀ a b : Int, Value.int .i64 a = Value.int .i64 b → a = b := fun a b h => by injection h
  exact (List.map_inj_right hi).1 this
def okB (x : List Int) : Prop := x.length = 64 ∧ ∀ z ∈ x, (Lit.int .i64 z).wf = true
def KeyF (K : List Int → Lit) : Prop := ∀ x, okB x → keyOf Tryd.prog 40 (blk x) = some (K x)
theorem keyF_some : ∃ K, KeyF K := ⟨fun x => (keyOf Tryd.prog 40 (blk x)).getD (.bool true), fun x hx => by
  obtain ⟨l, h⟩ := key_some x hx.1 hx.2
  simp only [h, Option.getD_some]⟩
theorem KeyF.inj {K : List Int → Lit} (hK : KeyF K) {x y : List Int} (hx : okB x) (hy : okB y) (h : K x = K y) : x = y := by
  have h1 := hK x hx
  have h2 := hK y hy
  rw [h] at h1
  exact blk_inj (law52.inj h1 h2)
theorem KeyF.lit {K : List Int → Lit} (hK : KeyF K) {x : List Int} (hx : okB x) : WideAt.IsKeyLit (K x) := law52.key (hK x hx)
/-- Those that differ, in line. -/
def addB (acc : List (List Int)) (x : List Int) : List (List Int) := if acc.contains x then acc else acc ++ [x]
theorem fold_keys {K : List Int → Lit} (hK : KeyF K) : ∀ (l acc : List (List Int)), (∀ x ∈ l, okB x) → (∀ x ∈ acc, okB x) → (l.map K).foldl addKey (acc.map K) = (l.foldl addB acc).map K ∧ ∀ x ∈ l.foldl addB acc, okB x
  | [], acc, _, ha => ⟨rfl, ha⟩
  | x :: l, acc, hl, ha => by
    have hx := hl x (by simp)
    have e : addKey (acc.map K) (K x) = (addB acc x).map K := by
      unfold addKey addB
      have hc : (acc.map K).any (fun y => y.sameKey (K x)) = acc.contains x := by
        rw [Bool.eq_iff_iff, List.any_eq_true, List.contains_iff_mem]
        constructor
        · rintro ⟨y, hy, hs⟩
          obtain ⟨z, hz, rfl⟩ := List.mem_map.1 hy
          have := hK.inj (ha z hz) hx (WideAt.sameKey_eq hs)
          exact this ▸ hz
        · intro h
          exact ⟨K x, List.mem_map.2 ⟨x, h, rfl⟩, WideAt.sameKey_self (hK.lit hx)⟩
      rw [hc]
      by_cases h : acc.contains x = true
      · rw [if_pos h, if_pos h]
      · rw [if_neg h, if_neg h]; simp
    have ha2 : ∀ y ∈ addB acc x, okB y := by
      intro y hy
      unfold addB at hy
      split at hy
      · exact ha y hy
      · rcases List.mem_append.1 hy with hy | hy
        · exact ha y hy
        · rw [List.mem_singleton.1 hy]; exact hx
    rw [List.map_cons, List.foldl_cons, e, List.foldl_cons]
    exact fold_keys hK l (addB acc x) (fun y hy => hl y (by simp [hy])) ha2
end Go.Proofs.YtogdmjcdfjnifaaDoor.TrieMap

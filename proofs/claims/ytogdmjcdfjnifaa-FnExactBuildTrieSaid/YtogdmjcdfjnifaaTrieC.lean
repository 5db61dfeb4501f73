/- A map from blocks of 64 numbers to numbers, and a block in memory of its own: what the walk of impl.BuildTrie needs. -/
import Derived.Test.YtogdmjcdfjnifaaTrieMap
import Derived.Test.YtogdmjcdfjnifaaTrieB
import Derived.Sort.Row
import Derived.Deep.WholeRow
set_option linter.unusedSimpArgs false
set_option linter.unusedVariables false
namespace Go.Proofs.Ytogdmjcdfjnifaa.TrieC
open Go.RowKit Go.Maps Go.WideMaps Go.WideElems Go.Proofs.YtogdmjcdfjnifaaW.PrintWords Go.Proofs.YtogdmjcdfjnifaaW.PrintLast Go.Proofs.YtogdmjcdfjnifaaW.PrintMore Go.Proofs.Ytogdmjcdfjnifaa.TrieMap
abbrev MapAt (w : World) (g n : Nat) (D : DataW Unit) : Prop := w.ownsMap Try.prog 52 (plainElem (H := Unit) Try.prog 2) g n D
section
variable {w w1 : World} {g n : Nat} {D : DataW Unit}
theorem map_move (h : MapAt w g n D) (e : w1.heap[g]? = w.heap[g]?) : MapAt w1 g n D := by
  obtain ⟨es, cl, hb, r⟩ := h
  exact ⟨es, cl, e.trans hb, r⟩
theorem map_lt (h : MapAt w g n D) : g < w.heap.size := by
  obtain ⟨es, cl, hb, _⟩ := h
  exact (Array.getElem?_eq_some_iff.1 hb).1
theorem map_below (h : MapAt w g n D) (hb : Below w.heap.size w w1) : MapAt w1 g n D := map_move h (hb.block g (map_lt h))
theorem map_grown {row : Option Nat} (h : MapAt w g n D) (hg : w.grownBy w1 row) (hne : some g ≠ row) : MapAt w1 g n D := map_move h (hg.block g (map_lt h) hne)
theorem map_drew (h : MapAt w g n D) : MapAt w.drew g n D := h
theorem map_ne (h : MapAt w g n D) {k t : Nat} {cs : Array Value} (hb : w.heap[k]? = some (.cells cs t (0, 0))) : g ≠ k := by
  rintro rfl
  obtain ⟨es, cl, hm, _⟩ := h
  rw [hb] at hm
  injection hm with hm
  cases hm
theorem map_set (h : MapAt w g n D) {k t : Nat} {cs : Array Value} (hb : w.heap[k]? = some (.cells cs t (0, 0))) (i : Nat) (u : Value) : MapAt (w.setCell ⟨k, i, none⟩ u) g n D := World.ownsMap.setCell h (map_ne h hb) u
variable {α : Type} {d : Kd α} {e base : Nat} {ok : Nat → Prop} {v : Value} {xs : List α}
theorem ne_map (h : d.R e w base ok v xs) (hm : MapAt w g n D) : some g ≠ v.ownBlock := by
  intro hk
  obtain ⟨_, inner, ho, _⟩ := h
  obtain ⟨cs, hc⟩ := own_typed ho g hk.symm
  exact map_ne hm hc rfl
theorem R_map (h : d.R e w base ok v xs) (hm : MapAt w g n D) (hg : w.grownBy w1 (some g)) : d.R e w1 base ok v xs :=
  Kd.R_mono (Kd.R_grown (Kd.R_bound h) hg (fun k hk hq => by
    obtain ⟨_, _, _, q, _, cs, hc⟩ := hk
    injection hq with hq
    exact map_ne hm hc hq.symm)) (fun _ hk => hk.1)
theorem R_arr (h : d.R e w base ok v xs) {t : Nat} {cs : Array Value} (hb : w.heap[g]? = some (.cells cs t (0, 0))) (ht : ∀ q, q ∈ e :: d.E → q ≠ t) (hg : w.grownBy w1 (some g)) : d.R e w1 base ok v xs :=
  Kd.R_mono (Kd.R_grown (Kd.R_types h hb ht) hg (fun k hk hq => hk.2 (Option.some.inj hq))) (fun _ hk => hk.1)
theorem blk_map {k t : Nat} {cs : Array Value} (h : w.heap[k]? = some (.cells cs t (0, 0))) (hm : MapAt w g n D) (hg : w.grownBy w1 (some g)) : w1.heap[k]? = some (.cells cs t (0, 0)) :=
  blk_grown h hg (fun hq => map_ne hm h (Option.some.inj hq).symm)
end
section
variable {P : Program} {ops : Array Oper} {rest : List Oper} {o : Oper} {a : Act} {Q : Exit → Act → World → Prop} {W : World}
theorem map_event (hgd : o.guard = none) {N : Tmp} (_hd : o.dst = some N)
    (hrun : (execOp a.eval o).run P W = .ok (.value (.map (some W.heap.size))) (W.alloc (.map #[] 0)))
    (h : ∀ g, g = W.heap.size → ∀ w1, MapAt w1 g 0 (.map []) → Below W.heap.size W w1 → wpList P ops Q rest (a.put o.dst (.map (some g))) w1) : wpList P ops Q (o :: rest) a W :=
  Kd.event_run hgd hrun (h _ rfl _ (World.ownsMap_made W _ _ _) (below_alloc (Below.refl _ _) _))
end
/-- The array of 64 zeros. -/
def zs : Array Value := (List.replicate 64 (Value.int .i64 0)).toArray
set_option maxRecDepth 1000000 in
theorem zero52 : (Try.prog.info? 52).map (fun i => (i.zero, i.size)) = some (some (.agg zs), 64) := by kernel_rfl
section
variable {ops : Array Oper} {rest : List Oper} {o : Oper} {a : Act} {Q : Exit → Act → World → Prop} {W : World}
theorem arr_event (hgd : o.guard = none) {N : Tmp} (_hd : o.dst = some N) (ho : o.op = .alloc 52)
    (h : ∀ g, g = W.heap.size → ∀ w1, w1.heap[g]? = some (.cells zs 52 (0, 0)) → Below W.heap.size W w1 → wpList Try.prog ops Q rest (a.put o.dst (.pointer (some ⟨g, 0, none⟩))) w1) : wpList Try.prog ops Q (o :: rest) a W := by
  obtain ⟨hz, hs⟩ := zero_of_info zero52
  refine box_event hgd _hd (cs := zs) (t := 52) ?_ h
  simp [execOp, ho, Instr.alloc, hz, newVar, Sem.run_bind, Value.cells, Result.andThen]
  rfl
theorem size_setRow (w : World) (g : Nat) (cs : Array Value) : (w.setRow g cs).heap.size = w.heap.size := by simp [World.setRow]
theorem arr_store (hgd : o.guard = none) (x y : Operand) (ho : o.op = .store 52 x y) (g : Nat) (cs : Array Value) (l : List Int) (hx : a.eval x = .pointer (some ⟨g, 0, none⟩)) (hy : a.eval y = blk l) (hl : l.length = 64)
    (hb : W.heap[g]? = some (.cells cs 52 (0, 0))) (hcs : cs.size = 64)
    (h : ∀ w1, w1.heap[g]? = some (.cells (l.map (Value.int .i64)).toArray 52 (0, 0)) → W.grownBy w1 (some g) → wpList Try.prog ops Q rest (a.put o.dst undef) w1) : wpList Try.prog ops Q (o :: rest) a W := by
  obtain ⟨hz, hs⟩ := zero_of_info zero52
  have hrun := run_storeVar_row (P := Try.prog) W g 52 52 cs (l.map (Value.int .i64)).toArray hb (by simp [hs, hl]) (by simp [hcs, hl]) (by simp; intro z _; rfl)
  have hblk : (W.setRow g (l.map (Value.int .i64)).toArray).heap[g]? = some (.cells (l.map (Value.int .i64)).toArray 52 (0, 0)) := by
    simp [World.setRow, Array.getElem?_modify, hb]
  refine wpList_plain hgd fun K' hK' => ?_
  unfold Oper.wp
  have e : blk l = .agg (l.map (Value.int .i64)).toArray := rfl
  simp [execOp, ho, hx, hy, e, Instr.storeAt, Instr.sureAddr, Sem.run_bind, hrun, Result.andThen]
  exact hK' _ _ (h _ hblk ⟨rfl, rfl, rfl, by rw [size_setRow]; exact Nat.le_refl _, fun k hk hne => by
    simp [World.setRow, Array.getElem?_modify]
    intro e; subst e; exact absurd rfl hne⟩)
end
/-! ### the map's data -/
def Mp (K : List Int → Lit) (ks : List (List Int)) : DataW Unit := ks.zipIdx.foldl (fun m x => m.put (K x.1) (.lit (.int .i64 (x.2 : Int)))) (.map [])
theorem Mp_snoc (K : List Int → Lit) (ks : List (List Int)) (b : List Int) : Mp K (ks ++ [b]) = (Mp K ks).put (K b) (.lit (.int .i64 (ks.length : Int))) := by
  unfold Mp
  rw [List.zipIdx_append, List.foldl_append]
  simp
theorem snoc_ind {P : List (List Int) → Prop} (h0 : P []) (hs : ∀ l b, P l → P (l ++ [b])) (l : List (List Int)) : P l := by
  rw [← List.reverse_reverse l]
  induction l.reverse with
  | nil => exact h0
  | cons b r ih => rw [List.reverse_cons]; exact hs _ _ ih
theorem Mp_tidy {K : List Int → Lit} (hK : KeyF K) (ks : List (List Int)) : (∀ x ∈ ks, okB x) → Tidy (Mp K ks) := by
  refine snoc_ind (P := fun ks => (∀ x ∈ ks, okB x) → Tidy (Mp K ks)) (fun _ => tidy_empty) (fun l b ih h => ?_) ks
  rw [Mp_snoc]
  exact (ih (fun x hx => h x (by simp [hx]))).put (hK.lit (h b (by simp))) _
theorem Mp_has {K : List Int → Lit} (hK : KeyF K) (b : List Int) (hb : okB b) (ks : List (List Int)) : (∀ x ∈ ks, okB x) → Maps.has (Mp K ks) (K b) = decide (b ∈ ks) := by
  refine snoc_ind (P := fun ks => (∀ x ∈ ks, okB x) → Maps.has (Mp K ks) (K b) = decide (b ∈ ks)) (fun _ => by simp [Mp, has_eq]) (fun l c ih h => ?_) ks
  have hl : ∀ x ∈ l, okB x := fun x hx => h x (by simp [hx])
  have hc : okB c := h c (by simp)
  rw [Mp_snoc]
  by_cases e : b = c
  · subst e
    rw [has_put_same (Mp_tidy hK l hl).isMap (hK.lit hc)]
    simp
  · rw [has_put_other (fun he => e (hK.inj hb hc he)), ih hl]
    simp [e]
theorem Mp_at {K : List Int → Lit} (hK : KeyF K) (b : List Int) (hb : okB b) (z : DataW Unit) (ks : List (List Int)) : (∀ x ∈ ks, okB x) → ks.Nodup → b ∈ ks → (Mp K ks).atKey (K b) z = .lit (.int .i64 (ks.idxOf b : Int)) := by
  refine snoc_ind (P := fun ks => (∀ x ∈ ks, okB x) → ks.Nodup → b ∈ ks → (Mp K ks).atKey (K b) z = .lit (.int .i64 (ks.idxOf b : Int))) (fun _ _ h => by simp at h) (fun l c ih h hn hm => ?_) ks
  have hl : ∀ x ∈ l, okB x := fun x hx => h x (by simp [hx])
  have hc : okB c := h c (by simp)
  rw [List.nodup_append] at hn
  rw [Mp_snoc]
  by_cases e : b = c
  · subst e
    have hnb : b ∉ l := fun hb' => hn.2.2 b hb' b (by simp) rfl
    rw [atKey_put_same (Mp_tidy hK l hl).isMap (hK.lit hc), List.idxOf_append, if_neg hnb]
    simp
  · have hbl : b ∈ l := by
      rcases List.mem_append.1 hm with h | h
      · exact h
      · exact absurd (List.mem_singleton.1 h) e
    rw [atKey_put_other (fun he => e (hK.inj hb hc he)), ih hl hn.1 hbl, List.idxOf_append, if_pos hbl]
theorem Mp_size {K : List Int → Lit} (hK : KeyF K) (ks : List (List Int)) : (∀ x ∈ ks, okB x) → ks.Nodup → Maps.size (Mp K ks) = ks.length := by
  refine snoc_ind (P := fun ks => (∀ x ∈ ks, okB x) → ks.Nodup → Maps.size (Mp K ks) = ks.length) (fun _ _ => rfl) (fun l c ih h hn => ?_) ks
  have hl : ∀ x ∈ l, okB x := fun x hx => h x (by simp [hx])
  have hc : okB c := h c (by simp)
  rw [List.nodup_append] at hn
  have hnc : c ∉ l := fun hb' => hn.2.2 c hb' c (by simp) rfl
  rw [Mp_snoc, size_put (Mp_tidy hK l hl), Mp_has hK c hc l hl, decide_eq_false hnc, ih hl hn.1]
  simp
/-- The block cut at p. -/
def bl (x : List Int) (p : Int) : List Int := (x.drop p.toNat).take 64
theorem load52 (a : Addr) (w : World) (x : List Int) (hx : x.length = 64) (h : ∀ j v, (x.map (Value.int .i64))[j]? = some v → w.cell? (a.add j) = some v) :
    (Instr.loadAt 52 (.pointer (some a))).run Try.prog w = .ok (blk x) w := by
  have hl := run_loadCells_list (P := Try.prog) (w := w) a (x.map (Value.int .i64)) h
  have hi : (Try.prog.info? 52).map (·.size) = some 64 := by kernel_rfl
  cases hq : Try.prog.info? 52 with
  | none => rw [hq] at hi; cases hi
  | some i =>
    have hs : i.size = (x.map (Value.int .i64)).length := by
      rw [hq] at hi
      rw [List.length_map, hx]
      simpa using hi
    have hagg : (isAgg 52).run Try.prog w = .ok true w := by
      unfold isAgg
      rw [Sem.run_bind, run_underlying Try.underlying52 w]
      rfl
    simp [Instr.loadAt, Instr.sureAddr, loadVar, Sem.run_bind, hagg, sizeOf, typeInfo, hq, hs, hl, blk]
    rw [List.length_map] at hl
    simp [hl]
set_option maxRecDepth 1000000 in
theorem arrayAt52 (a : Option Addr) (n c : Nat) (w : World) (h : ¬ n < 64) : (Instr.arrayAt 52 (.slice a n c)).run Try.prog w = .ok (.pointer a) w := by
  unfold Instr.arrayAt
  rw [Sem.run_bind, run_underlying Try.underlying52 w]
  simp [Result.andThen, h]
set_option maxRecDepth 1000000 in
theorem wpList_load52 {ops : Array Oper} {rest : List Oper} {op : Oper} {a : Act} {w : World} {Q : Exit → Act → World → Prop} (hgd : op.guard = none) (x : Operand) (ho : op.op = .load 52 x) (p : Addr) (l : List Int)
    (hx : a.eval x = .pointer (some p)) (hrun : (Instr.loadAt 52 (.pointer (some p))).run Try.prog w = .ok (blk l) w) (h : wpList Try.prog ops Q rest (a.put op.dst (blk l)) w) : wpList Try.prog ops Q (op :: rest) a w :=
  wpList_plain hgd fun _ hK => by
    unfold Oper.wp execOp
    simp only [ho, hx, Sem.run_bind, Sem.run_pure, hrun, Result.andThen_ok]
    exact hK _ _ h
set_option maxRecDepth 1000000 in
theorem cutlo_ok (w0 : World) (A : Option Addr) (c : Nat) (xs : List Int) (a : Int) (h0 : 0 ≤ a) (hm : a + 64 ≤ (xs.length : Int)) (hc : xs.length ≤ c) (hC0 : Kd.C (Kd.int .i64) w0 A xs.length xs) : ∃ (ad : Addr) (m : Nat),
    (∀ W : World, (Instr.slice 22 (.slice A xs.length c) (some (.int .i64 a)) none none).run Try.prog W = .ok (.slice (some ad) m (c - a.toNat)) W) ∧ ¬ m < 64 ∧
    (∀ w : World, Kd.C (Kd.int .i64) w A xs.length xs → (Instr.loadAt 52 (.pointer (some ad))).run Try.prog w = .ok (blk (bl xs a)) w) ∧ (bl xs a).length = 64 := by
  obtain ⟨i0, hi0, _, hsz, _⟩ := info_parts TrieB.info2
  obtain ⟨A', hcut, hA, hC⟩ := print_drop_of (P := Try.prog) (Value.int .i64) 0 22 2 .i64 Try.underlying22 hi0 hsz A c xs a h0 (by omega) hc
  have hlen : (xs.drop a.toNat).length = xs.length - a.toNat := List.length_drop
  have hbl : (bl xs a).length = 64 := by unfold bl; rw [List.length_take, hlen]; omega
  have hx := fun (w : World) (hw : Kd.C (Kd.int .i64) w A xs.length xs) => (Kd.C_of_reads (h1 := fun _ => rfl) (hA w (Kd.reads_of_C hw)) : Kd.C (Kd.int .i64) w A' (xs.drop a.toNat).length (xs.drop a.toNat))
  obtain ⟨ad, rfl, _⟩ := Kd.at_int (hx w0 hC0) 0 (by omega) (by omega)
  refine ⟨ad, _, hcut, by omega, fun w hw => load52 ad w (bl xs a) hbl (fun j v hj => ?_), hbl⟩
  have hjl : j < 64 := by
    have := (List.getElem?_eq_some_iff.1 hj).1
    rw [List.length_map, hbl] at this
    exact this
  obtain ⟨ad', e, hcell⟩ := Kd.at_int (hx w hw) (j : Int) (by omega) (by omega)
  injection e with e
  subst e
  rw [Int.toNat_natCast] at hcell
  rw [hcell]
  rw [List.getElem?_map] at hj
  cases hq : (bl xs a)[j]? with
  | none => rw [hq] at hj; cases hj
  | some z =>
    rw [hq] at hj
    injection hj with hj
    rw [← hj]
    unfold bl at hq
    rw [List.getElem?_take, if_pos hjl] at hq
    have e : Go.Proofs.YtogdmjcdfjnifaaW.PrintWords.rd (xs.drop a.toNat) (j : Int) = z := by simp only [Go.Proofs.YtogdmjcdfjnifaaW.PrintWords.rd, Int.toNat_natCast, List.getD_eq_getElem?_getD, hq, Option.getD_some]
    rw [e]
/-- What the array in memory loads as. -/
theorem load_arr {w : World} {g : Nat} {l : List Int} (hl : l.length = 64) (hb : w.heap[g]? = some (.cells (l.map (Value.int .i64)).toArray 52 (0, 0))) : (Instr.loadAt 52 (.pointer (some ⟨g, 0, none⟩))).run Try.prog w = .ok (blk l) w :=
  load52 ⟨g, 0, none⟩ w l hl (fun j v hj => by
    have := blk_cell hb j
    have hadd : (⟨g, 0, none⟩ : Addr).add j = ⟨g, j, none⟩ := by unfold Addr.add; split <;> simp_all
    rw [hadd, this]
    rw [← hj]
    simp)
theorem arr_reads {w : World} {g : Nat} {l : List Int} (hl : l.length = 64) (hb : w.heap[g]? = some (.cells (l.map (Value.int .i64)).toArray 52 (0, 0))) : Kd.C (Kd.int .i64) w (some ⟨g, 0, none⟩) 64 l := by
  refine Kd.C_of_reads (h1 := fun _ => rfl) (d := 0) ⟨hl, by omega, fun _ => ⟨_, rfl, fun j hj => ?_⟩⟩
  have := blk_cell hb j
  have hadd : (⟨g, 0, none⟩ : Addr).add j = ⟨g, j, none⟩ := by unfold Addr.add; split <;> simp_all
  rw [hadd, this]
  simp [List.getElem?_eq_getElem (show j < l.length by omega)]
set_option maxRecDepth 1000000 in
theorem slice_arr (g : Nat) (W : World) : (Instr.sliceAt 52 (.pointer (some ⟨g, 0, none⟩)) none none none).run Try.prog W = .ok (.slice (some ⟨g, 0, none⟩) 64 64) W := by
  have hz : (Try.prog.info? 2).map (·.size) = some 1 := by kernel_rfl
  cases hq : Try.prog.info? 2 with
  | none => rw [hq] at hz; cases hz
  | some i =>
    unfold Instr.sliceAt
    rw [Sem.run_bind, run_underlying Try.underlying52 W]
    simp [Result.andThen, Instr.sureAddr, Instr.sliceBounds, Sem.run_bind, sizeOf, typeInfo, hq, Addr.add]
theorem wf_nat (n : Nat) (h : n < 1000000) : (Lit.int .i64 (n : Int)).wf = true := by
  have h1 : IntKind.i64.min = -9223372036854775808 := by decide
  have h2 : IntKind.i64.max = 9223372036854775807 := by decide
  simp only [Lit.wf, h1, h2]
  rw [Bool.and_eq_true]
  exact ⟨decide_eq_true (by omega), decide_eq_true (by omega)⟩
theorem zs_size : zs.size = 64 := by simp [zs]
theorem inv_snoc {ks : List (List Int)} {b : List Int} (h : (∀ x ∈ ks, okB x) ∧ ks.Nodup) (hb : okB b) (hn : b ∉ ks) : (∀ x ∈ ks ++ [b], okB x) ∧ (ks ++ [b]).Nodup := by
  refine ⟨fun x hx => ?_, ?_⟩
  · rcases List.mem_append.1 hx with hx | hx
    · exact h.1 x hx
    · rw [List.mem_singleton.1 hx]; exact hb
  · rw [List.nodup_append]
    exact ⟨h.2, by simp, fun x hx y hy => by rw [List.mem_singleton.1 hy]; rintro rfl; exact hn hx⟩
theorem at_idx {K : List Int → Lit} (hK : KeyF K) {b : List Int} {ks : List (List Int)} (hb : okB b) (h : (∀ x ∈ ks, okB x) ∧ ks.Nodup) (hm : b ∈ ks) {z : DataW Unit} {c cx : Int} (hx : cx = (ks.idxOf b : Int)) (ha : (Mp K ks).atKey (K b) z = .lit (.int .i64 c)) : cx = c := by
  have h1 := (Mp_at hK b hb z ks h.1 h.2 hm).symm.trans ha
  rw [← hx] at h1
  injection h1 with h1
  injection h1
end Go.Proofs.Ytogdmjcdfjnifaa.TrieC

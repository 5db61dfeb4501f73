/- The walk of impl.TrieFault. -/
import Derived.Test.YtogdmjcdfjnifaaDoorTrieMap
import Derived.Test.YtogdmjcdfjnifaaDoorWMore
import Derived.Test.YtogdmjcdfjnifaaDoorWLast
import Derived.Test.YtogdmjcdfjnifaaDoorWKept
import Derived.Sort.Row
set_option linter.unusedSimpArgs false
set_option linter.unusedVariables false
namespace Go.Proofs.YtogdmjcdfjnifaaDoor.TrieMap
open Go.RowKit Go.Maps Go.Proofs.YtogdmjcdfjnifaaDoorW.PrintWords Go.Proofs.YtogdmjcdfjnifaaDoorW.PrintLast Go.Proofs.YtogdmjcdfjnifaaDoorW.PrintMore
def nextF : List Int → Int → Option Int
  | [], next => some next
  | k :: r, next => if k < 0 ∨ k > next then none else nextF r (if k = next then next + 1 else next)
/-- Block number i. -/
def blkAt (l : List Int) (i : Nat) : List Int := (l.drop (i * 64)).take 64
set_option maxHeartbeats 4000000 in
set_option maxRecDepth 1000000 in
theorem trieFault_bad (A0_0 : Option Addr) (c0_0 : Nat) (l0_0 : List Int) (A0_1 : Option Addr) (c0_1 : Nat) (l0_1 : List Int) (w : World)
    (hbad : l0_0.length ≠ 512 ∨ l0_1.length % 64 ≠ 0 ∨ 512 < l0_1.length / 64) (hl1 : l0_1.length ≤ 1000000000) (hl0 : l0_0.length ≤ 1000000000) :
    Calls Tryd.prog 14 #[.agg #[.slice A0_0 l0_0.length c0_0, .slice A0_1 l0_1.length c0_1]] w fun e w' => e = .returned (.int .i64 1) ∧ Below w.heap.size w w' := by
  have hu27 := Tryd.underlying27
  have q1 : (l0_1.length : Int).tdiv 64 = ((l0_1.length / 64 : Nat) : Int) := by
    rw [Int.tdiv_eq_ediv_of_nonneg (by omega)]; omega
  have q2 : (l0_1.length : Int).tmod 64 = ((l0_1.length % 64 : Nat) : Int) := by
    rw [Int.tmod_eq_emod_of_nonneg (by omega)]; omega
  go_enter Tryd.func14, Tryd.ntmps14
  go_wp2
  all_goals (go_ret; exact ⟨rfl, (Below.refl _ _).alloc (Nat.le_refl _) _⟩)
theorem load52 (a : Addr) (w : World) (x : List Int) (hx : x.length = 64) (h : ∀ j v, (x.map (Value.int .i64))[j]? = some v → w.cell? (a.add j) = some v) :
    (Instr.loadAt 40 (.pointer (some a))).run Tryd.prog w = .ok (blk x) w := by
  have hl := run_loadCells_list (P := Tryd.prog) (w := w) a (x.map (Value.int .i64)) h
  have hi : (Tryd.prog.info? 40).map (·.size) = some 64 := by kernel_rfl
  cases hq : Tryd.prog.info? 40 with
  | none => rw [hq] at hi; cases hi
  | some i =>
    have hs : i.size = (x.map (Value.int .i64)).length := by
      rw [hq] at hi
      rw [List.length_map, hx]
      simpa using hi
    have hagg : (isAgg 40).run Tryd.prog w = .ok true w := by
      unfold isAgg
      rw [Sem.run_bind, run_underlying Tryd.underlying40 w]
      rfl
    simp [Instr.loadAt, Instr.sureAddr, loadVar, Sem.run_bind, hagg, sizeOf, typeInfo, hq, hs, hl, blk]
    rw [List.length_map] at hl
    simp [hl]
theorem two_cells (w : World) (a b : Value) (T : TypeId) : ((w.alloc (.cells #[a, b] T)).alloc (.map #[] 0)).cell? ⟨w.heap.size, 0, none⟩ = some a ∧ ((w.alloc (.cells #[a, b] T)).alloc (.map #[] 0)).cell? ⟨w.heap.size, 1, none⟩ = some b := by
  have h : ((w.alloc (.cells #[a, b] T)).alloc (.map #[] 0)).heap[w.heap.size]? = some (.cells #[a, b] T) := by
    show ((w.heap.push (.cells #[a, b] T)).push _)[w.heap.size]? = _
    rw [Array.getElem?_push, Array.size_push, if_neg (by omega), Array.getElem?_push, if_pos rfl]
  constructor
  · unfold World.cell?
    simp only [h]; rfl
  · unfold World.cell?
    simp only [h]; rfl
theorem add_add (a : Addr) (i j : Nat) : (a.add i).add j = a.add (i + j) := by
  by_cases hi : i = 0 <;> by_cases hj : j = 0 <;> simp [Addr.add, hi, hj, Nat.add_assoc]
set_option maxRecDepth 1000000 in
theorem arrayAt52 (a : Option Addr) (n c : Nat) (w : World) (h : ¬ n < 64) : (Instr.arrayAt 40 (.slice a n c)).run Tryd.prog w = .ok (.pointer a) w := by
  unfold Instr.arrayAt
  rw [Sem.run_bind, run_underlying Tryd.underlying40 w]
  simp [Result.andThen, h]
set_option maxRecDepth 1000000 in
theorem wpList_load52 {ops : Array Oper} {rest : List Oper} {op : Oper} {a : Act} {w : World} {Q : Exit → Act → World → Prop} (hgd : op.guard = none) (x : Operand) (ho : op.op = .load 40 x) (p : Addr) (l : List Int)
    (hx : a.eval x = .pointer (some p)) (hrun : (Instr.loadAt 40 (.pointer (some p))).run Tryd.prog w = .ok (blk l) w) (h : wpList Tryd.prog ops Q rest (a.put op.dst (blk l)) w) : wpList Tryd.prog ops Q (op :: rest) a w :=
  wpList_plain hgd fun _ hK => by
    unfold Oper.wp execOp
    simp only [ho, hx, Sem.run_bind, Sem.run_pure, hrun, Result.andThen_ok]
    exact hK _ _ h
def keys (K : List Int → Lit) (l : List Int) (n : Nat) : List Lit := (List.range n).map fun i => K (blkAt l i)
def Sn (K : List Int → Lit) (l : List Int) (n : Nat) : DataW Unit := setOf (.lit (.bool true)) (keys K l n)
theorem Sn_succ (K : List Int → Lit) (l : List Int) (k : Nat) : Sn K l (k + 1) = (Sn K l k).put (K (blkAt l k)) (.lit (.bool true)) := by
  unfold Sn keys
  rw [List.range_succ, List.map_append]
  exact setOf_snoc _ _ _
/-- How many blocks differ. -/
def cnt (l : List Int) (n : Nat) : Nat := (((List.range n).map (blkAt l)).foldl addB []).length
theorem blkAt_length (l : List Int) (i n : Nat) (h : l.length = n * 64) (hi : i < n) : (blkAt l i).length = 64 := by
  unfold blkAt
  rw [List.length_take, List.length_drop]; omega
theorem blkAt_mem (l : List Int) (i : Nat) (z : Int) (h : z ∈ blkAt l i) : z ∈ l := List.mem_of_mem_drop (List.mem_of_mem_take h)
theorem size_Sn {K : List Int → Lit} (hK : KeyF K) (l : List Int) (n : Nat) (h : l.length = n * 64) (hw : ∀ z ∈ l, (Lit.int .i64 z).wf = true) : Maps.size (Sn K l n) = cnt l n := by
  have hb : ∀ x ∈ (List.range n).map (blkAt l), okB x := fun x hx => by
    obtain ⟨i, hi, rfl⟩ := List.mem_map.1 hx
    exact ⟨blkAt_length l i n h (List.mem_range.1 hi), fun z hz => hw z (blkAt_mem l i z hz)⟩
  have e : keys K l n = ((List.range n).map (blkAt l)).map K := by unfold keys; rw [List.map_map]; rfl
  have hf := fold_keys hK ((List.range n).map (blkAt l)) [] hb (fun x hx => by cases hx)
  unfold Sn cnt
  rw [size_setOf _ _ (fun x hx => by
    rw [e] at hx
    obtain ⟨y, hy, rfl⟩ := List.mem_map.1 hx
    exact hK.lit (hb y hy)), e]
  have := hf.1
  rw [List.map_nil] at this
  rw [this, List.length_map]
def tfGood (l0 l1 : List Int) (n : Nat) : Int := match nextF l0 0 with
  | none => 1
  | some nx => if nx = (n : Int) ∧ cnt l1 n = n then 0 else 1

set_option maxHeartbeats 4000000 in
set_option maxRecDepth 1000000 in
theorem trieFault_good (A0_0 : Option Addr) (c0_0 : Nat) (l0_0 : List Int) (A0_1 : Option Addr) (c0_1 : Nat) (l0_1 : List Int) (w : World)
    (hr0 : Kd.C (Kd.int .i64) w A0_0 l0_0.length l0_0) (hc0 : l0_0.length ≤ c0_0) (hr1 : Kd.C (Kd.int .i64) w A0_1 l0_1.length l0_1) (hc1 : l0_1.length ≤ c0_1) (n : Nat)
    (h0 : l0_0.length = 512) (h1 : l0_1.length = n * 64) (hn : n ≤ 512) (hw : ∀ z ∈ l0_1, (Lit.int .i64 z).wf = true) :
    Calls Tryd.prog 14 #[.agg #[.slice A0_0 l0_0.length c0_0, .slice A0_1 l0_1.length c0_1]] w fun e w' => e = .returned (.int .i64 (tfGood l0_0 l0_1 n)) ∧ Below w.heap.size w w' := by
  have hu27 := Tryd.underlying27
  have hmm := @run_makeMap Tryd.prog
  have q1 : (l0_1.length : Int) / 64 = (n : Int) := by omega
  have q2 : (l0_1.length : Int) % 64 = 0 := by omega
  have q3 : ¬ (512 : Int) < (n : Int) := by omega
  have q4 : (l0_0.length : Int) = 512 := by omega
  obtain ⟨K, hK⟩ := keyF_some
  have HK := Aside0.mk hK
  clear hK
  have HR0 := Aside0.mk hr0
  have HR1 := Aside0.mk hr1
  have HW := Aside0.mk hw
  have HL1 := Aside0.mk h1
  have HC1 := Aside0.mk hc1
  clear hr0 hr1 hw hc0 hc1 h1
  go_enter Tryd.func14, Tryd.ntmps14
  go_wp2
  go_loopg [30] n (fun g1 v wr => ∃ k : Nat, v = .int .i64 k ∧ k ≤ n ∧ n - k ≤ g1 ∧ wr.ownsMap Tryd.prog 40 (plainElem (H := Unit) Tryd.prog 4) (w.heap.size + 1) k (Sn K l0_1 k) ∧ Below w.heap.size w wr ∧ wr.cell? ⟨w.heap.size, 0, none⟩ = some (.slice A0_0 512 c0_0) ∧ wr.cell? ⟨w.heap.size, 1, none⟩ = some (.slice A0_1 l0_1.length c0_1))
  case atStart =>
    have e1 : (w.alloc (.cells #[.slice A0_0 512 c0_0, .slice A0_1 l0_1.length c0_1] 27)).heap.size = w.heap.size + 1 := by
      show (w.heap.push _).size = _
      rw [Array.size_push]
    have hm := World.ownsMap_made (w.alloc (.cells #[.slice A0_0 512 c0_0, .slice A0_1 l0_1.length c0_1] 27)) Tryd.prog 40 (plainElem (H := Unit) Tryd.prog 4)
    rw [e1] at hm
    refine ⟨0, rfl, Nat.zero_le _, Nat.le_refl _, hm, ((Below.refl _ _).alloc (Nat.le_refl _) _).alloc (by rw [e1]; omega) _, ?_, ?_⟩
    · exact (two_cells w _ _ _).1
    · exact (two_cells w _ _ _).2
  case round =>
    obtain ⟨k, rfl, hk, hg1, hown, hB, hb0, hb1⟩ := hrel
    by_cases hlt : k < n
    · have hltz : (k : Int) < (n : Int) := by omega
      have hl1 := HL1.out
      obtain ⟨ad, rfl, _⟩ := Kd.at_int (Kd.C_below HR1.out hB) ((k * 64 : Nat) : Int) (by omega) (by omega)
      have hcell : ∀ j, j < l0_1.length → wr.cell? (ad.add j) = some (.int .i64 (rd l0_1 (j : Int))) := fun j hj => by
        obtain ⟨ad', e, h⟩ := Kd.at_int (Kd.C_below HR1.out hB) (j : Int) (by omega) (by omega)
        injection e with e
        subst e
        rw [Int.toNat_natCast] at h
        exact h
      have hld := load52 (ad.add (k * 64)) wr (blkAt l0_1 k) (blkAt_length l0_1 k n hl1 hlt) (fun j v hj => by
        rw [List.getElem?_map] at hj
        cases hx : (blkAt l0_1 k)[j]? with
        | none => rw [hx] at hj; cases hj
        | some z =>
          rw [hx] at hj
          injection hj with hj
          have hjl : j < (blkAt l0_1 k).length := (List.getElem?_eq_some_iff.1 hx).1
          rw [blkAt_length l0_1 k n hl1 hlt] at hjl
          rw [add_add, hcell _ (by omega), ← hj]
          unfold blkAt at hx
          rw [List.getElem?_take, if_pos hjl, List.getElem?_drop] at hx
          have e : rd l0_1 ((k * 64 + j : Nat) : Int) = z := by simp only [rd, Int.toNat_natCast, List.getD_eq_getElem?_getD, hx, Option.getD_some]
          rw [e])
      have hkey := HK.out (blkAt l0_1 k) ⟨blkAt_length l0_1 k n hl1 hlt, fun z hz => HW.out z (blkAt_mem _ _ _ hz)⟩
      have hc1 := HC1.out
      obtain ⟨kk, hkk⟩ : ∃ kk, kk = k * 64 := ⟨_, rfl⟩
      rw [← hkk] at hld
      have m1 : IntKind.i64.wrap ((k : Int) * 64) = (kk : Int) := by rw [IntKind.wrap_i64]; omega
      have m2 : (k : Int) * 64 = (kk : Int) := by omega
      have hcne : ¬ c0_1 = kk := by omega
      have hcne2 : ¬ kk = c0_1 := by omega
      have hle : kk ≤ l0_1.length := by omega
      have hlez : (kk : Int) ≤ (l0_1.length : Int) := by omega
      have hlen64 : ¬ l0_1.length - kk < 64 := by omega
      have harr := arrayAt52 (some (ad.add kk)) (l0_1.length - kk) (c0_1 - kk) wr hlen64
      clear hkk
      clear hcell hl1 hc1
      go_wp2_with (first | (refine wpList_load52 rfl _ (by with_reducible rfl) (ad.add kk) (blkAt l0_1 k) rfl hld ?_) | (at_mapUpdate; refine wpList_mapUpdate_own _ rfl _ _ _ 39 rfl 40 4 law52 Tryd.underlying39 (plainElem (H := Unit) Tryd.prog 4) (w.heap.size + 1) k _ rfl hown (by unfold maxLen; omega) _ _ _ rfl rfl hkey _ [] (plainElem_bool Tryd.underlying4 true) ?_; intro w1 hown1 hgrow1))
      have hbx : wr.heap[w.heap.size]? = w1.heap[w.heap.size]? := by
        obtain ⟨c, e, fr, h, _⟩ := Go.Sort.cells_of_cell? hb0
        exact (hgrow1.block w.heap.size (Array.getElem?_eq_some_iff.1 h).1 (by intro h; injection h with h; omega)).symm
      go_roundg (n - (k + 1))
      case measure => omega
      case rel =>
        refine ⟨k + 1, by go_num, by omega, by omega, (Sn_succ K l0_1 k).symm ▸ hown1, hB.grown hgrow1 hB.size (fun j hj => by cases hj; omega), ?_, ?_⟩
        · unfold World.cell? at hb0 ⊢; rw [← hbx]; exact hb0
        · unfold World.cell? at hb1 ⊢; rw [← hbx]; exact hb1
    · have hkn : k = n := by omega
      subst hkn
      have hltz : ¬ (k : Int) < (k : Int) := by omega
      go_wp2
      go_loopg [6, 45] 512 (fun g1 v6 v45 w2 => ∃ (j : Nat) (nx : Int), v6 = .int .i64 nx ∧ v45 = .int .i64 j ∧ j ≤ 512 ∧ 512 - j ≤ g1 ∧ 0 ≤ nx ∧ nx ≤ (j : Int) ∧ w2 = wr ∧ Aside0 (nextF (l0_0.drop j) nx = nextF l0_0 0))
      case atStart => exact ⟨0, 0, rfl, rfl, by omega, by omega, by omega, by omega, rfl, ⟨rfl⟩⟩
      case round =>
        obtain ⟨j, nx, rfl, rfl, hj, hg2, hnx0, hnx, rfl, HO⟩ := hrel
        by_cases hjl : j < 512
        · have hjz : (j : Int) < 512 := by omega
          obtain ⟨ad, rfl, hx⟩ := Kd.at_int (Kd.C_below HR0.out hB) (j : Int) (by omega) (by omega)
          obtain ⟨v, hv⟩ : ∃ v, rd l0_0 (j : Int) = v := ⟨_, rfl⟩
          rw [hv, Int.toNat_natCast] at hx
          have hd : l0_0.drop j = v :: l0_0.drop (j + 1) := by
            rw [List.drop_eq_getElem_cons (by omega)]
            congr 1
            rw [← hv]
            simp [rd, List.getD_eq_getElem?_getD, List.getElem?_eq_getElem (show j < l0_0.length by omega)]
          have HD := Aside0.mk hd
          clear hd hv
          have hjj : (j : Int).toNat = j := by omega
          by_cases c1 : v < 0
          · go_wp2
            go_ret
            refine ⟨?_, hB⟩
            have hz : tfGood l0_0 l0_1 k = 1 := by
              unfold tfGood
              rw [← HO.out, HD.out, nextF, if_pos (.inl c1)]
            rw [hz]; rfl
          · by_cases c2 : v > nx
            · go_wp2
              go_ret
              refine ⟨?_, hB⟩
              have hz : tfGood l0_0 l0_1 k = 1 := by
                unfold tfGood
                rw [← HO.out, HD.out, nextF, if_pos (.inr c2)]
              rw [hz]; rfl
            · by_cases c3 : v = nx
              · have w1 : IntKind.i64.wrap (nx + 1) = nx + 1 := by rw [IntKind.wrap_i64]; omega
                go_wp2
                go_roundg (512 - (j + 1))
                case measure => omega
                case rel => exact ⟨j + 1, nx + 1, by go_num, by go_num, by omega, by omega, by omega, by omega, rfl, ⟨by rw [← HO.out, HD.out, nextF.eq_2, if_neg (by omega), if_pos c3]⟩⟩
              · go_wp2
                go_roundg (512 - (j + 1))
                case measure => omega
                case rel => exact ⟨j + 1, nx, by go_num, by go_num, by omega, by omega, by omega, by omega, rfl, ⟨by rw [← HO.out, HD.out, nextF.eq_2, if_neg (by omega), if_neg c3]⟩⟩
        · have hj5 : j = 512 := by omega
          subst hj5
          have hz : tfGood l0_0 l0_1 k = if nx = (k : Int) ∧ cnt l0_1 k = k then 0 else 1 := by
            unfold tfGood
            rw [← HO.out, List.drop_eq_nil_of_le (by omega), nextF]
          have hlen := hown.len Tryd.underlying39 3
          obtain ⟨sz, hsz⟩ : ∃ sz : Nat, cnt l0_1 k = sz := ⟨_, rfl⟩
          rw [size_Sn HK.out l0_1 k HL1.out HW.out] at hlen
          rw [hsz] at hz hlen
          have HZ := Aside0.mk hz
          clear hz hsz HO hown
          by_cases c1 : nx = (k : Int)
          · by_cases c2 : sz = k
            · have c2z : (sz : Int) = (k : Int) := by omega
              go_wp2
              go_ret
              exact ⟨by rw [HZ.out, if_pos ⟨c1, c2⟩]; rfl, hB⟩
            · have c2z : ¬ (sz : Int) = (k : Int) := by omega
              go_wp2
              go_ret
              exact ⟨by rw [HZ.out, if_neg (fun h => c2 h.2)]; rfl, hB⟩
          · go_wp2
            go_ret
            exact ⟨by rw [HZ.out, if_neg (fun h => c1 h.1)]; rfl, hB⟩
def tfAll (l0 l1 : List Int) : Int := if l0.length = 512 ∧ l1.length % 64 = 0 ∧ l1.length / 64 ≤ 512 then tfGood l0 l1 (l1.length / 64) else 1
end Go.Proofs.YtogdmjcdfjnifaaDoor.TrieMap

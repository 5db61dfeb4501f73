/- A piece of a row of one's own is copied onto itself, one place further on. -/
import Derived.Test.YtmlhnpggjkoinaaDoorProg
import Derived.Test.YtmlhnpggjkoinaaDoorVWG
import Derived.StillTailTactics
set_option linter.unusedSimpArgs false
set_option linter.unusedVariables false
namespace Go.Proofs.YtmlhnpggjkoinaaDoor.GlyW
open Go.RowKit Go.Proofs.YtmlhnpggjkoinaaDoorW.PrintWords Go.Proofs.YtmlhnpggjkoinaaDoorW.PrintLast Go.Proofs.YtmlhnpggjkoinaaDoorW.PrintMore
theorem w64_ {x : Int} (h0 : -9223372036854775808 ≤ x) (h1 : x ≤ 9223372036854775807) : wrap64 x = x := by unfold wrap64; omega
/-- The elements from lo up to hi move one place further on; the one that stood at hi is lost. -/
def mvL {α : Type} (x : List α) (lo hi : Nat) : List α := x.take (lo + 1) ++ (x.drop lo).take (hi - lo) ++ x.drop (hi + 1)
theorem mvL_get {α : Type} (x : List α) (lo hi m : Nat) (h : lo ≤ hi) (hh : hi < x.length) : (mvL x lo hi)[m]? = if lo < m ∧ m ≤ hi then x[m - 1]? else x[m]? := by
  have e : mvL x lo hi = x.take (lo + 1) ++ (x.drop lo).take (hi - lo) ++ x.drop (lo + 1 + ((x.drop lo).take (hi - lo)).length) := by
    unfold mvL
    rw [List.length_take, List.length_drop, show lo + 1 + min (hi - lo) (x.length - lo) = hi + 1 by omega]
  rw [e, seg_get x _ (lo + 1) (by rw [List.length_take, List.length_drop]; omega) m, List.length_take, List.length_drop]
  by_cases h1 : m < lo + 1
  · rw [if_pos h1, if_neg (by omega)]
  · rw [if_neg h1]
    by_cases h2 : m ≤ hi
    · rw [if_pos (by omega), if_pos (by omega), List.getElem?_take, if_pos (by omega), List.getElem?_drop]
      congr 1
      omega
    · rw [if_neg (by omega), if_neg (by omega)]
theorem mvL_length {α : Type} (x : List α) (lo hi : Nat) (h : lo ≤ hi) (hh : hi < x.length) : (mvL x lo hi).length = x.length := by
  unfold mvL
  simp only [List.length_append, List.length_take, List.length_drop]
  omega
theorem mvL_none {α : Type} (x : List α) (lo hi : Nat) (h : hi ≤ lo) (hh : hi = lo) : mvL x lo hi = x := by
  subst hh
  unfold mvL
  rw [Nat.sub_self, List.take_zero, List.append_nil, List.take_append_drop]
theorem run_copy_many {P : Program} (w : World) (dT sT ty elem : TypeId) (b o dLen dCap : Nat) (a : Addr) (sLen sCap sz : Nat) (cs : List Value)
    (hu : P.underlying dT = some (.slice elem)) (hs : (P.info? elem).map (·.size) = some sz) (hn : cs.length = Nat.min sLen dLen * sz)
    (hsrc : ∀ j v, cs[j]? = some v → w.cell? (a.add j) = some v) (hc : ∀ j, j < cs.length → (w.cell? ⟨b, o + j, none⟩).isSome = true) (hf : ∀ j, j < cs.length → w.frozen? ⟨b, o + j, none⟩ = false) (h1 : ∀ v ∈ cs, v.oneCell' = true) :
    (Builtin.copy_ #[dT, sT] ty #[.slice (some ⟨b, o, none⟩) dLen dCap, .slice (some a) sLen sCap]).run P w = .ok (goInt (Nat.min sLen dLen)) (w.setCells b o cs) := by
  have hl := run_loadCells_list (P := P) w a cs hsrc
  have hst := run_storeCells_cells (P := P) b o cs 0 w (by simpa using hc) (by simpa using hf) h1
  cases hq : P.info? elem with
  | none => simp [hq] at hs
  | some i =>
    have hi : i.size = sz := by simpa [hq] using hs
    simp [Builtin.copy_, run_underlying hu, Builtin.lenOf, Builtin.firstCells, sizeOf, typeInfo, hq, hi, ← hn, hl, hst]
theorem run_copy_zero {P : Program} (w : World) (dT sT ty elem : TypeId) (d a : Option Addr) (dCap sCap sz : Nat) (hu : P.underlying dT = some (.slice elem)) (hs : (P.info? elem).map (·.size) = some sz) :
    (Builtin.copy_ #[dT, sT] ty #[.slice d 0 dCap, .slice a 0 sCap]).run P w = .ok (goInt 0) w := by
  cases hq : P.info? elem with
  | none => simp [hq] at hs
  | some i =>
    have h0 : Nat.min 0 0 = 0 := rfl
    cases d <;> cases a <;> simp [Builtin.copy_, run_underlying hu, Builtin.lenOf, Builtin.firstCells, sizeOf, typeInfo, hq, h0, loadCells, loadCellsFrom, storeCells]
section
variable {P : Program} {ops : Array Oper} {rest : List Oper} {o : Oper} {a : Act} {Q : Exit → Act → World → Prop} {α : Type}
theorem R_moved {d : Kd α} {e base g n cap : Nat} {ok : Nat → Prop} {W : World} {xs : List α} (h : d.R e W base ok (.slice (some ⟨g, 0, none⟩) n cap) xs) (lo hi : Nat) (hl : lo ≤ hi) (hh : hi < n) :
    ∃ cs : List Value, cs.length = (hi - lo) * d.sz ∧ (∀ j v, cs[j]? = some v → W.cell? ⟨g, lo * d.sz + j, none⟩ = some v) ∧ (∀ j, j < cs.length → (W.cell? ⟨g, (lo + 1) * d.sz + j, none⟩).isSome = true) ∧ (∀ j, W.frozen? ⟨g, j, none⟩ = false) ∧ (∀ v ∈ cs, v.oneCell' = true) ∧
      d.R e (W.setCells g ((lo + 1) * d.sz) cs) base ok (.slice (some ⟨g, 0, none⟩) n cap) (mvL xs lo hi) ∧ W.grownBy (W.setCells g ((lo + 1) * d.sz) cs) (some g) := by
  obtain ⟨hn, hnc, _⟩ := Kd.R_reads' h
  obtain ⟨hok, inner, ho, hr⟩ := h
  have hin : inner.length = n * d.sz := by rw [hr.1, hn]
  have hcell := fun j u hu => ho.cells (g := g) (by simp [Value.ownBlock]) j u hu
  obtain ⟨ho1, ho2⟩ := ho
  rcases ho2 with ⟨hv, _⟩ | ⟨g', cap', cur, hv, hb, hH, hnc', hcm, hcs, ht⟩
  · cases hv
  injection hv with ha _ hc
  injection ha with ha
  injection ha with hg
  subst hg; subst hc
  obtain ⟨L, hL⟩ : ∃ L, lo * d.sz = L := ⟨_, rfl⟩
  obtain ⟨D, hD⟩ : ∃ D, (hi - lo) * d.sz = D := ⟨_, rfl⟩
  have h1L : (lo + 1) * d.sz = L + d.sz := by rw [Nat.succ_mul, hL]
  have hLD : L + d.sz + D ≤ n * d.sz := by
    have : (hi + 1) * d.sz ≤ n * d.sz := Nat.mul_le_mul_right _ hh
    rw [show hi + 1 = lo + (hi - lo) + 1 by omega, Nat.succ_mul, Nat.add_mul, hL, hD] at this
    omega
  have hncs : n * d.sz ≤ cap * d.sz := Nat.mul_le_mul_right _ hnc
  have hcur : ∀ q, q < n * d.sz → cur.toList[q]? = inner[q]? := by
    intro q hq
    rw [← ht, List.getElem?_take, if_pos (by rw [← hn]; exact hq)]
  have hfit : L + d.sz + D ≤ cur.size := by omega
  have hlen : ((inner.drop L).take D).length = D := by rw [List.length_take, List.length_drop]; omega
  have hat : ∀ j, j < D → ((inner.drop L).take D)[j]? = inner[L + j]? := fun j hj => by rw [List.getElem?_take, if_pos hj, List.getElem?_drop]
  have hone : ∀ v ∈ (inner.drop L).take D, v.oneCell' = true := by
    intro v hv
    have hm : v ∈ inner := List.mem_of_mem_drop (List.mem_of_mem_take hv)
    obtain ⟨j, hj⟩ := List.mem_iff_getElem?.1 hm
    have hjl : j < inner.length := (List.getElem?_eq_some_iff.1 hj).1
    have hz : 0 < d.sz := by
      rcases Nat.eq_zero_or_pos d.sz with c | c
      · rw [c, Nat.mul_zero] at hin; omega
      · exact c
    have hq : j / d.sz < xs.length := by
      rw [← hn, Nat.div_lt_iff_lt_mul hz]
      omega
    have hM := hr.2 (j / d.sz) _ (List.getElem?_eq_getElem hq)
    refine d.K_one (d.K_of_M hM) v ?_
    refine List.mem_iff_getElem?.2 ⟨j % d.sz, ?_⟩
    rw [List.getElem?_take, if_pos (Nat.mod_lt _ hz), List.getElem?_drop, show j / d.sz * d.sz + j % d.sz = j from Nat.div_add_mod' j d.sz]
    exact hj
  refine ⟨(inner.drop L).take D, by rw [hlen, ← hD], fun j v hv => ?_, fun j hj => ?_, fun j => blk_frozen hH _, hone, ?_, ?_⟩
  · have hj : j < D := by
      have := (List.getElem?_eq_some_iff.1 hv).1
      omega
    rw [hat j hj] at hv
    have := hcell _ _ hv
    rw [add_plain] at this
    rw [hL]
    simpa using this
  · rw [hlen] at hj
    rw [cell_of_row W g _ cur e (0, 0) hH, h1L, Array.getElem?_eq_getElem (show L + d.sz + j < cur.size by omega)]
    rfl
  · obtain ⟨cur', h3, h4, h5⟩ := setCells_row ((inner.drop L).take D) ((lo + 1) * d.sz) W cur hH (by rw [h1L, hlen]; exact hfit)
    obtain ⟨s1, s2, s3, s4⟩ := setCells_same g ((inner.drop L).take D) ((lo + 1) * d.sz) W
    have hfar : ∀ k, k ≠ g → (W.setCells g ((lo + 1) * d.sz) ((inner.drop L).take D)).heap[k]? = W.heap[k]? := fun k hk => setCells_far _ _ k hk
    have hml := mvL_length xs lo hi hl (by omega)
    refine ⟨hok, inner.take (L + d.sz) ++ (inner.drop L).take D ++ inner.drop (L + d.sz + ((inner.drop L).take D).length), ⟨?_, .inr ⟨g, cap, cur', by rw [hml, hn], hb, h3, by rw [hml, ← hn]; exact hnc, hcm, by rw [h4, hcs], ?_⟩⟩, ?_, fun m p hm => ?_⟩
    · rw [hml, ← hn]
      simp only [List.length_append, List.length_take, List.length_drop]
      omega
    · rw [hml, ← hn]
      apply List.ext_getElem?
      intro q
      rw [List.getElem?_take, h5, h1L]
      rw [seg_get cur.toList _ (L + d.sz) (by rw [hlen, Array.length_toList]; omega) q, seg_get inner _ (L + d.sz) (by rw [hlen]; omega) q, hlen]
      by_cases hq : q < n * d.sz
      · rw [if_pos hq, hcur q hq]
      · rw [if_neg hq, if_neg (by omega), if_neg (by omega), List.getElem?_eq_none (by omega)]
    · rw [hml, ← hn]
      simp only [List.length_append, List.length_take, List.length_drop]
      omega
    · have hmn : m < n := by
        have := (List.getElem?_eq_some_iff.1 hm).1
        rw [hml] at this
        omega
      rw [mvL_get xs lo hi m hl (by omega)] at hm
      obtain ⟨M, hM⟩ : ∃ M, m * d.sz = M := ⟨_, rfl⟩
      have hMn : M + d.sz ≤ n * d.sz := by
        have : (m + 1) * d.sz ≤ n * d.sz := Nat.mul_le_mul_right _ hmn
        rwa [Nat.succ_mul, hM] at this
      by_cases c : lo < m ∧ m ≤ hi
      · rw [if_pos c] at hm
        have hold := hr.2 (m - 1) p hm
        have hM1 : (m - 1) * d.sz + d.sz = M := by
          rw [← hM, ← Nat.succ_mul, show (m - 1).succ = m by omega]
        have hLm : L ≤ (m - 1) * d.sz := by rw [← hL]; exact Nat.mul_le_mul_right _ (by omega)
        have hmD : M ≤ L + D := by
          rw [← hM, ← hL, ← hD, ← Nat.add_mul]
          exact Nat.mul_le_mul_right _ (by omega)
        have hcells : ((inner.take (L + d.sz) ++ (inner.drop L).take D ++ inner.drop (L + d.sz + ((inner.drop L).take D).length)).drop M).take d.sz = (inner.drop ((m - 1) * d.sz)).take d.sz := by
          apply List.ext_getElem?
          intro q
          rw [List.getElem?_take, List.getElem?_take, List.getElem?_drop, List.getElem?_drop, seg_get inner _ (L + d.sz) (by rw [hlen]; omega) _, hlen]
          by_cases hq : q < d.sz
          · rw [if_pos hq, if_pos hq, if_neg (by omega), if_pos (by omega), hat _ (by omega)]
            congr 1
            omega
          · rw [if_neg hq, if_neg hq]
        rw [hM, hcells]
        refine d.M_move (fun k hk => hfar k (fun he => hk.2 (by rw [he]; simp [Value.ownBlock]))) hold
      · rw [if_neg c] at hm
        have hold := hr.2 m p hm
        have hcells : ((inner.take (L + d.sz) ++ (inner.drop L).take D ++ inner.drop (L + d.sz + ((inner.drop L).take D).length)).drop M).take d.sz = (inner.drop M).take d.sz := by
          apply List.ext_getElem?
          intro q
          rw [List.getElem?_take, List.getElem?_take, List.getElem?_drop, List.getElem?_drop, seg_get inner _ (L + d.sz) (by rw [hlen]; omega) _, hlen]
          by_cases hq : q < d.sz
          · rw [if_pos hq, if_pos hq]
            rcases Nat.lt_or_ge lo m with c1 | c1
            · have : L + d.sz + D ≤ M := by
                have : (hi + 1) * d.sz ≤ m * d.sz := Nat.mul_le_mul_right _ (by omega)
                rw [show hi + 1 = lo + (hi - lo) + 1 by omega, Nat.succ_mul, Nat.add_mul, hL, hD, hM] at this
                omega
              rw [if_neg (by omega), if_neg (by omega)]
            · have : M ≤ L := by rw [← hM, ← hL]; exact Nat.mul_le_mul_right _ c1
              rw [if_pos (by omega)]
          · rw [if_neg hq, if_neg hq]
        rw [hM, hcells]
        rw [hM] at hold
        refine d.M_move (fun k hk => hfar k (fun he => hk.2 (by rw [he]; simp [Value.ownBlock]))) hold
  · obtain ⟨s1, s2, s3, s4⟩ := setCells_same g ((inner.drop L).take D) ((lo + 1) * d.sz) W
    exact ⟨s1, s2, s3, by rw [s4]; exact Nat.le_refl _, fun k _ hk => setCells_far _ _ k (fun he => hk (by rw [he]))⟩
theorem copy_self (d : Kd α) {w0 W : World} (base : Nat) (N : Nat) {s x : Operand} {t t' e : TypeId} (hinfo : (P.info? e).map (·.size) = some d.sz) (ht : P.underlying t = some (.slice e))
    {ad : Addr} {n cap : Nat} {xs : List α} {ok : Nat → Prop} (HO : d.R e W base ok (.slice (some ad) n cap) xs) (HB : Below base w0 W) (hbase : base ≤ W.heap.size) (lo hi : Nat) (hl : lo ≤ hi) (hh : hi < n) {A1 A2 : Option Addr} {n1 n2 c1 c2 : Nat} (hn1 : n1 = hi - lo) (hn2 : n2 = hi - lo)
    (hA1 : A1 = if cap = lo + 1 then some ad else (some ad).map (·.add ((lo + 1) * d.sz))) (hA2 : A2 = if cap = lo then some ad else (some ad).map (·.add (lo * d.sz)))
    (hs : a.eval s = .slice A1 n1 c1) (hx : a.eval x = .slice A2 n2 c2)
    (h : ∀ w1, d.R e w1 base ok (.slice (some ad) n cap) (mvL xs lo hi) → Below base w0 w1 → W.grownBy w1 (Value.slice (some ad) n cap).ownBlock → wpList P ops Q rest (a.put o.dst (.int .i64 ((hi - lo : Nat) : Int))) w1)
    (hgd : o.guard = none := by rfl) (ho : o.op = .call { callee := .builtin .copy, args := #[s, x], argTypes := #[t, t'] } := by rfl) : wpList P ops Q (o :: rest) a W := by
  subst hn1; subst hn2
  have fin : ∀ w1, (Builtin.copy_ #[t, t'] o.type #[.slice A1 (hi - lo) c1, .slice A2 (hi - lo) c2]).run P W = .ok (goInt ((hi - lo : Nat) : Int)) w1 → d.R e w1 base ok (.slice (some ad) n cap) (mvL xs lo hi) → W.grownBy w1 (Value.slice (some ad) n cap).ownBlock → wpList P ops Q (o :: rest) a W := by
    intro w1 hr hrow hg
    refine wpList_plain hgd fun K hK => ?_
    unfold Oper.wp execOp
    simp only [ho, resolve, invoke, builtin, Sem.run_bind, Sem.run_pure, Result.andThen_ok, List.map_toArray, List.map_cons, List.map_nil, hs, hx, hr]
    exact hK _ _ (h w1 hrow (HB.grown hg hbase (Kd.R_base HO)) hg)
  rcases Nat.eq_zero_or_pos (hi - lo) with h0 | hp
  · refine fin W ?_ (by rw [mvL_none xs lo hi (by omega) (by omega)]; exact HO) (World.grownBy.refl W _)
    rw [h0]
    exact run_copy_zero W t t' o.type e A1 A2 c1 c2 d.sz ht hinfo
  · have hxs := (Kd.R_reads' HO).1
    have hnc := (Kd.R_reads' HO).2.1
    obtain ⟨g, cap', hv, _⟩ := Kd.R_form HO (by omega)
    injection hv with ha _ _
    injection ha with ha
    subst ha
    obtain ⟨cs, h1, h2, h3, h4, h5, h6, h7⟩ := R_moved HO lo hi hl hh
    rw [if_neg (by omega)] at hA1 hA2
    simp only [Option.map_some, add_plain, Nat.zero_add] at hA1 hA2
    have hr := run_copy_many (P := P) W t t' o.type e g ((lo + 1) * d.sz) (hi - lo) c1 ⟨g, lo * d.sz, none⟩ (hi - lo) c2 d.sz cs ht hinfo (by rw [h1, show Nat.min (hi - lo) (hi - lo) = hi - lo from Nat.min_self _]) (fun j v hv => by rw [show (⟨g, lo * d.sz, none⟩ : Addr).add j = ⟨g, lo * d.sz + j, none⟩ by unfold Addr.add; split <;> simp_all]; exact h2 j v hv) h3 (fun j _ => h4 _) h5
    rw [show Nat.min (hi - lo) (hi - lo) = hi - lo from Nat.min_self _] at hr
    refine fin _ (by rw [hA1, hA2, hr]) h6 ?_
    rw [show (Value.slice (some ⟨g, 0, none⟩) n cap).ownBlock = some g by simp [Value.ownBlock]]
    exact h7
end
end Go.Proofs.YtmlhnpggjkoinaaDoor.GlyW

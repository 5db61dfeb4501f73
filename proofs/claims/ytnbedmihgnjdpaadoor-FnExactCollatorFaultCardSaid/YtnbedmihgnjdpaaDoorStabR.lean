/- The walks of slices.stableCmpFunc and slices.SortStableFunc at int64. -/
import Derived.Test.YtnbedmihgnjdpaaDoorStabY
import Derived.Test.YtnbedmihgnjdpaaDoorShelfIns
import Derived.Test.YtnbedmihgnjdpaaDoorVQC
import Derived.Lib.RowBridge
set_option linter.unusedSimpArgs false
set_option linter.unusedVariables false
namespace Go.Proofs.YtnbedmihgnjdpaaDoor.Stab
open Go.Shelf Go.RowKit Go.Lib Go.Sort
theorem blks_go (lt : Int → Int → Bool) (n a : Nat) (d : Array Int) (h : a + 20 ≤ n) : blks lt n a d = blks lt n (a + 20) (insertionSort lt d a (a + 20)) := by rw [blks, dif_pos h]
theorem blks_end (lt : Int → Int → Bool) (n a : Nat) (d : Array Int) (h : ¬ a + 20 ≤ n) : blks lt n a d = insertionSort lt d a n := by rw [blks, dif_neg h]
theorem mrg_go (lt : Int → Int → Bool) (n z a : Nat) (d : Array Int) (hz : 0 < z) (h : a + 2 * z ≤ n) : mrg lt n z a d = mrg lt n z (a + 2 * z) (symM lt a (a + z) (a + 2 * z) d) := by rw [mrg.eq_1 (a := a), dif_pos ⟨hz, h⟩]
theorem mrg_one (lt : Int → Int → Bool) (n z a : Nat) (d : Array Int) (h : ¬ a + 2 * z ≤ n) (h2 : a + z < n) : mrg lt n z a d = symM lt a (a + z) n d := by rw [mrg, dif_neg (by omega), if_pos h2]
theorem mrg_end (lt : Int → Int → Bool) (n z a : Nat) (d : Array Int) (h : ¬ a + 2 * z ≤ n) (h2 : ¬ a + z < n) : mrg lt n z a d = d := by rw [mrg, dif_neg (by omega), if_neg h2]
theorem rnds_go (lt : Int → Int → Bool) (n z : Nat) (d : Array Int) (hz : 0 < z) (h : z < n) : rnds lt n z d = rnds lt n (2 * z) (mrg lt n z 0 d) := by rw [rnds.eq_1 (z := z), dif_pos ⟨hz, h⟩]
theorem rnds_end (lt : Int → Int → Bool) (n z : Nat) (d : Array Int) (h : ¬ z < n) : rnds lt n z d = d := by rw [rnds, dif_neg (by omega)]
set_option maxRecDepth 1000000 in
theorem ins_calls (cf : Int → Int → Int) (hcmp : CmpOk cf) (blk off cap a b N : Nat) (d : Array Int) (w : World) (hN : d.size = N) (hH : Holds enc w blk off d) (hab : a ≤ b) (hb : b ≤ d.size) (hsz : d.size < 4611686018427387904) :
    Calls Tryd.prog 101 #[.slice (some ⟨blk, off, none⟩) N cap, .int .i64 a, .int .i64 b, .func (.func 79) #[] #[]] w fun e w' =>
      e = .returned (.tuple #[]) ∧ ∃ q, w' = (putRow enc w blk off (insertionSort (ltOf cf) d a b)).drewN q := by
  subst hN
  have hO : OneCell enc := by first | (intro x; rfl) | exact ⟨fun _ => rfl⟩
  exact Any.insertionSortCmpFunc_one Tryd.insL enc hO cf 79 #[] blk off cap a b d w (fun _ _ => rfl) (fun m os dk hs x y => hcmp x y _) hH hab hb hsz
set_option maxHeartbeats 4000000 in
set_option maxRecDepth 1000000 in
theorem stable_calls (cf : Int → Int → Int) (hcmp : CmpOk cf) (blk off cap N : Nat) (d : Array Int) (w : World) (hN : d.size = N) (hH : Holds enc w blk off d) (hsz : d.size < 1152921504606846976) :
    Calls Tryd.prog 91 #[.slice (some ⟨blk, off, none⟩) N cap, .int .i64 N, .func (.func 79) #[] #[]] w fun e w' =>
      e = .returned (.tuple #[]) ∧ ∃ q, w' = (putRow enc w blk off (stab (ltOf cf) d)).drewN q := by
  subst hN
  obtain ⟨n, hn⟩ : ∃ n, n = d.size := ⟨_, rfl⟩
  have HST : Aside (w = (putRow enc w blk off d).drewN 0) := (putRow_self enc w blk off d hH).symm
  have HH : Aside (Holds enc w blk off d) := hH
  have HC : Aside _ := hcmp
  clear hH hcmp
  rw [stab, ← hn]
  rw [← hn] at hsz
  have HN : Aside (n = d.size) := hn
  clear hn
  go_enter Tryd.func91, Tryd.ntmps91
  go_wp2
  go_loopg [7, 8] n (fun g1 va vb wr => ∃ (a b q : Nat) (dk : Array Int), va = .int .i64 a ∧ vb = .int .i64 b ∧ b = a + 20 ∧ a ≤ n ∧ n - a ≤ g1 ∧ dk.size = d.size ∧ wr = (putRow enc w blk off dk).drewN q ∧ Aside (blks (ltOf cf) n a dk = blks (ltOf cf) n 0 d))
  case atStart => exact ⟨0, 20, 0, d, by go_num, by go_num, by omega, by omega, by omega, rfl, HST.out, rfl⟩
  case round =>
    obtain ⟨a, b, q, dk, rfl, rfl, hab, hale, hg1, hsk, hwr, HO⟩ := hrel
    have hHk : Holds enc wr blk off dk := by rw [hwr]; exact holds_putRow enc w blk off d dk HH.out hsk
    have A : Aside (wr = (putRow enc w blk off dk).drewN q) := hwr
    have HAB : Aside (b = a + 20) := hab
    have hn := HN.out
    clear hwr
    by_cases hlt : b ≤ n
    · have hltz : (b : Int) ≤ (n : Int) := by omega
      have hc := ins_calls cf HC.out blk off cap a b n dk wr (by omega) hHk (by omega) (by omega) (by omega)
      have eb : IntKind.i64.wrap ((b : Int) + 20) = ((b + 20 : Nat) : Int) := by rw [IntKind.wrap_i64]; omega
      clear hHk hab hn
      go_wp2_with (first | (go_at_call 101; with_reducible refine hc.mono ?_; rintro e w' ⟨rfl, q2, rfl⟩))
      go_roundg (n - b)
      case measure => have := HAB.out; omega
      case rel =>
        have hab := HAB.out
        refine ⟨b, b + 20, q + q2, insertionSort (ltOf cf) dk a b, by go_num, by go_num, rfl, by omega, by omega, by rw [ins_size]; exact hsk, ?_, (show Aside _ from ?_)⟩
        · rw [A.out, relay w blk off q q2 d dk _ (ins_size _ _ _ _)]
        · show _ = _
          rw [← HO.out, blks_go _ n a dk (by omega), hab]
    · have hltz : ¬ (b : Int) ≤ (n : Int) := by omega
      have hc := ins_calls cf HC.out blk off cap a n n dk wr (by omega) hHk (by omega) (by omega) (by omega)
      have HB : Aside (insertionSort (ltOf cf) dk a n = blks (ltOf cf) n 0 d) := by rw [← HO.out, blks_end _ n a dk (by omega)]; exact rfl
      clear hHk hab hn HO
      go_wp2_with (first | (go_at_call 101; with_reducible refine hc.mono ?_; rintro e w' ⟨rfl, q2, rfl⟩))
      generalize hD : blks (ltOf cf) n 0 d = D at HB
      have A2 : Aside ((putRow enc wr blk off (insertionSort (ltOf cf) dk a n)).drewN q2 = (putRow enc w blk off D).drewN (q + q2)) := by
        show _ = _
        rw [A.out, relay w blk off q q2 d dk _ (ins_size _ _ _ _), HB.out]
      have hDs : D.size = d.size := by rw [← hD, blks_size _ _ _ _ _ (Nat.le_refl _)]
      have HD : Aside (blks (ltOf cf) n 0 d = D) := hD
      generalize (putRow enc wr blk off (insertionSort (ltOf cf) dk a n)).drewN q2 = w2 at A2
      clear A HB hD hc
      go_loopg [6, 7, 8] n (fun g1 vz va vb wr => ∃ (z q : Nat) (dk : Array Int), vz = .int .i64 z ∧ 0 < z ∧ n - z ≤ g1 ∧ dk.size = d.size ∧ wr = (putRow enc w blk off dk).drewN q ∧ Aside (rnds (ltOf cf) n z dk = rnds (ltOf cf) n 20 D))
      case atStart => exact ⟨20, _, D, by go_num, by omega, by omega, hDs, A2.out, rfl⟩
      case round =>
        clear A2
        obtain ⟨z, q, dk, rfl, hz0, hg1, hsk, hwr, HO⟩ := hrel
        by_cases hzn : z < n
        · have hznz : (z : Int) < (n : Int) := by omega
          obtain ⟨z2, hz2⟩ : ∃ z2, z2 = 2 * z := ⟨_, rfl⟩
          have ez : 2 * (z : Int) = (z2 : Int) := by omega
          have ez' : (z : Int) * 2 = (z2 : Int) := by omega
          have wz : IntKind.i64.wrap (2 * (z : Int)) = (z2 : Int) := by rw [IntKind.wrap_i64]; omega
          have wz' : IntKind.i64.wrap ((z : Int) * 2) = (z2 : Int) := by rw [IntKind.wrap_i64]; omega
          have HZ : Aside (z2 = 2 * z) := hz2
          have A : Aside (wr = (putRow enc w blk off dk).drewN q) := hwr
          clear hwr hz2
          go_wp2
          go_loopg [7, 8] n (fun g2 va vb wr => ∃ (a b q : Nat) (dj : Array Int), va = .int .i64 a ∧ vb = .int .i64 b ∧ b = a + z2 ∧ a ≤ n ∧ n - a ≤ g2 ∧ dj.size = d.size ∧ wr = (putRow enc w blk off dj).drewN q ∧ Aside (mrg (ltOf cf) n z a dj = mrg (ltOf cf) n z 0 dk))
          case atStart => exact ⟨0, z2, q, dk, by go_num, by go_num, by omega, by omega, by omega, hsk, A.out, rfl⟩
          case round =>
            clear A
            obtain ⟨a, b, q, dj, rfl, rfl, hab, hale, hg2, hsj, hwr, HM⟩ := hrel
            have hHk : Holds enc wr blk off dj := by rw [hwr]; exact holds_putRow enc w blk off d dj HH.out hsj
            have A : Aside (wr = (putRow enc w blk off dj).drewN q) := hwr
            have HAB : Aside (b = a + z2) := hab
            have hn := HN.out
            have hz2 := HZ.out
            obtain ⟨m, hm⟩ : ∃ m, m = a + z := ⟨_, rfl⟩
            have em : (a : Int) + (z : Int) = (m : Int) := by omega
            have wm : IntKind.i64.wrap ((a : Int) + (z : Int)) = (m : Int) := by rw [IntKind.wrap_i64]; omega
            have HMm : Aside (m = a + z) := hm
            clear hwr
            by_cases hlt2 : b ≤ n
            · have hltz2 : (b : Int) ≤ (n : Int) := by omega
              have hc := symMerge_calls cf HC.out blk off cap n (b - a) a m b dj wr (Nat.le_refl _) (by omega) hHk (by omega) (by omega) (by omega) (by omega)
              obtain ⟨b2, hb2⟩ : ∃ b2, b2 = b + z2 := ⟨_, rfl⟩
              have eb : (b : Int) + (z2 : Int) = (b2 : Int) := by omega
              have wb : IntKind.i64.wrap ((b : Int) + (z2 : Int)) = (b2 : Int) := by rw [IntKind.wrap_i64]; omega
              have HB2 : Aside (b2 = b + z2) := hb2
              clear hHk hab hn hz2 hm hb2
              go_wp2_with (first | (go_at_call 102; with_reducible refine hc.mono ?_; rintro e w' ⟨rfl, q2, rfl⟩))
              go_roundg (n - b)
              case measure => have := HAB.out; have := HZ.out; omega
              case rel =>
                have hab := HAB.out
                have hz2 := HZ.out
                refine ⟨b, b2, q + q2, symM (ltOf cf) a m b dj, by go_num, by go_num, HB2.out, by omega, by omega, by rw [symM_size _ _ _ _ _ _ (Nat.le_refl _)]; exact hsj, ?_, (show Aside _ from ?_)⟩
                · rw [A.out, relay w blk off q q2 d dj _ (symM_size _ _ _ _ _ _ (Nat.le_refl _))]
                · show _ = _
                  rw [← HM.out, mrg_go _ n z a dj hz0 (by omega), HMm.out, hab, hz2]
            · have hltz2 : ¬ (b : Int) ≤ (n : Int) := by omega
              by_cases hmn : m < n
              · have hmz : (m : Int) < (n : Int) := by omega
                have hc := symMerge_calls cf HC.out blk off cap n (n - a) a m n dj wr (Nat.le_refl _) (by omega) hHk (by omega) (by omega) (by omega) (by omega)
                have HE : Aside (symM (ltOf cf) a m n dj = mrg (ltOf cf) n z 0 dk) := by
                  show _ = _
                  rw [← HM.out, mrg_one _ n z a dj (by omega) (by omega), hm]
                clear hHk hab hn hz2 hm
                go_wp2_with (first | (go_at_call 102; with_reducible refine hc.mono ?_; rintro e w' ⟨rfl, q2, rfl⟩))
                go_roundg (n - z2)
                case measure => have := HZ.out; omega
                case rel =>
                  have hz2 := HZ.out
                  refine ⟨z2, q + q2, symM (ltOf cf) a m n dj, by go_num, by omega, by omega, by rw [symM_size _ _ _ _ _ _ (Nat.le_refl _)]; exact hsj, ?_, (show Aside _ from ?_)⟩
                  · rw [A.out, relay w blk off q q2 d dj _ (symM_size _ _ _ _ _ _ (Nat.le_refl _))]
                  · show _ = _
                    rw [← HO.out, HE.out, rnds_go _ n z dk hz0 hzn, hz2]
              · have hmz : ¬ (m : Int) < (n : Int) := by omega
                have HE : Aside (dj = mrg (ltOf cf) n z 0 dk) := by
                  show _ = _
                  rw [← HM.out, mrg_end _ n z a dj (by omega) (by omega)]
                clear hHk hab hn hz2 hm
                go_wp2
                go_roundg (n - z2)
                case measure => have := HZ.out; omega
                case rel =>
                  have hz2 := HZ.out
                  refine ⟨z2, q, dj, by go_num, by omega, by omega, hsj, A.out, (show Aside _ from ?_)⟩
                  show _ = _
                  rw [← HO.out, rnds_go _ n z dk hz0 hzn, hz2, ← HE.out]
        · have hznz : ¬ (z : Int) < (n : Int) := by omega
          go_wp2
          go_end0
          refine ⟨rfl, q, ?_⟩
          rw [HD.out, ← HO.out, rnds_end _ _ _ _ hzn] <;> exact hwr
set_option maxRecDepth 1000000 in
theorem sortStable_calls (cf : Int → Int → Int) (hcmp : CmpOk cf) (blk off cap N : Nat) (d : Array Int) (w : World) (hN : d.size = N) (hH : Holds enc w blk off d) (hsz : d.size < 1152921504606846976) :
    Calls Tryd.prog 78 #[.slice (some ⟨blk, off, none⟩) N cap, .func (.func 79) #[] #[]] w fun e w' =>
      e = .returned (.tuple #[]) ∧ ∃ q, w' = (putRow enc w blk off (stab (ltOf cf) d)).drewN q := by
  have hc := stable_calls cf hcmp blk off cap N d w hN hH hsz
  clear hcmp hH
  go_enter Tryd.func78, Tryd.ntmps78
  go_wp2_with (first | (go_at_call 91; with_reducible refine hc.mono ?_; rintro e w' ⟨rfl, q2, rfl⟩))
  go_end0
  exact ⟨rfl, q2, rfl⟩
end Go.Proofs.YtnbedmihgnjdpaaDoor.Stab
/- slices.SortStableFunc of a cut of a row of the call's own: the cut stands sorted by its key, those alike in line. -/
namespace Go.Proofs.YtnbedmihgnjdpaaDoor.Stab
open Go.RowKit Go.Lib Go.Sort Go.Proofs.YtnbedmihgnjdpaaDoorW.PrintWords Go.Proofs.YtnbedmihgnjdpaaDoorW.PrintLast Go.Proofs.YtnbedmihgnjdpaaDoorW.PrintMore
def layR : List Int → Nat → List Int → List Int
  | xs, _, [] => xs
  | xs, o, y :: r => layR (xs.set o y) (o + 1) r
theorem layR_eq : ∀ (ys A u B : List Int) (o : Nat), o = A.length → u.length = ys.length → layR (A ++ u ++ B) o ys = A ++ ys ++ B
  | [], A, u, B, o, _, hu => by
    have : u = [] := List.eq_nil_of_length_eq_zero hu
    subst this; rfl
  | y :: r, A, [], B, o, _, hu => by simp at hu
  | y :: r, A, z :: u, B, o, ho, hu => by
    rw [layR]
    have e : (A ++ z :: u ++ B).set o y = A ++ [y] ++ u ++ B := by subst ho; simp
    rw [e, layR_eq r (A ++ [y]) u B (o + 1) (by simp; omega) (by simpa using hu)]
    simp
def stCut (c : Int → Int) (xs : List Int) (i m : Int) : List Int := layR xs i.toNat (srtL c ((xs.drop i.toNat).take (m.toNat - i.toNat)))
theorem stCut_eq (c : Int → Int) (A u B : List Int) (i m : Int) (hi : i = A.length) (hm : m = A.length + u.length) : stCut c (A ++ u ++ B) i m = A ++ srtL c u ++ B := by
  unfold stCut
  have h1 : i.toNat = A.length := by omega
  have h2 : m.toNat - i.toNat = u.length := by omega
  rw [h2, h1]
  have h3 : ((A ++ u ++ B).drop A.length).take u.length = u := by simp
  rw [h3]
  exact layR_eq _ _ _ _ _ rfl (srtL_length _).symm
theorem R_setCells {e base g n cap : Nat} {ok : Nat → Prop} : ∀ (ys : List Int) (o : Nat) (w : World) (xs : List Int), Kd.R (Kd.int .i64) e w base ok (.slice (some ⟨g, 0, none⟩) n cap) xs →
    Kd.R (Kd.int .i64) e (w.setCells g o (ys.map (Value.int .i64))) base ok (.slice (some ⟨g, 0, none⟩) n cap) (layR xs o ys)
  | [], _, _, _, h => h
  | y :: r, o, w, xs, h => by
    have h2 := Kd.R_putn h (o : Int) y
    rw [Int.toNat_natCast] at h2
    exact R_setCells r (o + 1) _ _ h2
theorem below_setCells {w0 : World} {g : Nat} (hg : w0.heap.size ≤ g) : ∀ (ys : List Value) (o : Nat) (w : World), Below w0.heap.size w0 w → Below w0.heap.size w0 (w.setCells g o ys)
  | [], _, _, h => h
  | y :: r, o, w, h => below_setCells hg r (o + 1) _ (below_set h hg)
theorem st_cut (c : Int → Int) (cf : Int → Int → Int) (hcmp : CmpOk cf) (hlt : Go.Proofs.ltOf cf = ltc c) (w w0 : World) (g n cap : Nat) (x : List Int) (ok : Nat → Prop) (HO : Kd.R (Kd.int .i64) 2 w w0.heap.size ok (.slice (some ⟨g, 0, none⟩) n cap) x) (hB : Below w0.heap.size w0 w) (hg : w0.heap.size ≤ g)
    (i m : Int) (hi : 0 ≤ i) (h0 : i ≤ m) (h1 : m ≤ (x.length : Int)) (hbig : (x.length : Int) ≤ 1152921504606846975) (cc : Nat) :
    Calls Tryd.prog 78 #[.slice (some ⟨g, i.toNat, none⟩) (m.toNat - i.toNat) cc, .func (.func 79) #[] #[]] w fun e w' => e = .returned (.tuple #[]) ∧ Kd.R (Kd.int .i64) 2 w' w0.heap.size ok (.slice (some ⟨g, 0, none⟩) n cap) (stCut c x i m) ∧ Below w0.heap.size w0 w' := by
  have hn := (Kd.R_reads' HO).1
  have hl : ((x.drop i.toNat).take (m.toNat - i.toNat)).length = m.toNat - i.toNat := by rw [List.length_take, List.length_drop]; omega
  have hH : Holds (Value.int .i64) w g i.toNat ((x.drop i.toNat).take (m.toNat - i.toNat)).toArray := by
    intro j hj
    have hj' : j < m.toNat - i.toNat := by
      rw [List.size_toArray, hl] at hj; exact hj
    obtain ⟨a, b⟩ := Kd.R_celln 0 HO (((i.toNat + j : Nat)) : Int) (by omega) (by omega)
    rw [Int.toNat_natCast] at a b
    refine ⟨?_, b⟩
    rw [a]
    unfold rdOf
    rw [Int.toNat_natCast]
    simp [hj', getElem!_pos, List.getD]
  have h := sortStable_calls cf hcmp g i.toNat cc (m.toNat - i.toNat) ((x.drop i.toNat).take (m.toNat - i.toNat)).toArray w (by rw [List.size_toArray, hl]) hH (by rw [List.size_toArray, hl]; omega)
  refine h.mono ?_
  rintro e w' ⟨rfl, q, rfl⟩
  have hw : (putRow enc w g i.toNat (stab (Go.Proofs.ltOf cf) ((x.drop i.toNat).take (m.toNat - i.toNat)).toArray)).drewN q = putRow (Value.int .i64) (Go.Sort.ahead w q) g i.toNat (srtL c ((x.drop i.toNat).take (m.toNat - i.toNat))).toArray := by
    rw [hlt, stab_eq]; rfl
  rw [hw, Lib.putRow_eq_setCells _ w g i.toNat _ _ q hH (by rw [srtL_length, List.size_toArray])]
  exact ⟨rfl, R_setCells _ _ _ _ (Kd.R_drewN HO q), below_setCells hg _ _ _ (pw_below_drewN hB q)⟩
end Go.Proofs.YtnbedmihgnjdpaaDoor.Stab

/- What the walks say again and again, with what is alike as a default. -/
import Derived.Test.YtmlhnpggjkoinaaDoorSlimStep
set_option linter.unusedVariables false
namespace Go.Proofs.YtmlhnpggjkoinaaDoorW.PrintLast
open Go.RowKit Go.Proofs.YtmlhnpggjkoinaaDoorW.PrintWords Go.Proofs.YtmlhnpggjkoinaaDoorW.PrintMore
variable {P : Program} {ops : Array Oper} {Q : Exit → Act → World → Prop} {a : Act} {w : World} {oi : Oper}
/-! What the walks say again and again. -/
theorem am {p : Prop} (h : p) : Aside0 p := ⟨h⟩
theorem od {p : Prop} [Decidable p] (h : decide p = true := by first | (with_reducible assumption) | assumption) : p := of_decide_eq_true h
theorem bB {n : Nat} {w1 w2 : World} (h : Below n w1 w2 := by repeat (first | (with_reducible first | exact HB.out | apply below_alloc | apply pw_below_drewN | apply below_drew1) | exact HB.out)) : Below n w1 w2 := h
theorem kR {α : Type} {d : Kd α} {e base : Nat} {ok : Nat → Prop} {v : Value} {xs : List α} {w1 w2 : World} (x : d.R e w1 base ok v xs) (hb : Below w1.heap.size w1 w2 := by with_reducible repeat (first | exact Below.refl _ _ | apply below_alloc | apply pw_below_drewN | apply below_drew1)) : d.R e w2 base ok v xs := Kd.R_below x hb
theorem bk {g : Nat} {o : Obj} {w1 w2 : World} (h : w1.heap[g]? = some o) (hb : Below w1.heap.size w1 w2 := by with_reducible repeat (first | exact Below.refl _ _ | apply below_alloc | apply pw_below_drewN | apply below_drew1)) : w2.heap[g]? = some o := blk_below h hb
theorem rdd {e1 e2 : Ending} {w1 w2 : World} (h : e1 = e2 := by first | rfl | (simp; done) | (simp [*]; done)) (h2 : Drawn0 w1 w2 := by repeat (first | exact Drawn0.refl _ | apply Drawn0.step)) : e1 = e2 ∧ Drawn0 w1 w2 := ⟨h, h2⟩
theorem gl {rest : List Oper} {f : FuncId} {as : Array Operand} {ts : Array TypeId} (N : Nat) {fn : Func} (hf : P.funcs[f]? = some fn) (args : Array Value)
    (h : Calls P f args w fun e w' => ∃ v, e = .returned v ∧ wpList P ops Q rest (a.put (some N) v) w')
    (hd : oi.dst = some N := by rfl) (hg : oi.guard = none := by rfl) (hname : (fn.name == "runtime.NumGoroutine") = false := by kernel_rfl) (hb : fn.body.isSome = true := by rfl)
    (hop : oi.op = .call { callee := .value (.func f), args := as, argTypes := ts } := by rfl) (hargs : as.map a.eval = args := by (try simp only [List.map_toArray, List.map_cons, List.map_nil]); first | done | rfl | (simp only [List.length_drop, List.length_take]; rfl)) : wpList P ops Q (oi :: rest) a w :=
  goesL_ (some N) hd hg hf hname hb args hop hargs h
theorem bS {n : Nat} {w1 w2 : World} (h : Below n w1 w2 := by repeat (first | (with_reducible first | exact HB.out | apply below_alloc | apply pw_below_drewN | apply below_drew1 | refine below_set ?_ (Aside0.out (by assumption))) | exact HB.out)) : Below n w1 w2 := h
theorem cC {α : Type} {d : Kd α} {A : Option Addr} {n : Nat} {xs : List α} {w1 w2 : World} (x : Kd.C d w1 A n xs) (hb : Below w1.heap.size w1 w2 := by with_reducible repeat (first | exact Below.refl _ _ | apply below_alloc | apply pw_below_drewN | apply below_drew1)) : Kd.C d w2 A n xs := Kd.C_below x hb
theorem rv {e1 e2 : Ending} (h : e1 = e2 := by first | rfl | (simp [errW_none, errW_some] <;> rfl) | (simp [*, errW_none, errW_some] <;> rfl)) : e1 = e2 := h
theorem bc {g : Nat} {w1 : World} {cs : Array Value} {t : TypeId} (h : w1.heap[g]? = some (.cells cs t (0, 0))) (i : Nat) (u : Value) (hv : cs[i]? = some u := by rfl) : w1.cell? ⟨g, i, none⟩ = some u := (blk_cell h i).trans hv
theorem bx {rest : List Oper} (N : Nat) (cs : Array Value) (t : TypeId) (h : ∀ g, g = w.heap.size → ∀ w1, w1.heap[g]? = some (.cells cs t (0, 0)) → Below w.heap.size w w1 → wpList P ops Q rest (a.put oi.dst (.pointer (some ⟨g, 0, none⟩))) w1)
    (hd : oi.dst = some N := by rfl) (hg : oi.guard = none := by rfl) (hr : (execOp a.eval oi).run P w = .ok (.value (.pointer (some ⟨w.heap.size, 0, none⟩))) (w.alloc (.cells cs t (0, 0))) := by first | (go_simp; done) | (go_simp; rfl)) : wpList P ops Q (oi :: rest) a w :=
  box_event hg (N := N) hd hr h
theorem iteN {α : Type} {p : Prop} [Decidable p] {a : Option α} {r : α} (h : (if p then a else none) = some r) : p ∧ a = some r := by
  by_cases c : p
  · rw [if_pos c] at h; exact ⟨c, h⟩
  · rw [if_neg c] at h; exact absurd h (by simp)
theorem bb {α β : Type} {o : Option α} {f : α → Option β} {b : β} (h : o.bind f = some b) : ∃ a, Aside0 (o = some a) ∧ f a = some b := by
  obtain ⟨a, h1, h2⟩ := Option.bind_eq_some_iff.mp h
  exact ⟨a, ⟨h1⟩, h2⟩
theorem iT {α : Type} {a b : Option α} {r : α} (h : (if true = true then a else b) = some r) : a = some r := by rwa [if_pos rfl] at h
theorem iF {α : Type} {a b : Option α} {r : α} (h : (if false = true then a else b) = some r) : b = some r := by rwa [if_neg (by decide)] at h
theorem bf {g : Nat} {o : Obj} {w1 w2 : World} (h : w1.heap[g]? = some o) (h2 : w1.heap[g]? = some o → w2.heap[g]? = some o := by intro hh; (repeat (first | (with_reducible first | refine blk_drewN ?_ _ | refine blk_drew ?_ | refine blk_alloc ?_ _) | refine blk_far ?_ (Aside0.out (by assumption)) _)); exact hh) : w2.heap[g]? = some o := h2 h
theorem nm {g g' : Nat} {o : Obj} {w2 : World} (hg : g' = w2.heap.size) (h : w2.heap[g]? = some o) : g ≠ g' := by rw [hg]; exact Nat.ne_of_lt (blk_lt h)
theorem nl {g g' : Nat} {o : Obj} {w1 w2 : World} (hg : g' = w2.heap.size) (h : w1.heap[g]? = some o) (hb : Below w1.heap.size w1 w2 := by with_reducible repeat (first | exact Below.refl _ _ | apply below_alloc | apply pw_below_drewN | apply below_drew1)) : g ≠ g' := nm hg (bk h hb)
theorem kG {α : Type} {d : Kd α} {e base : Nat} {ok : Nat → Prop} {v : Value} {xs : List α} {w1 w2 w3 : World} (x : d.R e w1 base ok v xs) (hq : w2 = w3) (hb : Below w1.heap.size w1 w2 := by with_reducible repeat (first | exact Below.refl _ _ | apply below_alloc | apply pw_below_drewN | apply below_drew1)) : d.R e w3 base ok v xs := hq ▸ kR x hb
theorem bG {g : Nat} {o : Obj} {w1 w2 w3 : World} (h : w1.heap[g]? = some o) (hq : w2 = w3) (hb : Below w1.heap.size w1 w2 := by with_reducible repeat (first | exact Below.refl _ _ | apply below_alloc | apply pw_below_drewN | apply below_drew1)) : w3.heap[g]? = some o := hq ▸ bk h hb
theorem lG {n : Nat} {w0 w1 w2 w3 : World} (_h : Below n w0 w1) (hq : w2 = w3) (h : Below n w0 w2 := by repeat (first | (with_reducible first | exact HB.out | apply below_alloc | apply pw_below_drewN | apply below_drew1 | refine below_set ?_ (Aside0.out (by assumption))) | exact HB.out)) : Below n w0 w3 := hq ▸ h
theorem gq {rest : List Oper} {f : FuncId} {as : Array Operand} {ts : Array TypeId} (N : Nat) {fn : Func} (hf : P.funcs[f]? = some fn) {args : Array Value} {v : Value} (hc : Calls P f args w fun e w' => e = .returned v ∧ Drawn0 w w')
    (h : ∀ nd, wpList P ops Q rest (a.put (some N) v) (w.drewN nd))
    (hd : oi.dst = some N := by rfl) (hg : oi.guard = none := by rfl) (hname : (fn.name == "runtime.NumGoroutine") = false := by kernel_rfl) (hb : fn.body.isSome = true := by rfl)
    (hop : oi.op = .call { callee := .value (.func f), args := as, argTypes := ts } := by rfl) (hargs : as.map a.eval = args := by (try simp only [List.map_toArray, List.map_cons, List.map_nil]); first | done | rfl | (simp only [List.length_drop, List.length_take]; rfl)) : wpList P ops Q (oi :: rest) a w :=
  gl N hf args (hc.mono fun e w' hh => by obtain ⟨rfl, nd, rfl⟩ := hh; exact ⟨_, rfl, h nd⟩) hd hg hname hb hop hargs
theorem sr {p : Prop} (h : p := by first | rfl | (simp; done) | (simp [*]; done)) : p := h
theorem dz {w1 w2 : World} (h : Drawn0 w1 w2 := by repeat (first | exact Drawn0.refl _ | apply Drawn0.step)) : Drawn0 w1 w2 := h
theorem kl {n m : Nat} (h : n ≤ m := by repeat (first | exact Nat.le_refl _ | exact Aside0.out (by assumption) | exact Nat.le_of_succ_le (Aside0.out (by assumption)) | refine Nat.le_trans (Aside0.out (by assumption)) ?_ | refine Nat.le_trans (Nat.le_of_succ_le (Aside0.out (by assumption))) ?_)) : n ≤ m := h
theorem cl {w0 w1 : World} {b : Addr} {v : Value} (hB : Aside0 (Below w0.heap.size w0 w1)) (h : w0.cell? b = some v) : w1.cell? b = some v := (hB.out.cell (World.block_lt_of_cell? w0 _ h)).trans h
end Go.Proofs.YtmlhnpggjkoinaaDoorW.PrintLast

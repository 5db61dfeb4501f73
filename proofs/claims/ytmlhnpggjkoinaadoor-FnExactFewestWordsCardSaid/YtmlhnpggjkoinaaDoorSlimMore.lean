/- What the walks say again and again, with what is alike as a default. -/
import Derived.Test.YtmlhnpggjkoinaaDoorSlimStep
set_option linter.unusedVariables false
namespace Go.Proofs.YtmlhnpggjkoinaaDoorW.PrintLast
open Go.RowKit Go.Proofs.YtmlhnpggjkoinaaDoorW.PrintWords Go.Proofs.YtmlhnpggjkoinaaDoorW.PrintMore
variable {P : Program} {ops : Array Oper} {Q : Exit → Act → World → Prop} {a : Act} {w : World} {oi : Oper}
/-! What the walks say again and again. -/
theorem am {p : Prop} (h : p) : Aside0 p := ⟨h⟩
theorem od {p : Prop} [Decidable p] (h : decide p = true := by first | (with_reducible assumption) | assumption) : p := of_decide_eq_true h
theorem bB {n : Nat} {w1 w2 : World} (h : Below n w1 w2 := by repeat (first | (with_reducible first | exact HB.out | apply below_alloc | apply pw_below_drewN | apply below_drew1) | exact HB.out)) : Below n w1 w2 := h
theorem kR {α : Type} {d : Kd α} {e base : Nat} {ok : Nat → Prop} {v : Value} {xs : List α} {w1 w2 : World} (x : d.R e w1 base ok v xs) (hb : Below w1.heap.size w1 w2 := by with_reducible repeat (first | exact Below.refl _ _ | apply below_alloc | apply pw_below_drewN | apply below_drew1)) : d.R e w2 base ok v xs := Kd.R_below x hb
theorem bk {g : Nat} {o : Obj} {w1 w2 : World} (h : w1.heap[g]? = some o) (hb : Below w1.heap.size w1 w2 := by with_reducible repeat (first | exact Below.refl _ _ | apply below_alloc | apply pw_below_drewN | apply below_drew1)) : w2.heap[g]? = some o := blk_below h hb
theorem rdd {e1 e2 : Ending} {w1 w2 : World} (h : e1 = e2 := by first | rfl | (simp; done) | (simp [*]; done)) (h2 : Drawn0 w1 w2 := by repeat (first | exact Drawn0.refl _ | apply Drawn0.step)) : e1 = e2 ∧ Drawn0 w1 w2 := ⟨h, h2⟩
theorem gl {rest : List Oper} {f : FuncId} {as : Array Operand} {ts : Array TypeId} (N : Nat) {fn : Func} (hf : P.funcs[f]? = some fn) (args : Array Value)
    (h : Calls P f args w fun e w' => ∃ v, e = .returned v ∧ wpList P ops Q rest (a.put (some N) v) w')
    (hd : oi.dst = some N := by rfl) (hg : oi.guard = none := by rfl) (hname : (fn.name == "runtime.NumGoroutine") = false := by kernel_rfl) (hb : fn.body.isSome = true := by rfl)
    (hop : oi.op = .call { callee := .value (.func f), args := as, argTypes := ts } := by rfl) (hargs : as.map a.eval = args := by (try simp only [List.map_toArray, List.map_cons, List.map_nil]); first | done | rfl | (simp only [List.length_drop, List.length_take]; rfl)) : wpList P ops Q (oi :: rest) a w :=
  goesL_ (some N) hd hg hf hname hb args hop hargs h
theorem bS {n : Nat} {w1 w2 : World} (h : Below n w1 w2 := by repeat (first | (with_reducible first | exact HB.out | apply below_alloc | apply pw_below_drewN | apply below_drew1 | refine below_set ?_ (Aside0.out (by assumption))) | exact HB.out)) : Below n w1 w2 := h
theorem cC {α : Type} {d : Kd α} {A : Option Addr} {n : Nat} {xs : List α} {w1 w2 : World} (x : Kd.C d w1 A n xs) (hb : Below w1.heap.size w1 w2 := by with_reducible repeat (first | exact Below.refl _ _ | apply below_alloc | apply pw_below_drewN | apply below_drew1)) : Kd.C d w2 A n xs := Kd.C_below x hb
theorem rv {e1 e2 : Ending} (h : e1 = e2 := by first | rfl | (simp [errW_none, errW_some] <;> rfl) | (simp [*, errW_none, errW_some] <;> rfl)) : e1 = e2 := h
theorem bc {g : Nat} {w1 : World} {cs : Array Value} {t : TypeId} (h : w1.heap[g]? = some (.cells cs t (0, 0))) (i : Nat) (u : Value) (hv : cs[i]? = some u := by rfl) : w1.cell? ⟨g, i, none⟩ = some u := (blk_cell h i).trans hv
theorem bx {rest : List Oper} (N : Nat) (cs : Array Value) (t : TypeId) (h : ∀ g, g = w.heap.size → ∀ w1, w1.heap[g]? = some (.cells cs t (0, 0)) → Below w.heap.size w w1 → wpList P ops Q rest (a.put oi.dst (.pointer (some ⟨g, 0, none⟩))) w1)
    (hd : oi.dst = some N := by rfl) (hg : oi.guard = none := by rfl) (hr : (execOp a.eval oi).run P w = .ok (.value (.pointer (some ⟨w.heap.size, 0, none⟩))) (w.alloc (.cells cs t (0, 0))) := by first | (go_simp; done) | (go_simp; rfl)) : wpList P ops Q (oi :: rest) a w :=
  box_event hg (N := N) hd hr h
end Go.Proofs.YtmlhnpggjkoinaaDoorW.PrintLast

/- The byte order as a value: an interface over one of two empty structs; a method that is called on it. -/
import Derived.Test.YtdagmhbockeleaaDoorProg
import Derived.Test.YtdagmhbockeleaaDoorWMore
import Derived.Test.YtdagmhbockeleaaDoorWLast
set_option linter.unusedSimpArgs false
set_option linter.unusedVariables false
namespace Go.Proofs.YtdagmhbockeleaaDoor.EncW
open Go.RowKit Go.Proofs.YtdagmhbockeleaaDoorW.PrintWords Go.Proofs.YtdagmhbockeleaaDoorW.PrintLast Go.Proofs.YtdagmhbockeleaaDoorW.PrintMore
def ordV (o : Bool) : Value := if o = true then .iface 62 (.agg #[]) else .iface 63 (.agg #[])
def fn16 (o : Bool) : FuncId := if o = true then 60 else 65
def fn32 (o : Bool) : FuncId := if o = true then 61 else 66
theorem meth16 (o : Bool) (x y : Value) (w : World) : (callMethod (ordV o) "AppendUint16" #[x, y]).run Tryd.prog w = .ok (.enter (fn16 o) #[.agg #[], x, y]) w := by
  cases o
  · have hm : (method (Tryd.prog.types.size + Made.depth) 63 (.agg #[]) "AppendUint16").run Tryd.prog w = .ok (65, .agg #[]) w := by kernel_rfl
    have he := enters_ Tryd.func65 (by kernel_rfl) rfl #[.agg #[], x, y] w
    simp at hm
    simp [callMethod, ordV, fn16, hm, he]
  · have hm : (method (Tryd.prog.types.size + Made.depth) 62 (.agg #[]) "AppendUint16").run Tryd.prog w = .ok (60, .agg #[]) w := by kernel_rfl
    have he := enters_ Tryd.func60 (by kernel_rfl) rfl #[.agg #[], x, y] w
    simp at hm
    simp [callMethod, ordV, fn16, hm, he]
theorem meth32 (o : Bool) (x y : Value) (w : World) : (callMethod (ordV o) "AppendUint32" #[x, y]).run Tryd.prog w = .ok (.enter (fn32 o) #[.agg #[], x, y]) w := by
  cases o
  · have hm : (method (Tryd.prog.types.size + Made.depth) 63 (.agg #[]) "AppendUint32").run Tryd.prog w = .ok (66, .agg #[]) w := by kernel_rfl
    have he := enters_ Tryd.func66 (by kernel_rfl) rfl #[.agg #[], x, y] w
    simp at hm
    simp [callMethod, ordV, fn32, hm, he]
  · have hm : (method (Tryd.prog.types.size + Made.depth) 62 (.agg #[]) "AppendUint32").run Tryd.prog w = .ok (61, .agg #[]) w := by kernel_rfl
    have he := enters_ Tryd.func61 (by kernel_rfl) rfl #[.agg #[], x, y] w
    simp at hm
    simp [callMethod, ordV, fn32, hm, he]
/-- The method's value is looked at: it is none of nil. -/
theorem run_nil {o : Bool} {oi : Oper} {ρ : Operand → Value} {x : Operand} (hop : oi.op = .nilCheck x) (hx : ρ x = .func (.method "AppendUint16") #[ordV o] #[]) (w : World) : (execOp ρ oi).run Tryd.prog w = .ok (.value (.func (.method "AppendUint16") #[ordV o] #[])) w := by
  unfold execOp
  cases o
  · have hm : (nilAhead (Tryd.prog.types.size + Made.depth) 63 (.agg #[]) "AppendUint16").run Tryd.prog w = .ok (some false) w := by kernel_rfl
    simp at hm
    simp [hop, hx, ordV, hm]
  · have hm : (nilAhead (Tryd.prog.types.size + Made.depth) 62 (.agg #[]) "AppendUint16").run Tryd.prog w = .ok (some false) w := by kernel_rfl
    simp at hm
    simp [hop, hx, ordV, hm]
section
variable {P : Program} {ops : Array Oper} {rest : List Oper} {oi : Oper} {a : Act} {Q : Exit → Act → World → Prop} {w : World} {rv x y : Value} {rc : Operand} {m : String} {xs : Array Operand} {ts : Array TypeId} {f : FuncId} {args : Array Value}
theorem gate_invoke (_ho : oi.op = .call { callee := .invoke rc m, args := xs, argTypes := ts }) (h : wpList P ops Q (oi :: rest) a w) : wpList P ops Q (oi :: rest) a w := h
theorem run_invoke (hop : oi.op = .call { callee := .invoke rc m, args := xs, argTypes := ts }) (hrv : a.eval rc = rv) (hargs : xs.map a.eval = #[x, y]) (hm : (callMethod rv m #[x, y]).run P w = .ok (.enter f args) w) : (execOp a.eval oi).run P w = .ok (.enter f args) w := by
  have e : ((#[rv] ++ #[x, y] : Array Value)).extract 1 (#[rv] ++ #[x, y] : Array Value).size = #[x, y] := rfl
  unfold execOp
  simp [hop, resolve, invoke, hrv, hargs]
  exact hm
/-- A method called on an interface value, in a plain region. -/
theorem goesI_ (N : Option Tmp) (hd : oi.dst = N) (hg : oi.guard = none) (hop : oi.op = .call { callee := .invoke rc m, args := xs, argTypes := ts }) (hrv : a.eval rc = rv) (hargs : xs.map a.eval = #[x, y]) (hm : (callMethod rv m #[x, y]).run P w = .ok (.enter f args) w)
    (h : Calls P f args w fun e w' => ∃ v, e = .returned v ∧ wpList P ops Q rest (a.put N v) w') : wpList P ops Q (oi :: rest) a w := by
  refine wpList_plain hg fun K hK => ?_
  unfold Oper.wp
  rw [run_invoke hop hrv hargs hm, Oper.upon_enter]
  refine h.mono fun e w'' hh => ?_
  obtain ⟨v, rfl, hk⟩ := hh
  subst hd
  exact hK _ _ hk
end
end Go.Proofs.YtdagmhbockeleaaDoor.EncW

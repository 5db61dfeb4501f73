/- A function literal that is called where it was made: its captured variables' addresses are its arguments. -/
import Derived.Test.YtmlhnpggjkoinaaDoorProg
import Derived.Test.YtmlhnpggjkoinaaDoorVWG
set_option linter.unusedSimpArgs false
set_option linter.unusedVariables false
namespace Go.Proofs.YtmlhnpggjkoinaaDoor.ClosW
open Go.RowKit Go.Proofs.YtmlhnpggjkoinaaDoorW.PrintWords Go.Proofs.YtmlhnpggjkoinaaDoorW.PrintLast Go.Proofs.YtmlhnpggjkoinaaDoorW.PrintMore
theorem run_closure {P : Program} {f : FuncId} {fn : Func} {oi : Oper} {a : Act} {x : Operand} {xs : Array Operand} {ts : Array TypeId} {caps : Array Value} (hf : P.funcs[f]? = some fn) (hname : (fn.name == "runtime.NumGoroutine") = false) (hb : fn.body.isSome = true)
    (hop : oi.op = .call { callee := .value x, args := xs, argTypes := ts }) (hx : a.eval x = .func (.func f) #[] caps) (hargs : xs.map a.eval = #[]) (w : World) : (execOp a.eval oi).run P w = .ok (.enter f caps) w := by
  have he := enters_ hf hname hb caps w
  unfold execOp
  simp [hop, resolve, Deferred.ofValue, invoke, hx, hargs, he]
end Go.Proofs.YtmlhnpggjkoinaaDoor.ClosW

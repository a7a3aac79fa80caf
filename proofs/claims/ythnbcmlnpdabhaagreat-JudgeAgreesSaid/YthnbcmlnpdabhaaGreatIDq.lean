/-
  Layer 21, the reference (setup): Bits, Holds, names; what Resolv makes of the servers.
-/
import Derived.Test.YthnbcmlnpdabhaaGreatICq
namespace Go.Proofs.YthnbcmlnpdabhaaGreat
open _root_.Go.Proofs.Tryz
open Go.RowKit
set_option maxRecDepth 100000
set_option linter.unusedVariables false
set_option linter.unusedSimpArgs false
theorem yf {P : Program} {w w' : World} {o : Oper} {a : Act} {t : TypeId} {cs : List Value} {v : Value} (x : Operand) (ho : o.op = .buildSlice t 1 #[(0, x)]) (hx : a.eval x = .agg cs.toArray) (hr : (Instr.buildSlice t 1 #[(0, .agg cs.toArray)]).run P w = .ok v w') : (execOp a.eval o).run P w = .ok (.value v) w' := by
 exact kD
theorem yg {P : Program} {w w' : World} {v v' x : Value} {t ty : TypeId} {o : Oper} {a : Act} (sl y : Operand) (ho : o.op = .call { callee := .builtin .append, args := #[sl, y], argTypes := #[t, t] }) (hty : o.type = ty) (hs : a.eval sl = v) (hy : a.eval y = x)
  (hr : (Builtin.append_ #[t, t] ty #[v, x]).run P w = .ok v' w') : (execOp a.eval o).run P w = .ok (.value v') w' := by
 exact kq
end Go.Proofs.YthnbcmlnpdabhaaGreat

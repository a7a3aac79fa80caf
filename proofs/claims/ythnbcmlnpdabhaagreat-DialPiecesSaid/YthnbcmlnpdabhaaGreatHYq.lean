/-
  Layer 28, the reference: a dial in memory; out, Hang.
-/
import Derived.Test.YthnbcmlnpdabhaaGreatHXq
import Derived.Test.YthnbcmlnpdabhaaGreatMt7q
namespace Go.Proofs.YthnbcmlnpdabhaaGreat
open _root_.Go.Proofs.Tryz
open Go.RowKit
set_option maxRecDepth 100000
set_option linter.unusedVariables false
set_option linter.unusedSimpArgs false
def Dl.oc (d : Dl) : Prop := d.st = 0 → errP d.y = 0 ∧ d.oct = putB 2 (octP d.y).length ++ octP d.y
section
variable {vn : Value} {d : Dl} {ds : List Value} (h : d.y.sv.ip.length = 16)
include h
end
theorem exec_ixS {ba oa k n c : Nat} {o : Oper} {a : Act} (x y : Operand) (ho : o.op = .indexAddr 25 x y) (hx : a.eval x = .slice (some ⟨ba, oa, none⟩) n c) (hy : a.eval y = .int .i64 k) (hk : k < n) (w : World) : (execOp a.eval o).run prog w = .ok (.value (.pointer (some ⟨ba, oa + k, none⟩))) w := by
 have h1 : (k : Int) < n := by omega
 have hr : (Instr.indexAt 25 (.slice (some ⟨ba, oa, none⟩) n c) (.int .i64 k)).run prog w = .ok (.pointer (some ⟨ba, oa + k, none⟩)) w := by
  obtain ⟨i, hi, _, hsize, _⟩ := info_parts strInfo
  simp [Instr.indexAt, run_underlying underlying25, asIntOf, sizeOf, typeInfo, hi, hsize, h1, Addr.add]
  rw [if_pos hk]
  by_cases h0 : k = 0
  ·
   subst h0; simp
  ·
   rw [if_neg h0]
 unfold execOp
 simp only [ho, hx, hy, Sem.run_bind, hr, Result.andThen_ok, Sem.run_pure]
end Go.Proofs.YthnbcmlnpdabhaaGreat

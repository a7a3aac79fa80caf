/-
  An octet of a text, as the walk reads it.
-/
import Derived.Test.YtlmgdogblbigpaaTxt
namespace Go.Proofs.Ytlmgdogblbigpaa
open Go.RowKit

theorem run_idx (m : List UInt8) (i c : Nat) (h : i < m.length) (hc : c = (m.getD i 0).toNat) (w : World) : (Instr.index 9 (.string (bs m)) (.int .i64 (i : Int))).run Try.prog w = .ok (.int .u8 (c : Int)) w := by
  have e : m[i].toNat = c := by rw [hc]; simp [List.getD, List.getElem?_eq_getElem h]
  rw [run_index_string w _ _ _ _ Try.underlying9, dif_pos ⟨Int.natCast_nonneg _, by rw [bs_size]; omega⟩]
  have e2 : ((bs m)[((i : Int)).toNat]'(by rw [bs_size]; simpa using h)).toNat = c := by rw [bs_get]; simpa using e
  rw [e2]
end Go.Proofs.Ytlmgdogblbigpaa

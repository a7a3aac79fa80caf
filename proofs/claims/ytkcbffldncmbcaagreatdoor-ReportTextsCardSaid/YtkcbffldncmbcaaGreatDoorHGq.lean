/-
  Layer 14 (message): the reader: take, num, check, name.
-/
import Derived.Test.YtkcbffldncmbcaaGreatDoorHAq
import Derived.Great.BuildSlice
namespace Go.Proofs.YtkcbffldncmbcaaGreatDoor
open _root_.Go.Proofs.Tryz
open Go.RowKit
set_option maxRecDepth 100000
set_option linter.unusedVariables false
set_option linter.unusedSimpArgs false
theorem fold_set (place : Nat) : ∀ (cs : List Value) (k : Nat) (base : List Value), k + cs.length ≤ base.length →
  (cs.zipIdx k).foldl (fun (b : List Value) x => b.set (0 + x.2) x.1) base = base.take k ++ cs ++ base.drop (k + cs.length)
 | [], k, base, h => by simp
 | c :: cs, k, base, h => by
  have hk : k < base.length := by simp at h; omega
  rw [List.zipIdx_cons, List.foldl_cons, Nat.zero_add, fold_set place cs (k + 1) (base.set k c) (by simp at h ⊢; omega)]
  have e1 : (base.set k c).take (k + 1) = base.take k ++ [c] := by
   rw [List.take_succ_eq_append_getElem (by simpa using hk)]
   simp [List.take_set]
   exact List.set_eq_of_length_le (by simp; omega)
  have e2 : (base.set k c).drop (k + 1 + cs.length) = base.drop (k + 1 + cs.length) := List.drop_set_of_lt (by omega)
  rw [e1, e2]
  simp [Nat.add_assoc, Nat.add_comm 1]
theorem fold_arr (cs : List (Value × Nat)) : ∀ (base : List Value), (cs.foldl (fun (b : Array Value) x => b.setIfInBounds (0 + x.2) x.1) base.toArray) = (cs.foldl (fun (b : List Value) x => b.set (0 + x.2) x.1) base).toArray := by
 induction cs with
 | nil => intro base; rfl
 | cons c cs ih => intro base; rw [List.foldl_cons, List.foldl_cons, List.setIfInBounds_toArray, ih]
theorem fill_one (n : Nat) (base : List Value) (cs : List Value) (h1 : cs.length = n) (h2 : base.length = n) : Instr.fill (fun i => some (i * n, n)) base.toArray [(0, .agg cs.toArray)] = some cs.toArray := by
 have hc : (Value.agg cs.toArray).cells = cs.toArray := rfl
 unfold Instr.fill
 simp only [Nat.zero_mul, hc, List.size_toArray, h1, h2]
 rw [if_neg (by simp)]
 unfold Instr.fill
 have e : (cs.toArray.zipIdx.foldl (fun (b : Array Value) x => b.setIfInBounds (0 + x.2) x.1) base.toArray) = cs.toArray := by
  rw [← Array.foldl_toList, Array.toList_zipIdx, List.toList_toArray, fold_arr, fold_set 0 cs 0 base (by omega)]
  rw [List.take_zero, List.nil_append, List.drop_of_length_le (by omega), List.append_nil]
 exact congrArg some e
end Go.Proofs.YtkcbffldncmbcaaGreatDoor

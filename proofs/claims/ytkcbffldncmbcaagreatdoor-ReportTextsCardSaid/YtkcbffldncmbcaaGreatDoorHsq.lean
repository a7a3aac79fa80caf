/-
  Drawn regions: a row of operations that reckon, or read what stays, taken in one step.
-/
import Derived.Test.YtkcbffldncmbcaaGreatDoorGBq
namespace Go.Proofs.YtkcbffldncmbcaaGreatDoor
open _root_.Go.Proofs.Tryz
open Go.RowKit
set_option linter.unusedVariables false
set_option linter.unusedSimpArgs false
section
variable {P : Program} {ops : Array Oper} {S : World → Prop} {Q : Exit → Act → World → Prop}
def seqB (ops : Array Oper) : List Nat → Array Bool → Bool
 | [], _ => true
 | i :: is, li => (Region.free .any ops li i && (Region.ready .any ops li).contains i) && seqB ops is (li.setIfInBounds i true)
def seqL : List Nat → Array Bool → Array Bool
 | [], li => li
 | i :: is, li => seqL is (li.setIfInBounds i true)
def getO : List Oper → Nat → Option Oper
 | [], _ => none
 | o :: _, 0 => some o
 | _ :: l, i + 1 => getO l i
theorem getO_eq : ∀ (l : List Oper) (i : Nat), getO l i = l[i]?
 | [], _ => rfl
 | _ :: _, 0 => rfl
 | _ :: l, i + 1 => by rw [List.getElem?_cons_succ]; exact getO_eq l i
def SeqC (P : Program) (ops : Array Oper) (S : World → Prop) (K : Act → Prop) : List Nat → Act → Prop
 | [], a => K a
 | i :: is, a => ∃ o v, getO ops.toList i = some o ∧ (Region.wanted o (yielded ops a.tmps) = true ∧ (∀ w, S w → (execOp a.eval o).run P w = .ok (.value v) w) ∨ Region.wanted o (yielded ops a.tmps) = false ∧ v = undef) ∧ SeqC P ops S K is (a.put o.dst v)
theorem held_seq0 (hs : Region.noSelect ops = true) (hQ : ∀ c a d v w, Q (.panic c) (Act.put a (some d) v) w → Q (.panic c) a w) {w : World} (hS : S w) : ∀ (is : List Nat) (li : Array Bool) (a : Act) (fuel : Nat), seqB ops is li = true → SeqC P ops S (fun a' => wpAnyH P .any ops Q S fuel (seqL is li) a' w) is a → wpAnyH P .any ops Q S (fuel + is.length) li a w
 | [], li, a, fuel, _, h => h
 | i :: is, li, a, fuel, hb, hr => by
  obtain ⟨o, v, ho, hv, hr⟩ := hr
  rw [getO_eq, Array.getElem?_toList] at ho
  unfold seqB at hb
  simp only [Bool.and_eq_true] at hb
  have k := held_seq0 hs hQ hS is (li.setIfInBounds i true) (a.put o.dst v) fuel hb.2 hr
  exact wpAnyH_take ho hs hb.1.1 hb.1.2 (fun c a w hq => by
   cases hd : o.dst with
   | none => rw [hd] at hq; exact hq
   | some d => rw [hd] at hq; exact hQ c a _ _ w hq) hv hS k
theorem held_seq {w : World} (hS : S w) (n : Nat) (is : List Nat) {li li' : Array Bool} {a : Act} {fuel fuel' : Nat} (hn : is.length = n) (hb : (Region.noSelect ops && seqB ops is li) = true) (hQ : ∀ c a d v w, Q (.panic c) (Act.put a (some d) v) w → Q (.panic c) a w) (hf : fuel = fuel' + n) (hl : seqL is li = li')
  (hr : SeqC P ops S (fun a' => wpAnyH P .any ops Q S fuel' li' a' w) is a) : wpAnyH P .any ops Q S fuel li a w := by
 subst hn hf hl
 rw [Bool.and_eq_true] at hb
 exact held_seq0 hb.1 hQ hS is li a fuel' hb.2 hr
theorem exec_ld {a : Act} {o : Oper} (ty : TypeId) (x : Operand) (p : Addr) {v : Value} {w : World} (ho : o.op = .load ty x) (hx : a.eval x = .pointer (some p)) (hv : (Instr.loadAt ty (.pointer (some p))).run P w = .ok v w) : (execOp a.eval o).run P w = .ok (.value v) w := by
 unfold execOp
 simp only [ho, hx, Sem.run_bind, hv, Result.andThen_ok, Sem.run_pure]
end
theorem run_ixK {t e : TypeId} {sz ba oa k n c : Nat} (ht : prog.underlying t = some (.slice e)) (hs : (prog.info? e).map (·.size) = some sz) (hz : 0 < sz) (hk : k < n) (w : World) : (Instr.indexAt t (.slice (some ⟨ba, oa, none⟩) n c) (.int .i64 k)).run prog w = .ok (.pointer (some ⟨ba, oa + k * sz, none⟩)) w := by
 have h1 : (k : Int) < n := by omega
 obtain ⟨i, hi, hsize⟩ := Option.map_eq_some_iff.1 hs
 simp [Instr.indexAt, run_underlying ht, asIntOf, sizeOf, typeInfo, hi, hsize, h1, Addr.add]
 rw [if_pos hk]
 by_cases h0 : k * sz = 0
 ·
  rw [if_pos h0, h0]; rfl
 ·
  rw [if_neg h0]
theorem exec_ixK {t e : TypeId} {sz ba oa k n c : Nat} {o : Oper} {a : Act} (ht : prog.underlying t = some (.slice e)) (hs : (prog.info? e).map (·.size) = some sz) (hz : 0 < sz) (x y : Operand) (ho : o.op = .indexAddr t x y) (hx : a.eval x = .slice (some ⟨ba, oa, none⟩) n c) (hy : a.eval y = .int .i64 k) (hk : k < n) (w : World) : (execOp a.eval o).run prog w = .ok (.value (.pointer (some ⟨ba, oa + k * sz, none⟩))) w := by
 have hr := run_ixK (ba := ba) (oa := oa) (c := c) ht hs hz hk w
 unfold execOp
 simp only [ho, hx, hy, Sem.run_bind, hr, Result.andThen_ok, Sem.run_pure]
theorem rangeK_loads {w : World} {b o : Nat} {sub : List Value} {ty : TypeId} {d : TypeDesc} (h : w.rangeAt b o sub) (hu : prog.underlying ty = some d) (hd : d.isRow = true) (hi : (prog.info? ty).map (·.size) = some sub.length) : (Instr.loadAt ty (.pointer (some ⟨b, o, none⟩))).run prog w = .ok (.agg sub.toArray) w := run_loadAt_mid w b o ty sub d h hu hd hi
end Go.Proofs.YtkcbffldncmbcaaGreatDoor

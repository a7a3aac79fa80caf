/-
  Layer 14 (message): lists of questions: of one, with one more.
-/
import Derived.Test.YtlmgdogblbigpaaMr3
namespace Go.Proofs.Ytlmgdogblbigpaa
open Go.RowKit
set_option maxRecDepth 100000
set_option linter.unusedVariables false
set_option linter.unusedSimpArgs false

theorem qInfo3 : (Try.prog.info? 61).map (fun i => (i.zero, i.size, i.bytes)) = some (some (.agg qZ.toArray), 3, 40) := by kernel_rfl
theorem run_bsQ (w : World) (cs : List Value) (hl : cs.length = 3) : (Instr.buildSlice 49 1 #[(0, .agg cs.toArray)]).run Try.prog w = .ok (.slice (some ⟨w.heap.size, 0, none⟩) 1 1) (w.alloc (.cells cs.toArray 61)) := by
  obtain ⟨i, hi, hz, hsize, hby⟩ := info_parts qInfo3
  refine run_buildSlice w 49 61 1 _ cs.toArray i _ Try.underlying49 hi hz (by rw [hsize]; decide) (by rw [hsize]; decide) ?_
  rw [hsize]
  have := fill_one 3 ((Array.range (1 * 3)).map ((Value.agg qZ.toArray).cells[· % (Value.agg qZ.toArray).cells.size]!)).toList cs hl (by simp)
  rw [Array.toArray_toList] at this
  exact this
theorem run_appQ (w : World) (ty : TypeId) (B : Nat) (v : Value) (n : Nat) (xs : List Value) (hown : w.ownsRow B 61 3 v n xs) (hB : B ≤ w.heap.size) (b c : Nat) (news : List Value) (hr : w.rangeAt b 0 news) (hl : news.length = 3) (h1 : ∀ u ∈ news, u.oneCell' = true) (hb : n ≤ 300000) :
    ∃ v' w', (Builtin.append_ #[49, 49] ty #[v, .slice (some ⟨b, 0, none⟩) 1 c]).run Try.prog w = .ok v' w' ∧ w'.ownsRow B 61 3 v' (n + 1) (xs ++ news) ∧ w.grownBy w' v.ownBlock := by
  obtain ⟨i, hi, hz, hsize, hby⟩ := info_parts qInfo3
  obtain ⟨v', w', hr, h2, h3, _, h5⟩ := run_append_own_at (P := Try.prog) w B 49 ty 61 i _ 3 40 Try.underlying49 hi hz hsize hby rfl (by omega) v n xs hown ⟨b, 0, none⟩ 1 c news (by omega) (fun j u hu => by
    have hadd : (⟨b, 0, none⟩ : Addr).add j = ⟨b, 0 + j, none⟩ := by unfold Addr.add; split <;> simp_all
    rw [hadd]; exact hr j u hu) h1 (by simp only [maxLen]; omega) (by omega) hB
  exact ⟨v', w', hr, h2, h3⟩
/-- append of a list of questions, as it is run. -/
theorem exec_appQ {w w' : World} {v v' x : Value} {ty : TypeId} {o : Oper} {a : Act} (sl y : Operand) (ho : o.op = .call { callee := .builtin .append, args := #[sl, y], argTypes := #[49, 49] }) (hty : o.type = ty) (hs : a.eval sl = v) (hy : a.eval y = x)
    (hr : (Builtin.append_ #[49, 49] ty #[v, x]).run Try.prog w = .ok v' w') : (execOp a.eval o).run Try.prog w = .ok (.value v') w' := by
  subst hty
  unfold execOp
  simp only [ho, resolve, invoke, builtin, Sem.run_bind, Sem.run_pure, Result.andThen_ok, List.map_toArray, List.map_cons, List.map_nil, hs, hy, hr]
theorem exec_bsQ {w w' : World} {v v' : Value} {o : Oper} {a : Act} (x : Operand) (ho : o.op = .buildSlice 49 1 #[(0, x)]) (hx : a.eval x = v) (hr : (Instr.buildSlice 49 1 #[(0, v)]).run Try.prog w = .ok v' w') : (execOp a.eval o).run Try.prog w = .ok (.value v') w' := by
  unfold execOp
  simp only [ho, Sem.run_bind, Sem.run_pure, Result.andThen_ok, List.map_toArray, List.map_cons, List.map_nil, hx, hr]
theorem QsOwn.app {w1 w2 : World} {B : Nat} {v' : Value} {l : List Qn} {cs : List Value} {r : Qn} {css : List (List Value)} (h : Each (Qown w1) css l) (hr : Qown w1 cs r) (hs : Stays w1 w2) (ho : w2.ownsRow B 61 3 v' (l.length + 1) (css.flatten ++ cs)) : QsOwn w2 B v' (l ++ [r]) := by
  refine ⟨css ++ [cs], ?_, (h.app1 hr).mono (fun _ _ x => x.stays hs)⟩
  simpa using ho
end Go.Proofs.Ytlmgdogblbigpaa

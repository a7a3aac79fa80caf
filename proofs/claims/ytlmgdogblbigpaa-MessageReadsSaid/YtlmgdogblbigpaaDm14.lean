/-
  Layer 14, the laws' own: what Decode leaves.
-/
import Derived.Test.YtlmgdogblbigpaaMr7
import Derived.Test.YtlmgdogblbigpaaSme2
namespace Go.Proofs.Ytlmgdogblbigpaa
open Go.RowKit
set_option maxRecDepth 100000
set_option linter.unusedVariables false
set_option linter.unusedSimpArgs false

/-- The load of a struct, guarded or not. -/
theorem wpList_ldG {P : Program} {ops : Array Oper} {rest : List Oper} {op : Oper} {a : Act} {w : World} {Q : Exit → Act → World → Prop} (ty : TypeId) (x : Operand) (ho : op.op = .load ty x) (hw : Region.wanted op (yielded ops a.tmps) = true)
    (g o : Nat) (hx : a.eval x = .pointer (some ⟨g, o, none⟩)) {t : TypeId} {L : List Value} (hb : Blk w g t L) (n : Nat) (hn : o + n ≤ L.length) (d : TypeDesc)
    (hu : P.underlying ty = some d) (hd : d.isRow = true) (hi : (P.info? ty).map (·.size) = some n) (sub : List Value) (hsub : (L.drop o).take n = sub)
    (h : wpList P ops Q rest (a.put op.dst (.agg sub.toArray)) w) : wpList P ops Q (op :: rest) a w := by
  have hr := hb.loads (P := P) ty o n hn d hu hd hi sub hsub
  unfold wpList
  rw [if_pos hw]
  left
  unfold Oper.wp execOp
  simp only [ho, hx, Sem.run_bind, hr, Result.andThen_ok, Sem.run_pure]
  exact h
theorem msgZ_len : msgZ.length = 14 := rfl
theorem MsgOwn.len {w : World} {cs : List Value} {m : Msg} (h : MsgOwn w cs m) : cs.length = 14 := by obtain ⟨vq, va, vu, ve, rfl, _⟩ := h; rfl
theorem MsgOwn.one {w : World} {cs : List Value} {m : Msg} (h : MsgOwn w cs m) : ∀ v ∈ cs, v.oneCell' = true := by
  obtain ⟨vq, va, vu, ve, rfl, h1, h2, h3, h4, _⟩ := h
  obtain ⟨_, _, rfl⟩ := h1.form
  obtain ⟨_, _, rfl⟩ := h2.form
  obtain ⟨_, _, rfl⟩ := h3.form
  obtain ⟨_, _, rfl⟩ := h4.form
  exact msgC_one _ rfl rfl rfl rfl
/-- What Decode leaves, in one form. -/
def DecOne (o : Except Int Msg) (w : World) (e : Ending) (w' : World) : Prop :=
  ∃ ds mm x, e = .returned (.tuple #[.agg ds.toArray, .int .i64 x]) ∧ MsgOwn w' ds mm ∧ Below w.heap.size w w' ∧ ((x = 0 ∧ o = .ok mm) ∨ (x ≠ 0 ∧ o = .error x ∧ mm = Msg.zero))
theorem dec_one {o : Except Int Msg} {w : World} {e : Ending} {w' : World} (h : DecRet o w e w') : DecOne o w e w' := by
  cases o with
  | error x => obtain ⟨h1, h2, h3⟩ := h; exact ⟨msgZ, Msg.zero, x, h2, MsgOwn.zero w', h3, .inr ⟨h1, rfl, rfl⟩⟩
  | ok m => obtain ⟨cs, h2, h3, h4⟩ := h; exact ⟨cs, m, 0, h2, h3, h4, .inl ⟨rfl, rfl⟩⟩
theorem mdecode_one (m : List UInt8) (w : World) (hl : m.length ≤ maxLen) : Calls Try.prog 54 #[.string (bs m)] w (DecOne (decM m) w) := (mdecode_any m w hl).mono fun _ _ h => dec_one h
/-- .. where it is a message. -/
def DecGood (m : Msg) (w : World) (e : Ending) (w' : World) : Prop := ∃ ds, e = .returned (.tuple #[.agg ds.toArray, .int .i64 0]) ∧ MsgOwn w' ds m ∧ Below w.heap.size w w'
theorem mdecode_good {s : List UInt8} {m : Msg} (h : decM s = .ok m) (w : World) (hl : s.length ≤ maxLen) : Calls Try.prog 54 #[.string (bs s)] w (DecGood m w) := by
  have := mdecode_any s w hl
  rw [h] at this
  exact this
theorem same_own {w : World} {ds cs : List Value} {m m' : Msg} {Aq Aa Au Ae : Option Addr} {cq ca cu ce : Nat} (h : MsgOwn w ds m) (h' : MsgIs w cs m' Aq Aa Au Ae cq ca cu ce) :
    Calls Try.prog 42 #[.agg ds.toArray, .agg cs.toArray] w (RetB (.bool (decide (m = m'))) w) := by
  obtain ⟨_, _, _, _, _, _, _, _, h1⟩ := h.is
  exact same14_any ds cs m m' _ _ _ _ _ _ _ _ _ _ _ _ _ _ _ _ w h1 h'
theorem same_owns {w : World} {ds cs : List Value} {m m' : Msg} (h : MsgOwn w ds m) (h' : MsgOwn w cs m') :
    Calls Try.prog 42 #[.agg ds.toArray, .agg cs.toArray] w (RetB (.bool (decide (m = m'))) w) := by
  obtain ⟨_, _, _, _, _, _, _, _, h1⟩ := h'.is
  exact same_own h h1
end Go.Proofs.Ytlmgdogblbigpaa

/-
  Layer 14, the laws' own: what Decode leaves; MessageBack.
-/
import Derived.Test.YtlmgdogblbigpaaGW
import Derived.Test.YtlmgdogblbigpaaMr7
import Derived.Test.YtlmgdogblbigpaaMsgBack
import Derived.Test.YtlmgdogblbigpaaDecOk
import Derived.Test.YtlmgdogblbigpaaSme2
namespace Go.Proofs.Ytlmgdogblbigpaa
open Go.RowKit
set_option maxRecDepth 100000
set_option linter.unusedVariables false
set_option linter.unusedSimpArgs false

/-- The load of a struct, guarded or not. -/
theorem wpList_ldG {P : Program} {ops : Array Oper} {rest : List Oper} {op : Oper} {a : Act} {w : World} {Q : Exit → Act → World → Prop} (ty : TypeId) (x : Operand) (ho : op.op = .load ty x) (hw : Region.wanted op (yielded ops a.tmps) = true)
    (g o : Nat) (hx : a.eval x = .pointer (some ⟨g, o, none⟩)) {t : TypeId} {L : List Value} (hb : Blk w g t L) (n : Nat) (hn : o + n ≤ L.length) (d : TypeDesc)
    (hu : P.underlying ty = some d) (hd : d.isRow = true) (hi : (P.info? ty).map (·.size) = some n) (sub : List Value) (hsub : (L.drop o).take n = sub)
    (h : wpList P ops Q rest (a.put op.dst (.agg sub.toArray)) w) : wpList P ops Q (op :: rest) a w := by
  have hr := hb.loads (P := P) ty o n hn d hu hd hi sub hsub
  unfold wpList
  rw [if_pos hw]
  left
  unfold Oper.wp execOp
  simp only [ho, hx, Sem.run_bind, hr, Result.andThen_ok, Sem.run_pure]
  exact h
theorem msgZ_len : msgZ.length = 14 := rfl
theorem MsgOwn.len {w : World} {cs : List Value} {m : Msg} (h : MsgOwn w cs m) : cs.length = 14 := by obtain ⟨vq, va, vu, ve, rfl, _⟩ := h; rfl
theorem MsgOwn.one {w : World} {cs : List Value} {m : Msg} (h : MsgOwn w cs m) : ∀ v ∈ cs, v.oneCell' = true := by
  obtain ⟨vq, va, vu, ve, rfl, h1, h2, h3, h4, _⟩ := h
  obtain ⟨_, _, rfl⟩ := h1.form
  obtain ⟨_, _, rfl⟩ := h2.form
  obtain ⟨_, _, rfl⟩ := h3.form
  obtain ⟨_, _, rfl⟩ := h4.form
  exact msgC_one _ rfl rfl rfl rfl
/-- What Decode leaves, in one form. -/
def DecOne (o : Except Int Msg) (w : World) (e : Ending) (w' : World) : Prop :=
  ∃ ds mm x, e = .returned (.tuple #[.agg ds.toArray, .int .i64 x]) ∧ MsgOwn w' ds mm ∧ Below w.heap.size w w' ∧ ((x = 0 ∧ o = .ok mm) ∨ (x ≠ 0 ∧ o = .error x ∧ mm = Msg.zero))
theorem dec_one {o : Except Int Msg} {w : World} {e : Ending} {w' : World} (h : DecRet o w e w') : DecOne o w e w' := by
  cases o with
  | error x => obtain ⟨h1, h2, h3⟩ := h; exact ⟨msgZ, Msg.zero, x, h2, MsgOwn.zero w', h3, .inr ⟨h1, rfl, rfl⟩⟩
  | ok m => obtain ⟨cs, h2, h3, h4⟩ := h; exact ⟨cs, m, 0, h2, h3, h4, .inl ⟨rfl, rfl⟩⟩
theorem mdecode_one (m : List UInt8) (w : World) (hl : m.length ≤ maxLen) : Calls Try.prog 54 #[.string (bs m)] w (DecOne (decM m) w) := (mdecode_any m w hl).mono fun _ _ h => dec_one h
/-- .. where it is a message. -/
def DecGood (m : Msg) (w : World) (e : Ending) (w' : World) : Prop := ∃ ds, e = .returned (.tuple #[.agg ds.toArray, .int .i64 0]) ∧ MsgOwn w' ds m ∧ Below w.heap.size w w'
theorem mdecode_good {s : List UInt8} {m : Msg} (h : decM s = .ok m) (w : World) (hl : s.length ≤ maxLen) : Calls Try.prog 54 #[.string (bs s)] w (DecGood m w) := by
  have := mdecode_any s w hl
  rw [h] at this
  exact this
theorem same_own {w : World} {ds cs : List Value} {m m' : Msg} {Aq Aa Au Ae : Option Addr} {cq ca cu ce : Nat} (h : MsgOwn w ds m) (h' : MsgIs w cs m' Aq Aa Au Ae cq ca cu ce) :
    Calls Try.prog 42 #[.agg ds.toArray, .agg cs.toArray] w (RetB (.bool (decide (m = m'))) w) := by
  obtain ⟨_, _, _, _, _, _, _, _, h1⟩ := h.is
  exact same14_any ds cs m m' _ _ _ _ _ _ _ _ _ _ _ _ _ _ _ _ w h1 h'
theorem same_owns {w : World} {ds cs : List Value} {m m' : Msg} (h : MsgOwn w ds m) (h' : MsgOwn w cs m') :
    Calls Try.prog 42 #[.agg ds.toArray, .agg cs.toArray] w (RetB (.bool (decide (m = m'))) w) := by
  obtain ⟨_, _, _, _, _, _, _, _, h1⟩ := h'.is
  exact same_own h h1
theorem RRsR.wf {w : World} {A : Option Addr} {l : List RR} (h : RRsR w A l) : ∀ r ∈ l, r.wf := by
  intro r hr
  obtain ⟨i, hi, rfl⟩ := List.mem_iff_getElem.1 hr
  obtain ⟨b, off, _, _, h3⟩ := h (by omega)
  obtain ⟨cs, _, An, cn, At, ct, Am, cm, _, h5, _⟩ := h3 i hi
  exact h5
theorem MsgIs.wf {w : World} {cs : List Value} {m : Msg} {Aq Aa Au Ae : Option Addr} {cq ca cu ce : Nat} (h : MsgIs w cs m Aq Aa Au Ae cq ca cu ce) : ∀ r ∈ m.rrs, r.wf := by
  intro r hr
  rcases rrs_mem.1 hr with hr | hr | hr
  · exact h.ha.wf r hr
  · exact h.hu.wf r hr
  · exact h.he.wf r hr
/-- The plain law of MessageBack. -/
theorem back_plain (m : Msg) (hw : ∀ r ∈ m.rrs, r.wf) :
    ((encM m false).2 = 0 ∧ (encM m true).2 = 0 ∧ (encM m true).1.length ≤ (encM m false).1.length ∧ (encM m false).1.length ≤ 65535 ∧ decM (encM m false).1 = .ok m ∧ decM (encM m true).1 = .ok m) ∨
    ((encM m false).2 ≠ 0 ∧ (encM m true).2 = 0 ∧ (encM m true).1.length ≤ 65535 ∧ decM (encM m true).1 = .ok m) ∨
    ((encM m false).2 ≠ 0 ∧ (encM m true).2 ≠ 0 ∧ (encM m true).1 = [] ∧ (encM m false).1 = []) := by
  by_cases hc : checkM m = 0
  · have hle := encS_le m hw hc
    by_cases h1 : 65535 < (encS m true).1.length
    · have h2 : 65535 < (encS m false).1.length := by omega
      right; right
      rw [encM_long true hc h1, encM_long false hc h2]
      exact ⟨by decide, by decide, rfl, rfl⟩
    · have d1 := decM_enc m true hw hc (by omega)
      by_cases h2 : 65535 < (encS m false).1.length
      · right; left
        rw [encM_ok true hc h1, encM_long false hc h2]
        exact ⟨by decide, rfl, by show (encS m true).1.length ≤ 65535; omega, d1⟩
      · have d2 := decM_enc m false hw hc (by omega)
        left
        rw [encM_ok true hc h1, encM_ok false hc h2]
        exact ⟨rfl, rfl, hle, by show (encS m false).1.length ≤ 65535; omega, d2, d1⟩
  · right; right
    rw [encM_bad true hc, encM_bad false hc]
    exact ⟨hc, hc, rfl, rfl⟩
set_option maxHeartbeats 4000000 in
theorem messageBack_any (cs : List Value) (m : Msg) (Aq Aa Au Ae : Option Addr) (cq ca cu ce : Nat) (w : World) (h : MsgIs w cs m Aq Aa Au Ae cq ca cu ce) :
    Calls Try.prog 14 #[.agg cs.toArray] w (RetB (.bool true) w) := by
  have hl : cs.length = 14 := by rw [h.hcs]; exact msgC_len _ _ _ _ _
  have SM := Lib.hid (fun w' (b : Below w.heap.size w w') => small14_any cs m Aq Aa Au Ae cq ca cu ce w' (h.below b))
  have E1 := Lib.hid (fun w' (b : Below w.heap.size w w') => mencode_any cs m true Aq Aa Au Ae cq ca cu ce w' (h.below b))
  have E2 := Lib.hid (fun w' (b : Below w.heap.size w w') => mencode_any cs m false Aq Aa Au Ae cq ca cu ce w' (h.below b))
  have hrl : m.rrs.length = m.an.length + m.au.length + m.ex.length := by simp [Msg.rrs]; omega
  have BP := Lib.hid (back_plain m h.wf)
  have h0 := Lib.hid (fun w' (b : Below w.heap.size w w') => h.below b)
  unfold SmallRet at SM
  clear h
  generalize encM m true = o1 at *
  generalize encM m false = o2 at *
  obtain ⟨s1, e1⟩ := o1
  obtain ⟨s2, e2⟩ := o2
  simp only at BP
  generalize m.rrs.length = nr at *
  have B0 := Blk.new w 52 cs
  have HB0 : Below w.heap.size w (w.alloc (.cells cs.toArray 52)) := (Below.refl _ _).alloc (Nat.le_refl _) _
  go_enter Try.func14, Try.ntmps14
  go_wp2_with fail
  refine (works14_any _).mono ?_
  rintro _ w0 ⟨rfl, b0⟩
  have HB := below_then HB0 HB0.size b0
  replace B0 := B0.below b0 B0.lt
  clear b0 HB0
  go_wp2_with (refine at_op (.load 52 (.tmp 1)) rfl ?_; go_must (refine wpList_ldG 52 (.tmp 1) rfl (by go_simp) w.heap.size 0 rfl B0 14 (by omega) _ Try.underlying52 rfl msgInfo cs (by rw [List.drop_zero, List.take_of_length_le (by omega)]) ?_))
  refine (SM.out _ HB).mono ?_
  rintro _ w1 ⟨n, rfl, h01, hsm, b1⟩
  replace HB := below_then HB HB.size b1
  replace B0 := B0.below b1 B0.lt
  clear b1 SM
  rcases h01 with rfl | rfl
  case inr =>
    clear hsm hrl E1 E2 BP
    go_wp2_with fail
    refine (works14_any _).mono ?_
    rintro _ w2 ⟨rfl, b2⟩
    have HB2 := below_then HB HB.size b2
    clear b2
    go_wp2_with fail
    go_ret
    exact RetB.mk rfl HB2
  obtain ⟨q1, q2, q3, q4⟩ := hsm rfl
  replace E1 := Lib.hid (fun w' b => E1.out w' b (by omega) (by omega))
  replace E2 := Lib.hid (fun w' b => E2.out w' b (by omega) (by omega))
  clear hsm hrl q1 q2 q3 q4
  go_wp2_with (refine at_op (.load 52 (.tmp 1)) rfl ?_; go_must (refine wpList_ldG 52 (.tmp 1) rfl (by go_simp) w.heap.size 0 rfl B0 14 (by omega) _ Try.underlying52 rfl msgInfo cs (by rw [List.drop_zero, List.take_of_length_le (by omega)]) ?_))
  refine (E1.out _ HB).mono ?_
  rintro _ w2 ⟨rfl, b2⟩
  replace B0 := B0.below b2 B0.lt
  replace HB := below_then HB HB.size b2
  clear b2 E1
  go_wp2_with (refine at_op (.load 52 (.tmp 1)) rfl ?_; go_must (refine wpList_ldG 52 (.tmp 1) rfl (by go_simp) w.heap.size 0 rfl B0 14 (by omega) _ Try.underlying52 rfl msgInfo cs (by rw [List.drop_zero, List.take_of_length_le (by omega)]) ?_))
  refine (E2.out _ HB).mono ?_
  rintro _ w3 ⟨rfl, b3⟩
  replace B0 := B0.below b3 B0.lt
  replace HB := below_then HB HB.size b3
  clear b3 E2
  rcases BP.out with ⟨f2, f1, hle, hl2, d2, d1⟩ | ⟨f2, f1, hl1, d1⟩ | ⟨f2, f1, z1, z2⟩
  · subst f2 f1
    have hle' : (s1.length : Int) ≤ s2.length := by omega
    have D := Lib.hid (fun w => mdecode_good d2 w (by simp only [maxLen]; omega))
    have D2 := Lib.hid (fun w => mdecode_good d1 w (by simp only [maxLen]; omega))
    clear BP hle hl2 d2 d1
    go_wp2_with fail
    refine (D.out _).mono ?_
    rintro _ w3 ⟨ds, rfl, hM3, b3⟩
    have hdl := hM3.len
    have hd1 := Lib.hid hM3.one
    have HB3 := below_then HB HB.size b3
    have B3 := B0.below b3 B0.lt
    clear b3 HB B0
    go_wp2_with (refine at_op (.store 52 (.tmp 7) (.tmp 34)) rfl ?_; go_must (refine wpList_stB rfl 52 (.tmp 7) (.tmp 34) rfl w3.heap.size 0 rfl ds rfl (Blk.new' _ _ msgZ _ rfl) (by rw [hdl, msgZ_len]; omega) (by rw [hdl]; exact msgInfo) hd1.out ?_))
    intro w4 B7 g4 _
    rw [List.drop_of_length_le (by rw [msgZ_len]; omega), List.append_nil] at B7
    have k4 : Below w3.heap.size w3 w4 := below_grown ((Below.refl _ _).alloc (Nat.le_refl _) _) g4 (by simp) (Nat.le_refl _)
    have HB4 := below_then HB3 HB3.size k4
    have B4 := B3.below k4 B3.lt
    have hM4 := hM3.below k4
    have hgd : w.heap.size + 1 ≤ w3.heap.size := by have := B3.lt; omega
    clear g4 k4 hM3 B3 HB3 hd1
    generalize w3.heap.size = gd at *
    have SA := Lib.hid (same_own hM4 (h0.out _ HB4))
    rw [decide_eq_true rfl] at SA
    go_wp2_with (first
      | (refine at_op (.load 52 (.tmp 7)) rfl ?_; go_must (refine wpList_ldG 52 (.tmp 7) rfl (by go_simp) gd 0 rfl B7 14 (by omega) _ Try.underlying52 rfl msgInfo ds (by rw [List.drop_zero, List.take_of_length_le (by omega)]) ?_))
      | (refine at_op (.load 52 (.tmp 1)) rfl ?_; go_must (refine wpList_ldG 52 (.tmp 1) rfl (by go_simp) w.heap.size 0 rfl B4 14 (by omega) _ Try.underlying52 rfl msgInfo cs (by rw [List.drop_zero, List.take_of_length_le (by omega)]) ?_)))
    refine SA.out.mono ?_
    rintro _ w5 ⟨rfl, b5⟩
    have HB5 := below_then HB4 HB4.size b5
    have B5 := B4.below b5 B4.lt
    clear SA hM4 B7 hdl hgd b5 HB4 B4
    have D := D2
    have B0 := B5
    have HB := HB5
    clear D2 B5 HB5
    go_wp2_with fail
    refine (D.out _).mono ?_
    rintro _ w3 ⟨ds, rfl, hM3, b3⟩
    have hdl := hM3.len
    have hd1 := Lib.hid hM3.one
    have HB3 := below_then HB HB.size b3
    have B3 := B0.below b3 B0.lt
    clear b3 HB B0
    go_wp2_with (refine at_op (.store 52 (.tmp 9) (.tmp 60)) rfl ?_; go_must (refine wpList_stB rfl 52 (.tmp 9) (.tmp 60) rfl w3.heap.size 0 rfl ds rfl (Blk.new' _ _ msgZ _ rfl) (by rw [hdl, msgZ_len]; omega) (by rw [hdl]; exact msgInfo) hd1.out ?_))
    intro w4 B7 g4 _
    rw [List.drop_of_length_le (by rw [msgZ_len]; omega), List.append_nil] at B7
    have k4 : Below w3.heap.size w3 w4 := below_grown ((Below.refl _ _).alloc (Nat.le_refl _) _) g4 (by simp) (Nat.le_refl _)
    have HB4 := below_then HB3 HB3.size k4
    have B4 := B3.below k4 B3.lt
    have hM4 := hM3.below k4
    have hgd : w.heap.size + 1 ≤ w3.heap.size := by have := B3.lt; omega
    clear g4 k4 hM3 B3 HB3 hd1
    generalize w3.heap.size = gd at *
    have SA := Lib.hid (same_own hM4 (h0.out _ HB4))
    rw [decide_eq_true rfl] at SA
    go_wp2_with (first
      | (refine at_op (.load 52 (.tmp 9)) rfl ?_; go_must (refine wpList_ldG 52 (.tmp 9) rfl (by go_simp) gd 0 rfl B7 14 (by omega) _ Try.underlying52 rfl msgInfo ds (by rw [List.drop_zero, List.take_of_length_le (by omega)]) ?_))
      | (refine at_op (.load 52 (.tmp 1)) rfl ?_; go_must (refine wpList_ldG 52 (.tmp 1) rfl (by go_simp) w.heap.size 0 rfl B4 14 (by omega) _ Try.underlying52 rfl msgInfo cs (by rw [List.drop_zero, List.take_of_length_le (by omega)]) ?_)))
    refine SA.out.mono ?_
    rintro _ w5 ⟨rfl, b5⟩
    have HB5 := below_then HB4 HB4.size b5
    have B5 := B4.below b5 B4.lt
    clear SA hM4 B7 hdl hgd b5 HB4 B4
    go_wp2_with fail
    go_ret
    exact RetB.mk rfl HB5
  · subst f1
    have f2' : (e2 == 0) = false := by simpa using f2
    have D := Lib.hid (fun w => mdecode_good d1 w (by simp only [maxLen]; omega))
    clear BP hl1 d1 f2
    go_wp2_with fail
    refine (D.out _).mono ?_
    rintro _ w3 ⟨ds, rfl, hM3, b3⟩
    have hdl := hM3.len
    have hd1 := Lib.hid hM3.one
    have HB3 := below_then HB HB.size b3
    have B3 := B0.below b3 B0.lt
    clear b3 HB B0
    go_wp2_with (refine at_op (.store 52 (.tmp 9) (.tmp 60)) rfl ?_; go_must (refine wpList_stB rfl 52 (.tmp 9) (.tmp 60) rfl w3.heap.size 0 rfl ds rfl (Blk.new' _ _ msgZ _ rfl) (by rw [hdl, msgZ_len]; omega) (by rw [hdl]; exact msgInfo) hd1.out ?_))
    intro w4 B7 g4 _
    rw [List.drop_of_length_le (by rw [msgZ_len]; omega), List.append_nil] at B7
    have k4 : Below w3.heap.size w3 w4 := below_grown ((Below.refl _ _).alloc (Nat.le_refl _) _) g4 (by simp) (Nat.le_refl _)
    have HB4 := below_then HB3 HB3.size k4
    have B4 := B3.below k4 B3.lt
    have hM4 := hM3.below k4
    have hgd : w.heap.size + 1 ≤ w3.heap.size := by have := B3.lt; omega
    clear g4 k4 hM3 B3 HB3 hd1
    generalize w3.heap.size = gd at *
    have SA := Lib.hid (same_own hM4 (h0.out _ HB4))
    rw [decide_eq_true rfl] at SA
    go_wp2_with (first
      | (refine at_op (.load 52 (.tmp 9)) rfl ?_; go_must (refine wpList_ldG 52 (.tmp 9) rfl (by go_simp) gd 0 rfl B7 14 (by omega) _ Try.underlying52 rfl msgInfo ds (by rw [List.drop_zero, List.take_of_length_le (by omega)]) ?_))
      | (refine at_op (.load 52 (.tmp 1)) rfl ?_; go_must (refine wpList_ldG 52 (.tmp 1) rfl (by go_simp) w.heap.size 0 rfl B4 14 (by omega) _ Try.underlying52 rfl msgInfo cs (by rw [List.drop_zero, List.take_of_length_le (by omega)]) ?_)))
    refine SA.out.mono ?_
    rintro _ w5 ⟨rfl, b5⟩
    have HB5 := below_then HB4 HB4.size b5
    have B5 := B4.below b5 B4.lt
    clear SA hM4 B7 hdl hgd b5 HB4 B4
    go_wp2_with fail
    go_ret
    exact RetB.mk rfl HB5
  · subst z1 z2
    have f2' : (e2 == 0) = false := by simpa using f2
    have f1' : (e1 == 0) = false := by simpa using f1
    have f2n : (e2 != 0) = true := by simpa using f2
    clear BP f1 f2
    go_wp2_with fail
    go_ret
    exact RetB.mk rfl HB
end Go.Proofs.Ytlmgdogblbigpaa

/-
  Layer 14 (message): the writer; its numbers and names.
-/
import Derived.Test.YtlmgdogblbigpaaGQ
import Derived.Test.YtlmgdogblbigpaaGB
namespace Go.Proofs.Ytlmgdogblbigpaa
open Go.RowKit
set_option maxRecDepth 100000
set_option linter.unusedVariables false
set_option linter.unusedSimpArgs false

theorem TabO.grown {lo : Nat} {w w' : World} {p : Option Addr} {T : Option Tab} {row : Option Nat} (h : TabO lo w p T) (hg : w.grownBy w' row) (hne : ∀ k, row = some k → ∃ cs t fz, w.heap[k]? = some (.cells cs t fz) ∧ t ≠ 108) : TabO lo w' p T := by
  cases T with
  | none => exact h
  | some T =>
    obtain ⟨g, b, h1, h2, h3, h4, ⟨f, h5, h6⟩, h7⟩ := h
    have n1 : some g ≠ row := by
      intro he
      obtain ⟨cs, t, fz, hh, ht⟩ := hne g he.symm
      have h4' : w.heap[g]? = _ := h4
      rw [hh] at h4'
      injection h4' with h4'
      injection h4' with _ h4'
      exact ht h4'
    have n2 : some b ≠ row := by
      intro he
      obtain ⟨cs, t, fz, hh, ht⟩ := hne b he.symm
      obtain ⟨D, ⟨es, cl, hm, _⟩, _⟩ := h5
      rw [hh] at hm; cases hm
    exact ⟨g, b, h1, h2, h3, h4.grown hg n1, ⟨f, h5.kept hg n2, h6⟩, h7⟩
/-- The writer at gw has written s; its table is p's. -/
def WrAt (lo : Nat) (w : World) (gw : Nat) (s : List UInt8) (p : Option Addr) (T : Option Tab) : Prop :=
  ∃ A c, lo ≤ gw ∧ Blk w gw 120 [.slice A s.length c, .pointer p] ∧ OwnB w lo (.slice A s.length c) s ∧ TabO lo w p T
theorem WrAt.below {lo : Nat} {w w' : World} {gw : Nat} {s : List UInt8} {p : Option Addr} {T : Option Tab} (h : WrAt lo w gw s p T) (hb : Below w.heap.size w w') : WrAt lo w' gw s p T := by
  obtain ⟨A, c, h1, h2, h3, h4⟩ := h
  exact ⟨A, c, h1, h2.below hb h2.lt, h3.below hb, h4.below hb⟩
/-- What a writer leaves as it is. -/
def KeepW (lo : Nat) (w w' : World) : Prop := Below lo w w' ∧ ∀ g t cs, Blk w g t cs → t ≠ 120 → t ≠ 5 → Blk w' g t cs
theorem KeepW.trans {lo : Nat} {w w1 w2 : World} (h : KeepW lo w w1) (h' : KeepW lo w1 w2) : KeepW lo w w2 := ⟨h.1.trans h'.1, fun k t cs hb h1 h2 => h'.2 k t cs (h.2 k t cs hb h1 h2) h1 h2⟩
theorem KeepW.old {lo : Nat} {w w1 : World} (h : Below w.heap.size w w1) (hlo : lo ≤ w.heap.size) : KeepW lo w w1 := ⟨h.mono hlo, fun k t cs hb _ _ => hb.below h hb.lt⟩
theorem KeepW.ofKeep {lo : Nat} {w w1 : World} (h : Keep lo w w1) : KeepW lo w w1 := ⟨h.1, fun k t cs hb _ _ => h.blk hb⟩
theorem KeepW.size {lo : Nat} {w w1 : World} (h : KeepW lo w w1) (hlo : lo ≤ w.heap.size) : lo ≤ w1.heap.size := below_size_le h.1 hlo
/-- Behind an append and the store of its row. -/
theorem wr_step {lo gw : Nat} {w w1 w2 : World} {s x : List UInt8} {p : Option Addr} {T : Option Tab} {A A' : Option Addr} {c c' : Nat} (hlo : lo ≤ w.heap.size) (h1 : lo ≤ gw) (h2 : Blk w gw 120 [.slice A s.length c, .pointer p]) (h3 : OwnB w lo (.slice A s.length c) s) (h4 : TabO lo w p T)
    (k1 : OwnB w1 lo (.slice A' (s ++ x).length c') (s ++ x)) (g1 : w.grownBy w1 (Value.slice A s.length c).ownBlock) (k2 : Blk w2 gw 120 [.slice A' (s ++ x).length c', .pointer p]) (g2 : w1.grownBy w2 (some gw)) :
    WrAt lo w2 gw (s ++ x) p T ∧ KeepW lo w w2 := by
  have b1 : Blk w1 gw 120 [.slice A s.length c, .pointer p] := h2.grown g1 (h3.ne h2 (by decide))
  have t1 : TabO lo w1 p T := h4.grown g1 (by
    intro k hk
    rcases h3 with ⟨hv, _⟩ | ⟨g, cap, cur, fz, hv, hB, hh, _⟩
    · rw [hv] at hk; simp [Value.ownBlock] at hk
    · rw [hv] at hk
      obtain rfl : g = k := by simpa [Value.ownBlock] using hk
      exact ⟨_, _, _, hh, by decide⟩)
  have t2 : TabO lo w2 p T := t1.grown g2 (by
    intro k hk
    obtain rfl := Option.some.inj hk
    exact ⟨_, _, _, b1, by decide⟩)
  have o2 : OwnB w2 lo (.slice A' (s ++ x).length c') (s ++ x) := k1.kept g2 (.inr (fun he => k1.ne b1 (by decide) he.symm))
  have B1 : Below lo w w1 := (Below.refl _ _).grown g1 hlo h3.base
  have B2 : Below lo w w2 := below_grown B1 g2 (below_size_le B1 hlo) h1
  refine ⟨⟨A', c', h1, k2, o2, t2⟩, B2, fun g t cs hb n1 n2 => ?_⟩
  have hb1 : Blk w1 g t cs := hb.grown g1 (h3.ne hb n2)
  refine hb1.grown g2 ?_
  intro he
  obtain rfl := Option.some.inj he
  have hh : w1.heap[g]? = _ := hb1
  have b1' : w1.heap[g]? = _ := b1
  rw [hh] at b1'
  injection b1' with b1'
  injection b1' with _ b1'
  exact n1 b1'
def WDone (lo gw : Nat) (p : Option Addr) (v : Value) (s : List UInt8) (T : Option Tab) (w : World) (x : Ending) (w' : World) : Prop :=
  x = .returned v ∧ WrAt lo w' gw s p T ∧ KeepW lo w w'
theorem bytesInfo1 : (Try.prog.info? 94).map (·.size) = some 1 := by kernel_rfl
/-- append, as it is run. -/
theorem exec_app {w w' : World} {v v' : Value} {x : List UInt8} {ty : TypeId} {o : Oper} {a : Act} (sl y : Operand) (ho : o.op = .call { callee := .builtin .append, args := #[sl, y], argTypes := #[94, 9] }) (hty : o.type = ty) (hs : a.eval sl = v) (hy : a.eval y = .string (bs x))
    (hr : (Builtin.append_ #[94, 9] ty #[v, .string (bs x)]).run Try.prog w = .ok v' w') : (execOp a.eval o).run Try.prog w = .ok (.value v') w' := by
  subst hty
  unfold execOp
  simp only [ho, resolve, invoke, builtin, Sem.run_bind, Sem.run_pure, Result.andThen_ok, List.map_toArray, List.map_cons, List.map_nil, hs, hy, hr]
set_option maxHeartbeats 2000000 in
theorem wnum_any (lo gw : Nat) (s : List UInt8) (p : Option Addr) (T : Option Tab) (width n : Int) (w : World) (hW : WrAt lo w gw s p T) (hlo : lo ≤ w.heap.size) (hl : s.length ≤ 10000000) :
    Calls Try.prog 110 #[.pointer (some ⟨gw, 0, none⟩), .int .i64 width, .int .i64 n] w (WDone lo gw p (.tuple #[]) (s ++ putB (hw width) n) T w) := by
  obtain ⟨A, c, h1, h2, h3, h4⟩ := hW
  have P := Lib.hid (fun w => put_any width n w)
  have xl : (putB (hw width) n).length ≤ 4 := by rw [putB_length]; exact hw_le width
  generalize putB (hw width) n = x at *
  go_enter Try.func110, Try.ntmps110
  go_wp2_with fail
  refine wp_region_held_drew (S := fun _ => True) (by kernel_rfl) trivial (fun hS => ?_)
  have hD : Below w.heap.size w w.drew := (Below.refl _ _).drew
  (refine held_val 0 (some 6) rfl rfl (by kernel_rfl) (by kernel_rfl) (by kernel_rfl) (fun _ _ _ h => h) (by kernel_rfl) (fun W hW => rfl) hS ?_; simp only [Act.put, List.setIfInBounds_toArray, List.set_cons_zero, List.set_cons_succ])
  (refine held_val 1 (some 7) rfl rfl (by kernel_rfl) (by kernel_rfl) (by kernel_rfl) (fun _ _ _ h => h) (by kernel_rfl) (fun W hW => rfl) hS ?_; simp only [Act.put, List.setIfInBounds_toArray, List.set_cons_zero, List.set_cons_succ])
  (refine held_val 2 (some 8) rfl rfl (by kernel_rfl) (by kernel_rfl) (by kernel_rfl) (fun _ _ _ h => h) (by kernel_rfl) (fun W hW => rfl) hS ?_; simp only [Act.put, List.setIfInBounds_toArray, List.set_cons_zero, List.set_cons_succ])
  (refine held_val 3 (some 9) rfl rfl (by kernel_rfl) (by kernel_rfl) (by kernel_rfl) (fun _ _ _ h => h) (by kernel_rfl) (fun W hW => rfl) hS ?_; simp only [Act.put, List.setIfInBounds_toArray, List.set_cons_zero, List.set_cons_succ])
  (refine held_val 5 (some 11) rfl rfl (by kernel_rfl) (by kernel_rfl) (by kernel_rfl) (fun _ _ _ h => h) (by kernel_rfl) (fun W hW => rfl) hS ?_; simp only [Act.put, List.setIfInBounds_toArray, List.set_cons_zero, List.set_cons_succ])
  (refine held_val 6 (some 12) rfl rfl (by kernel_rfl) (by kernel_rfl) (by kernel_rfl) (fun _ _ _ h => h) (by kernel_rfl) (fun W hW => rfl) hS ?_; simp only [Act.put, List.setIfInBounds_toArray, List.set_cons_zero, List.set_cons_succ])
  refine ord_two 4 7 (by kernel_rfl) ?_ ?_
  · refine opw_ld 4 (some 10) 94 (.tmp 9) ⟨gw, 0, none⟩ rfl rfl rfl rfl (by kernel_rfl) (run_load1 Try.underlying94 rfl (h2.cell_ 0 rfl)) ?_
    refine ⟨trivial, ?_⟩
    simp only [Act.put, List.setIfInBounds_toArray, List.set_cons_zero, List.set_cons_succ]
    refine ord_one 7 (by kernel_rfl) ?_
    refine opw_call 7 (some 13) 63 #[.int .i64 width, .int .i64 n] rfl rfl (by kernel_rfl) (by go_simp) (P.out _) ?_
    rintro _ w1 ⟨rfl, b1⟩
    replace b1 := hD.trans b1
    refine ⟨_, rfl, trivial, ?_⟩
    simp only [Act.put, List.setIfInBounds_toArray, List.set_cons_zero, List.set_cons_succ]
    obtain ⟨v', w2, hr, k1, g1⟩ := run_appB w1 94 lo _ s x (h3.below b1) (Nat.le_trans hlo b1.size) (by omega)
    obtain ⟨A', c', rfl⟩ := k1.form
    refine ord_one 8 (by kernel_rfl) ?_
    refine opw_run 8 (some 14) rfl rfl (by kernel_rfl) (exec_app (.tmp 10) (.tmp 13) rfl rfl rfl rfl hr) ?_
    refine ⟨trivial, ?_⟩
    simp only [Act.put, List.setIfInBounds_toArray, List.set_cons_zero, List.set_cons_succ]
    (refine held_val 9 (some 15) rfl rfl (by kernel_rfl) (by kernel_rfl) (by kernel_rfl) (fun _ _ _ h => h) (by kernel_rfl) (fun W hW => rfl) hS ?_; simp only [Act.put, List.setIfInBounds_toArray, List.set_cons_zero, List.set_cons_succ])
    (refine held_val 10 (some 16) rfl rfl (by kernel_rfl) (by kernel_rfl) (by kernel_rfl) (fun _ _ _ h => h) (by kernel_rfl) (fun W hW => rfl) hS ?_; simp only [Act.put, List.setIfInBounds_toArray, List.set_cons_zero, List.set_cons_succ])
    refine ord_one 11 (by kernel_rfl) ?_
    have B2 := (h2.below b1 h2.lt).grown g1 ((h3.below b1).ne (h2.below b1 h2.lt) (by decide))
    refine opw_stC 11 94 (.tmp 16) (.tmp 14) rfl rfl rfl (by kernel_rfl) gw 0 rfl _ rfl B2 (by simp) bytesInfo1 rfl rfl ?_
    intro w3 hb3 hg3 hs3
    refine ⟨trivial, ?_⟩
    simp only [Act.put, List.setIfInBounds_toArray, List.set_cons_zero, List.set_cons_succ]
    refine wpAnyH_done (by kernel_rfl) ?_ _
    obtain ⟨R1, R2⟩ := wr_step (x := x) (Nat.le_trans hlo b1.size) h1 (h2.below b1 h2.lt) (h3.below b1) (h4.below b1) k1 g1 hb3 hg3
    have R3 := (KeepW.old b1 hlo).trans R2
    clear hb3 hg3 hs3 B2 g1 k1 hr R2
    go_wp2_with fail
    go_end0
    exact ⟨rfl, R1, R3⟩
  · refine opw_call 7 (some 13) 63 #[.int .i64 width, .int .i64 n] rfl rfl (by kernel_rfl) (by go_simp) (P.out _) ?_
    rintro _ w1 ⟨rfl, b1⟩
    replace b1 := hD.trans b1
    refine ⟨_, rfl, trivial, ?_⟩
    simp only [Act.put, List.setIfInBounds_toArray, List.set_cons_zero, List.set_cons_succ]
    refine ord_one 4 (by kernel_rfl) ?_
    refine opw_ld 4 (some 10) 94 (.tmp 9) ⟨gw, 0, none⟩ rfl rfl rfl rfl (by kernel_rfl) (run_load1 Try.underlying94 rfl ((h2.below b1 h2.lt).cell_ 0 rfl)) ?_
    refine ⟨trivial, ?_⟩
    simp only [Act.put, List.setIfInBounds_toArray, List.set_cons_zero, List.set_cons_succ]
    obtain ⟨v', w2, hr, k1, g1⟩ := run_appB w1 94 lo _ s x (h3.below b1) (Nat.le_trans hlo b1.size) (by omega)
    obtain ⟨A', c', rfl⟩ := k1.form
    refine ord_one 8 (by kernel_rfl) ?_
    refine opw_run 8 (some 14) rfl rfl (by kernel_rfl) (exec_app (.tmp 10) (.tmp 13) rfl rfl rfl rfl hr) ?_
    refine ⟨trivial, ?_⟩
    simp only [Act.put, List.setIfInBounds_toArray, List.set_cons_zero, List.set_cons_succ]
    (refine held_val 9 (some 15) rfl rfl (by kernel_rfl) (by kernel_rfl) (by kernel_rfl) (fun _ _ _ h => h) (by kernel_rfl) (fun W hW => rfl) hS ?_; simp only [Act.put, List.setIfInBounds_toArray, List.set_cons_zero, List.set_cons_succ])
    (refine held_val 10 (some 16) rfl rfl (by kernel_rfl) (by kernel_rfl) (by kernel_rfl) (fun _ _ _ h => h) (by kernel_rfl) (fun W hW => rfl) hS ?_; simp only [Act.put, List.setIfInBounds_toArray, List.set_cons_zero, List.set_cons_succ])
    refine ord_one 11 (by kernel_rfl) ?_
    have B2 := (h2.below b1 h2.lt).grown g1 ((h3.below b1).ne (h2.below b1 h2.lt) (by decide))
    refine opw_stC 11 94 (.tmp 16) (.tmp 14) rfl rfl rfl (by kernel_rfl) gw 0 rfl _ rfl B2 (by simp) bytesInfo1 rfl rfl ?_
    intro w3 hb3 hg3 hs3
    refine ⟨trivial, ?_⟩
    simp only [Act.put, List.setIfInBounds_toArray, List.set_cons_zero, List.set_cons_succ]
    refine wpAnyH_done (by kernel_rfl) ?_ _
    obtain ⟨R1, R2⟩ := wr_step (x := x) (Nat.le_trans hlo b1.size) h1 (h2.below b1 h2.lt) (h3.below b1) (h4.below b1) k1 g1 hb3 hg3
    have R3 := (KeepW.old b1 hlo).trans R2
    clear hb3 hg3 hs3 B2 g1 k1 hr R2
    go_wp2_with fail
    go_end0
    exact ⟨rfl, R1, R3⟩
set_option maxHeartbeats 2000000 in
theorem wname_any (lo gw : Nat) (s : List UInt8) (p : Option Addr) (T : Option Tab) (An : Option Addr) (cn : Nat) (n : List (List UInt8)) (w : World) (hW : WrAt lo w gw s p T) (hN : NmR w An cn n) (hlo : lo ≤ w.heap.size) (hl : s.length ≤ 10000000) (hf : fewO T 900000) :
    Calls Try.prog 109 #[.pointer (some ⟨gw, 0, none⟩), .slice An n.length cn] w (WDone lo gw p (.int .i64 (checkN n)) (s ++ putSO T s.length n) (putTO T s.length n) w) := by
  obtain ⟨A, c, h1, h2, h3, h4⟩ := hW
  have P := Lib.hid (fun w' (b : Below w.heap.size w w') => putO_any lo p T An cn n (s.length : Int) w' (Nat.le_trans hlo b.size) (h4.below b) (hN.below b) hf)
  have xl := putSO_len T (s.length : Int) n
  generalize putSO T (s.length : Int) n = x at *
  generalize putTO T (s.length : Int) n = T' at *
  generalize checkN n = e at *
  generalize n.length = nl at *
  clear hN hf h4
  go_enter Try.func109, Try.ntmps109
  go_wp2_with fail
  refine wp_region_held_drew (S := fun W => Blk W gw 120 [.slice A s.length c, .pointer p]) (by kernel_rfl) h2.drew (fun hS => ?_)
  have hD : Below w.heap.size w w.drew := (Below.refl _ _).drew
  (refine held_val 0 (some 8) rfl rfl (by kernel_rfl) (by kernel_rfl) (by kernel_rfl) (fun _ _ _ h => h) (by kernel_rfl) (fun W hW => rfl) hS ?_; simp only [Act.put, List.setIfInBounds_toArray, List.set_cons_zero, List.set_cons_succ])
  (refine held_val 1 (some 9) rfl rfl (by kernel_rfl) (by kernel_rfl) (by kernel_rfl) (fun _ _ _ h => h) (by kernel_rfl) (fun W hW => rfl) hS ?_; simp only [Act.put, List.setIfInBounds_toArray, List.set_cons_zero, List.set_cons_succ])
  (refine held_val 2 (some 10) rfl rfl (by kernel_rfl) (by kernel_rfl) (by kernel_rfl) (fun _ _ _ h => h) (by kernel_rfl) (fun W hW => rfl) hS ?_; simp only [Act.put, List.setIfInBounds_toArray, List.set_cons_zero, List.set_cons_succ])
  refine held_ld 3 (some 11) 35 (.tmp 10) ⟨gw, 1, none⟩ rfl rfl rfl rfl (by kernel_rfl) (by kernel_rfl) (by kernel_rfl) (fun _ _ _ h => h) (by kernel_rfl) (fun W hW => run_load1 Try.underlying35 rfl (hW.cell_ 1 rfl)) hS ?_
  simp only [Act.put, List.setIfInBounds_toArray, List.set_cons_zero, List.set_cons_succ]
  (refine held_val 4 (some 12) rfl rfl (by kernel_rfl) (by kernel_rfl) (by kernel_rfl) (fun _ _ _ h => h) (by kernel_rfl) (fun W hW => rfl) hS ?_; simp only [Act.put, List.setIfInBounds_toArray, List.set_cons_zero, List.set_cons_succ])
  (refine held_val 5 (some 13) rfl rfl (by kernel_rfl) (by kernel_rfl) (by kernel_rfl) (fun _ _ _ h => h) (by kernel_rfl) (fun W hW => rfl) hS ?_; simp only [Act.put, List.setIfInBounds_toArray, List.set_cons_zero, List.set_cons_succ])
  (refine held_val 6 (some 14) rfl rfl (by kernel_rfl) (by kernel_rfl) (by kernel_rfl) (fun _ _ _ h => h) (by kernel_rfl) (fun W hW => rfl) hS ?_; simp only [Act.put, List.setIfInBounds_toArray, List.set_cons_zero, List.set_cons_succ])
  (refine held_val 7 (some 15) rfl rfl (by kernel_rfl) (by kernel_rfl) (by kernel_rfl) (fun _ _ _ h => h) (by kernel_rfl) (fun W hW => rfl) hS ?_; simp only [Act.put, List.setIfInBounds_toArray, List.set_cons_zero, List.set_cons_succ])
  refine held_ld 8 (some 16) 94 (.tmp 15) ⟨gw, 0, none⟩ rfl rfl rfl rfl (by kernel_rfl) (by kernel_rfl) (by kernel_rfl) (fun _ _ _ h => h) (by kernel_rfl) (fun W hW => run_load1 Try.underlying94 rfl (hW.cell_ 0 rfl)) hS ?_
  simp only [Act.put, List.setIfInBounds_toArray, List.set_cons_zero, List.set_cons_succ]
  refine held_val 9 (some 17) (v := .int .i64 (s.length : Int)) rfl rfl (by kernel_rfl) (by kernel_rfl) (by kernel_rfl) (fun _ _ _ h => h) (by kernel_rfl) (fun W hW => by go_simp) hS ?_
  simp only [Act.put, List.setIfInBounds_toArray, List.set_cons_zero, List.set_cons_succ]
  refine held_call 10 (some 18) 24 #[.pointer p, .slice An nl cn, .int .i64 (s.length : Int)] (by kernel_rfl) rfl rfl (by kernel_rfl) (by go_simp) (P.out _ hD) ?_
  rintro _ w1 ⟨rfl, hT1, hK1⟩
  have B1 := hK1.blk h2.drew
  have O1 : OwnB w1 lo (.slice A s.length c) s := by
    rcases h3 with hn | ⟨g, cap, cur, fz, hv, hB, hh, rest⟩
    · exact .inl hn
    · exact .inr ⟨g, cap, cur, fz, hv, hB, hK1.2 g _ cur fz hh, rest⟩
  have K1 : KeepW lo w w1 := (KeepW.old hD hlo).trans (KeepW.ofKeep hK1)
  have hlo1 := K1.size hlo
  refine ⟨_, rfl, B1, ?_⟩
  clear hS hK1 P hD h2 h3
  have hS := B1
  simp only [Act.put, List.setIfInBounds_toArray, List.set_cons_zero, List.set_cons_succ]
  (refine held_val 11 (some 7) rfl rfl (by kernel_rfl) (by kernel_rfl) (by kernel_rfl) (fun _ _ _ h => h) (by kernel_rfl) (fun W hW => rfl) hS ?_; simp only [Act.put, List.setIfInBounds_toArray, List.set_cons_zero, List.set_cons_succ])
  (refine held_val 12 (some 19) rfl rfl (by kernel_rfl) (by kernel_rfl) (by kernel_rfl) (fun _ _ _ h => h) (by kernel_rfl) (fun W hW => rfl) hS ?_; simp only [Act.put, List.setIfInBounds_toArray, List.set_cons_zero, List.set_cons_succ])
  (refine held_val 13 (some 20) rfl rfl (by kernel_rfl) (by kernel_rfl) (by kernel_rfl) (fun _ _ _ h => h) (by kernel_rfl) (fun W hW => rfl) hS ?_; simp only [Act.put, List.setIfInBounds_toArray, List.set_cons_zero, List.set_cons_succ])
  (refine held_val 14 (some 5) rfl rfl (by kernel_rfl) (by kernel_rfl) (by kernel_rfl) (fun _ _ _ h => h) (by kernel_rfl) (fun W hW => rfl) hS ?_; simp only [Act.put, List.setIfInBounds_toArray, List.set_cons_zero, List.set_cons_succ])
  (refine held_val 15 (some 6) rfl rfl (by kernel_rfl) (by kernel_rfl) (by kernel_rfl) (fun _ _ _ h => h) (by kernel_rfl) (fun W hW => rfl) hS ?_; simp only [Act.put, List.setIfInBounds_toArray, List.set_cons_zero, List.set_cons_succ])
  refine wpAnyH_done (by kernel_rfl) ?_ _
  clear hS
  have c0 := B1.cell_ 0 rfl
  go_wp2_with (at_builtin; go_must (refine wpList_appB' _ rfl (.tmp 25) (.tmp 26) rfl lo _ s x rfl O1 hlo1 rfl (by omega) ?_))
  intro A' c' w2 k1 g1
  have B2 := B1.grown g1 (O1.ne B1 (by decide))
  clear c0
  go_wp2_with (refine at_op (.store 94 (.tmp 29) (.tmp 27)) rfl ?_; go_must (refine wpList_stC rfl 94 (.tmp 29) (.tmp 27) rfl gw 0 rfl _ rfl B2 (by simp) bytesInfo1 rfl rfl ?_))
  intro w3 hb3 hg3 hs3
  rw [← List.length_append] at hb3 k1
  obtain ⟨R1, R2⟩ := wr_step (x := x) hlo1 h1 B1 O1 hT1 k1 g1 hb3 hg3
  have R3 := K1.trans R2
  clear hb3 hg3 hs3 B2 g1 k1 R2 B1 O1
  go_wp2_with fail
  go_ret
  exact ⟨rfl, R1, R3⟩
end Go.Proofs.Ytlmgdogblbigpaa
/-
  Layer 14 (message): questions and records, written.
-/
namespace Go.Proofs.Ytlmgdogblbigpaa
open Go.RowKit
set_option maxRecDepth 100000
set_option linter.unusedVariables false
set_option linter.unusedSimpArgs false

theorem KeepW.blkQ {lo : Nat} {w w' : World} (h : KeepW lo w w') {g : Nat} {cs : List Value} (hb : Blk w g 61 cs) : Blk w' g 61 cs := h.2 g _ cs hb (by decide) (by decide)
theorem KeepW.blkR {lo : Nat} {w w' : World} (h : KeepW lo w w') {g : Nat} {cs : List Value} (hb : Blk w g 86 cs) : Blk w' g 86 cs := h.2 g _ cs hb (by decide) (by decide)
theorem wnum2_any (lo gw : Nat) (s : List UInt8) (p : Option Addr) (T : Option Tab) (n : Int) (w : World) (hW : WrAt lo w gw s p T) (hlo : lo ≤ w.heap.size) (hl : s.length ≤ 10000000) :
    Calls Try.prog 110 #[.pointer (some ⟨gw, 0, none⟩), .int .i64 2, .int .i64 n] w (WDone lo gw p (.tuple #[]) (s ++ putB 2 n) T w) := wnum_any lo gw s p T 2 n w hW hlo hl
theorem wnum4_any (lo gw : Nat) (s : List UInt8) (p : Option Addr) (T : Option Tab) (n : Int) (w : World) (hW : WrAt lo w gw s p T) (hlo : lo ≤ w.heap.size) (hl : s.length ≤ 10000000) :
    Calls Try.prog 110 #[.pointer (some ⟨gw, 0, none⟩), .int .i64 4, .int .i64 n] w (WDone lo gw p (.tuple #[]) (s ++ putB 4 n) T w) := wnum_any lo gw s p T 4 n w hW hlo hl
theorem wquestion_any (lo gw : Nat) (st : WS) (p : Option Addr) (An : Option Addr) (cn : Nat) (q : Qn) (w0 w : World) (hW : WrAt lo w gw st.1 p st.2) (hN : NmR w0 An cn q.name) (h0 : w0.heap.size ≤ lo) (hb0 : Below w0.heap.size w0 w) (hlo : lo ≤ w.heap.size) (hl : st.1.length ≤ 5000000) (hf : fewO st.2 900000) :
    Calls Try.prog 69 #[.pointer (some ⟨gw, 0, none⟩), .agg (qC (.slice An q.name.length cn) q).toArray] w (WDone lo gw p (.int .i64 (checkN q.name)) (putQ st q).1 (putQ st q).2 w) := by
  have P := Lib.hid (fun w' (b : Below w.heap.size w w') => wname_any lo gw st.1 p st.2 An cn q.name w' (hW.below b) ((hN.below hb0).below b) (Nat.le_trans hlo b.size) (by omega) hf)
  have xl := putSO_len st.2 (st.1.length : Int) q.name
  have y1 := putB_length 2 q.ty
  obtain ⟨s', hs'⟩ : ∃ s', s' = (putQ st q).1 := ⟨_, rfl⟩
  rw [← hs']
  have HS := Lib.hid hs'
  clear hs'
  replace HS : Hid (s' = st.1 ++ putSO st.2 st.1.length q.name ++ putB 2 q.ty ++ putB 2 q.cl) := HS
  have hT' : (putQ st q).2 = putTO st.2 st.1.length q.name := rfl
  rw [hT']
  clear hT'
  have N1 := Lib.hid (fun w' (hW : WrAt lo w' gw (st.1 ++ putSO st.2 st.1.length q.name) p (putTO st.2 st.1.length q.name)) (hlo : lo ≤ w'.heap.size) => wnum2_any lo gw _ p _ q.ty w' hW hlo (by simp; omega))
  have N2 := Lib.hid (fun w' (hW : WrAt lo w' gw (st.1 ++ putSO st.2 st.1.length q.name ++ putB 2 q.ty) p (putTO st.2 st.1.length q.name)) (hlo : lo ≤ w'.heap.size) => wnum2_any lo gw _ p _ q.cl w' hW hlo (by simp [y1]; omega))
  generalize st.1 ++ putSO st.2 st.1.length q.name ++ putB 2 q.ty ++ putB 2 q.cl = s3 at *
  obtain rfl := HS.out
  clear HS
  generalize st.1 ++ putSO st.2 st.1.length q.name ++ putB 2 q.ty = s2 at *
  generalize st.1 ++ putSO st.2 st.1.length q.name = s1 at *
  generalize putTO st.2 st.1.length q.name = T1 at *
  generalize checkN q.name = e at *
  unfold qC
  generalize q.name.length = nl at *
  generalize q.ty = ty at *
  generalize q.cl = cl at *
  clear hN hb0 hf hW xl y1
  have B0 := Blk.new w 61 [.slice An nl cn, .int .i64 ty, .int .i64 cl]
  have HB0 : Below w.heap.size w (w.alloc (.cells #[.slice An nl cn, .int .i64 ty, .int .i64 cl] 61)) := (Below.refl _ _).alloc (Nat.le_refl _) _
  have c0 := B0.cell_ 0 rfl
  go_enter Try.func69, Try.ntmps69
  go_wp2_with fail
  refine (P.out _ HB0).mono ?_
  rintro _ w1 ⟨rfl, W1, K1⟩
  have B1 := K1.blkQ B0
  have K1' : KeepW lo w w1 := (KeepW.old HB0 hlo).trans K1
  clear c0 P K1 B0 HB0
  have c1 := B1.cell_ 1 rfl
  go_wp2_with fail
  refine (N1.out _ W1 (K1'.size hlo)).mono ?_
  rintro _ w2 ⟨rfl, W2, K2⟩
  have B2 := K2.blkQ B1
  have K2' : KeepW lo w w2 := K1'.trans K2
  clear c1 N1 K2 B1 K1' W1
  have c2 := B2.cell_ 2 rfl
  go_wp2_with fail
  refine (N2.out _ W2 (K2'.size hlo)).mono ?_
  rintro _ w3 ⟨rfl, W3, K3⟩
  have K3' : KeepW lo w w3 := K2'.trans K3
  clear c2 N2 K3 B2 K2' W2
  go_wp2_with fail
  go_ret
  exact ⟨rfl, W3, K3'⟩
/-- room. -/
theorem room_any (lo gw : Nat) (s : List UInt8) (p : Option Addr) (T : Option Tab) (e : Int) (w : World) (hW : WrAt lo w gw s p T) (hl : s.length ≤ 10000000) :
    Calls Try.prog 68 #[.pointer (some ⟨gw, 0, none⟩), .int .i64 e] w (Ret (.int .i64 (if e = 0 ∧ 65535 < s.length then 3 else e)) w) := by
  obtain ⟨A, c, h1, h2, h3, h4⟩ := hW
  have c0 := h2.cell_ 0 rfl
  by_cases he : e = 0
  · have e1 : (e == 0) = true := by simpa using he
    by_cases hs : 65535 < s.length
    · have e2 : (65535 : Int) < s.length := by omega
      rw [if_pos ⟨he, hs⟩]
      go_enter Try.func68, Try.ntmps68
      go_wp2_with fail
      go_ret
      exact Ret.mk rfl rfl
    · have e2 : ¬ (65535 : Int) < s.length := by omega
      rw [if_neg (fun h => hs h.2)]
      go_enter Try.func68, Try.ntmps68
      go_wp2_with fail
      go_ret
      exact Ret.mk rfl rfl
  · have e1 : (e == 0) = false := by simpa using he
    rw [if_neg (fun h => he h.1)]
    clear he
    go_enter Try.func68, Try.ntmps68
    go_wp2_with fail
    go_ret
    exact Ret.mk rfl rfl
end Go.Proofs.Ytlmgdogblbigpaa
/-
  Layer 14 (message): a record, written.
-/
namespace Go.Proofs.Ytlmgdogblbigpaa
open Go.RowKit
set_option maxRecDepth 100000
set_option linter.unusedVariables false
set_option linter.unusedSimpArgs false

theorem dataR_len {r : RR} (hw : r.wf) (hc : checkR r = 0) (T : Option Tab) (at_ : Int) : (dataR T at_ r).length ≤ 70000 := by
  have hE := (hasE_ok hc).2
  have h16 := hw.1
  have h5 := hw.2
  unfold dataR
  unfold hasE at hE
  split
  · simp; omega
  split
  · omega
  split
  · have := putSO_len T at_ r.tg; omega
  split
  · have := putSO_len none 0 r.tg
    have e : putSO none 0 r.tg = putZ r.tg := rfl
    rw [e] at this
    simp [putB_length]; omega
  split
  · have a1 := putSO_len T at_ r.tg
    have a2 := putSO_len (putTO T at_ r.tg) (at_ + (putSO T at_ r.tg).length) r.ml
    have a3 : (r.nums.flatMap (putB 4)).length = 20 := by
      match r.nums, h5 with
      | [a, b, c, d, e], _ => simp [putB_length]
    simp only [List.length_append]
    omega
  · rw [if_neg ‹_›, if_neg ‹_›, if_neg ‹_›, if_neg ‹_›, if_neg ‹_›] at hE
    by_cases h : 65535 < r.raw.length
    · rw [if_pos h] at hE; cases hE
    · omega
set_option maxHeartbeats 2000000 in
theorem wrecord_any (lo gw : Nat) (st : WS) (p : Option Addr) (cs : List Value) (r : RR) (w0 w : World) (hW : WrAt lo w gw st.1 p st.2) (hR : RRis w0 cs r) (h0 : w0.heap.size ≤ lo) (hb0 : Below w0.heap.size w0 w) (hlo : lo ≤ w.heap.size) (hl : st.1.length ≤ 500000) (hf : fewO st.2 700000) (hc : checkR r = 0) :
    Calls Try.prog 71 #[.pointer (some ⟨gw, 0, none⟩), .agg cs.toArray] w (WDone lo gw p (.int .i64 0) (putRec st r).1 (putRec st r).2 w) := by
  have hname := (hasE_ok hc).1
  obtain ⟨An, cn, L0, hN, hwf, hcl⟩ : ∃ An cn, cs[0]? = some (.slice An r.name.length cn) ∧ NmR w0 An cn r.name ∧ r.wf ∧ cs.length = 33 := by
    obtain ⟨An, cn, At, ct, Am, cm, rfl, hr, hN, _⟩ := hR; exact ⟨An, cn, rfl, hN, hr, rrC_len hr⟩
  have L1 : cs[1]? = some (.int .i64 r.ty) := by obtain ⟨_, _, _, _, _, _, rfl, hr, _⟩ := hR; rfl
  have L2 : cs[2]? = some (.int .i64 r.cl) := by obtain ⟨_, _, _, _, _, _, rfl, hr, _⟩ := hR; rfl
  have L3 : cs[3]? = some (.int .i64 r.ttl) := by obtain ⟨_, _, _, _, _, _, rfl, hr, _⟩ := hR; rfl
  have P := Lib.hid (fun w' (b : Below w.heap.size w w') => wname_any lo gw st.1 p st.2 An cn r.name w' (hW.below b) ((hN.below hb0).below b) (Nat.le_trans hlo b.size) (by omega) (fun T' h => Nat.le_trans (hf T' h) (by omega)))
  rw [hname] at P
  have xl := putSO_len st.2 (st.1.length : Int) r.name
  have y1 := putB_length 2 r.ty
  have y2 := putB_length 2 r.cl
  have y3 := putB_length 4 r.ttl
  have hfT : fewO (recT st r) 800000 := fun T' h => Nat.le_trans ((hf.put _ _) T' h) (by omega)
  have hsl : (recS st r).length ≤ 501000 := by simp only [recS, List.length_append]; omega
  have hdl := dataR_len hwf hc (recT st r) ((recS st r).length + 2)
  have D := Lib.hid (fun w' (b : Below lo w w') (hlo' : lo ≤ w'.heap.size) (hT' : TabO lo w' p (recT st r)) => rput_any lo cs r ((recS st r).length + 2) p (recT st r) w0 w' hR h0 (hb0.trans (b.mono h0)) hlo' hT' hfT (by omega) (by omega))
  have er1 : rputS (recT st r) ((recS st r).length + 2) r = recD st r := by unfold rputS; rw [if_pos hc]; rfl
  have er2 : rputT (recT st r) ((recS st r).length + 2) r = (putRec st r).2 := by unfold rputT; rw [if_pos hc]; rfl
  rw [er1, er2, hc] at D
  replace hdl : (recD st r).length ≤ 70000 := hdl
  have hs' : (putRec st r).1 = recS st r ++ putB 2 (recD st r).length ++ recD st r := rfl
  have y4 := putB_length 2 ((recD st r).length : Int)
  rw [hs']
  have N1 := Lib.hid (fun w' (hW : WrAt lo w' gw (st.1 ++ putSO st.2 st.1.length r.name) p (recT st r)) (hlo : lo ≤ w'.heap.size) => wnum2_any lo gw _ p _ r.ty w' hW hlo (by simp; omega))
  have N2 := Lib.hid (fun w' (hW : WrAt lo w' gw (st.1 ++ putSO st.2 st.1.length r.name ++ putB 2 r.ty) p (recT st r)) (hlo : lo ≤ w'.heap.size) => wnum2_any lo gw _ p _ r.cl w' hW hlo (by simp; omega))
  have N3 := Lib.hid (fun w' (hW : WrAt lo w' gw (st.1 ++ putSO st.2 st.1.length r.name ++ putB 2 r.ty ++ putB 2 r.cl) p (recT st r)) (hlo : lo ≤ w'.heap.size) => wnum4_any lo gw _ p _ r.ttl w' hW hlo (by simp; omega))
  have N4 := Lib.hid (fun w' (hW : WrAt lo w' gw (recS st r) p (putRec st r).2) (hlo : lo ≤ w'.heap.size) => wnum2_any lo gw _ p _ ((recD st r).length : Int) w' hW hlo (by omega))
  have hs4l : (recS st r ++ putB 2 (recD st r).length).length ≤ 600000 := by simp only [List.length_append]; omega
  clear hs' er1 er2 hfT hR hf hN hb0 hW hwf hc
  change Hid (∀ w' : World, WrAt lo w' gw (st.1 ++ putSO st.2 st.1.length r.name ++ putB 2 r.ty ++ putB 2 r.cl) p (recT st r) → lo ≤ w'.heap.size → Calls Try.prog 110 #[.pointer (some ⟨gw, 0, none⟩), .int .i64 4, .int .i64 r.ttl] w' (WDone lo gw p (.tuple #[]) (recS st r) (recT st r) w')) at N3
  change Hid (∀ w' : World, Below w.heap.size w w' → Calls Try.prog 109 #[.pointer (some ⟨gw, 0, none⟩), .slice An r.name.length cn] w' (WDone lo gw p (.int .i64 0) (st.1 ++ putSO st.2 st.1.length r.name) (recT st r) w')) at P
  generalize (putRec st r).2 = T2 at *
  generalize recD st r = d at *
  generalize recS st r = s4 at *
  generalize recT st r = T1 at *
  generalize st.1 ++ putSO st.2 st.1.length r.name ++ putB 2 r.ty ++ putB 2 r.cl = s3 at *
  generalize st.1 ++ putSO st.2 st.1.length r.name ++ putB 2 r.ty = s2 at *
  generalize st.1 ++ putSO st.2 st.1.length r.name = s1 at *
  generalize r.name.length = nl at *
  generalize r.ty = ty at *
  generalize r.cl = cl at *
  generalize r.ttl = ttl at *
  clear xl y1 y2 y3
  have B0 := Blk.new w 86 cs
  have HB0 : Below w.heap.size w (w.alloc (.cells cs.toArray 86)) := (Below.refl _ _).alloc (Nat.le_refl _) _
  have c0 := B0.cell_ 0 L0
  go_enter Try.func71, Try.ntmps71
  go_wp2_with fail
  refine (P.out _ HB0).mono ?_
  rintro _ w1 ⟨rfl, W1, K1⟩
  have B1 := K1.blkR B0
  have K1' : KeepW lo w w1 := (KeepW.old HB0 hlo).trans K1
  clear c0 P K1 B0 HB0 L0
  have c1 := B1.cell_ 1 L1
  go_wp2_with fail
  refine (N1.out _ W1 (K1'.size hlo)).mono ?_
  rintro _ w2 ⟨rfl, W2, K2⟩
  have B2 := K2.blkR B1
  have K2' : KeepW lo w w2 := K1'.trans K2
  clear c1 N1 K2 B1 K1' W1 L1
  have c2 := B2.cell_ 2 L2
  go_wp2_with fail
  refine (N2.out _ W2 (K2'.size hlo)).mono ?_
  rintro _ w3 ⟨rfl, W3, K3⟩
  have B3 := K3.blkR B2
  have K3' : KeepW lo w w3 := K2'.trans K3
  clear c2 N2 K3 B2 K2' W2 L2
  have c3 := B3.cell_ 3 L3
  go_wp2_with fail
  refine (N3.out _ W3 (K3'.size hlo)).mono ?_
  rintro _ w4 ⟨rfl, W4, K4⟩
  have B4 := K4.blkR B3
  have K4' : KeepW lo w w4 := K3'.trans K4
  have hlo4 := K4'.size hlo
  clear c3 N3 K4 B3 K3' W3 L3
  obtain ⟨A, c, h1, h2, h3, h4⟩ := W4
  go_wp2_with fail
  have hw1 : IntKind.i64.wrap ((s4.length : Int) + 2) = (s4.length : Int) + 2 := IntWalk.i64_in _ (by omega)
  refine wp_region_held_drew (S := fun W => Blk W gw 120 [.slice A s4.length c, .pointer p] ∧ Blk W w.heap.size 86 cs) (by kernel_rfl) ⟨h2.drew, B4.drew⟩ (fun hS => ?_)
  have hD : Below w4.heap.size w4 w4.drew := (Below.refl _ _).drew
  refine held_ld 0 (some 28) 86 (.tmp 3) ⟨w.heap.size, 0, none⟩ rfl rfl rfl rfl (by kernel_rfl) (by kernel_rfl) (by kernel_rfl) (fun _ _ _ h => h) (by kernel_rfl) (fun W hW => hW.2.loads 86 0 33 (by omega) _ Try.underlying86 rfl rrInfo cs (by rw [List.drop_zero, List.take_of_length_le (by omega)])) hS ?_
  simp only [Act.put, List.setIfInBounds_toArray, List.set_cons_zero, List.set_cons_succ]
  (refine held_val 1 (some 29) rfl rfl (by kernel_rfl) (by kernel_rfl) (by kernel_rfl) (fun _ _ _ h => h) (by kernel_rfl) (fun W hW => rfl) hS ?_; simp only [Act.put, List.setIfInBounds_toArray, List.set_cons_zero, List.set_cons_succ])
  (refine held_val 2 (some 30) rfl rfl (by kernel_rfl) (by kernel_rfl) (by kernel_rfl) (fun _ _ _ h => h) (by kernel_rfl) (fun W hW => rfl) hS ?_; simp only [Act.put, List.setIfInBounds_toArray, List.set_cons_zero, List.set_cons_succ])
  (refine held_val 3 (some 31) rfl rfl (by kernel_rfl) (by kernel_rfl) (by kernel_rfl) (fun _ _ _ h => h) (by kernel_rfl) (fun W hW => rfl) hS ?_; simp only [Act.put, List.setIfInBounds_toArray, List.set_cons_zero, List.set_cons_succ])
  refine held_ld 4 (some 32) 94 (.tmp 31) ⟨gw, 0, none⟩ rfl rfl rfl rfl (by kernel_rfl) (by kernel_rfl) (by kernel_rfl) (fun _ _ _ h => h) (by kernel_rfl) (fun W hW => run_load1 Try.underlying94 rfl (hW.1.cell_ 0 rfl)) hS ?_
  simp only [Act.put, List.setIfInBounds_toArray, List.set_cons_zero, List.set_cons_succ]
  refine held_val 5 (some 33) (v := .int .i64 (s4.length : Int)) rfl rfl (by kernel_rfl) (by kernel_rfl) (by kernel_rfl) (fun _ _ _ h => h) (by kernel_rfl) (fun W hW => by go_simp) hS ?_
  simp only [Act.put, List.setIfInBounds_toArray, List.set_cons_zero, List.set_cons_succ]
  refine held_val 6 (some 34) (v := .int .i64 ((s4.length : Int) + 2)) rfl rfl (by kernel_rfl) (by kernel_rfl) (by kernel_rfl) (fun _ _ _ h => h) (by kernel_rfl) (fun W hW => by go_simp) hS ?_
  simp only [Act.put, List.setIfInBounds_toArray, List.set_cons_zero, List.set_cons_succ]
  (refine held_val 7 (some 35) rfl rfl (by kernel_rfl) (by kernel_rfl) (by kernel_rfl) (fun _ _ _ h => h) (by kernel_rfl) (fun W hW => rfl) hS ?_; simp only [Act.put, List.setIfInBounds_toArray, List.set_cons_zero, List.set_cons_succ])
  (refine held_val 8 (some 36) rfl rfl (by kernel_rfl) (by kernel_rfl) (by kernel_rfl) (fun _ _ _ h => h) (by kernel_rfl) (fun W hW => rfl) hS ?_; simp only [Act.put, List.setIfInBounds_toArray, List.set_cons_zero, List.set_cons_succ])
  (refine held_val 9 (some 37) rfl rfl (by kernel_rfl) (by kernel_rfl) (by kernel_rfl) (fun _ _ _ h => h) (by kernel_rfl) (fun W hW => rfl) hS ?_; simp only [Act.put, List.setIfInBounds_toArray, List.set_cons_zero, List.set_cons_succ])
  refine held_ld 10 (some 38) 35 (.tmp 37) ⟨gw, 1, none⟩ rfl rfl rfl rfl (by kernel_rfl) (by kernel_rfl) (by kernel_rfl) (fun _ _ _ h => h) (by kernel_rfl) (fun W hW => run_load1 Try.underlying35 rfl (hW.1.cell_ 1 rfl)) hS ?_
  simp only [Act.put, List.setIfInBounds_toArray, List.set_cons_zero, List.set_cons_succ]
  refine held_call 11 (some 39) 51 #[.agg cs.toArray, .int .i64 ((s4.length : Int) + 2), .pointer p] (by kernel_rfl) rfl rfl (by kernel_rfl) (by go_simp) (D.out _ (K4'.1.trans (hD.mono hlo4)) (Nat.le_trans hlo4 hD.size) (h4.below hD)) ?_
  rintro _ w5 ⟨rfl, hT5, hK5⟩
  have B5 := hK5.blk h2.drew
  have O5 : OwnB w5 lo (.slice A s4.length c) s4 := by
    rcases h3 with hn | ⟨g, cap, cur, fz, hv, hB, hh, rest⟩
    · exact .inl hn
    · exact .inr ⟨g, cap, cur, fz, hv, hB, hK5.2 g _ cur fz hh, rest⟩
  have K5 : KeepW lo w w5 := (K4'.trans (KeepW.old hD hlo4)).trans (KeepW.ofKeep hK5)
  have hlo5 := K5.size hlo
  refine ⟨_, rfl, ⟨B5, hK5.blk B4.drew⟩, ?_⟩
  replace hS : Blk w5 gw 120 [.slice A s4.length c, .pointer p] ∧ Blk w5 w.heap.size 86 cs := ⟨B5, hK5.blk B4.drew⟩
  clear hK5 D hD h2 h3 h4 B4 K4' hlo4
  simp only [Act.put, List.setIfInBounds_toArray, List.set_cons_zero, List.set_cons_succ]
  (refine held_val 12 (some 27) rfl rfl (by kernel_rfl) (by kernel_rfl) (by kernel_rfl) (fun _ _ _ h => h) (by kernel_rfl) (fun W hW => rfl) hS ?_; simp only [Act.put, List.setIfInBounds_toArray, List.set_cons_zero, List.set_cons_succ])
  (refine held_val 13 (some 40) rfl rfl (by kernel_rfl) (by kernel_rfl) (by kernel_rfl) (fun _ _ _ h => h) (by kernel_rfl) (fun W hW => rfl) hS ?_; simp only [Act.put, List.setIfInBounds_toArray, List.set_cons_zero, List.set_cons_succ])
  (refine held_val 14 (some 41) rfl rfl (by kernel_rfl) (by kernel_rfl) (by kernel_rfl) (fun _ _ _ h => h) (by kernel_rfl) (fun W hW => rfl) hS ?_; simp only [Act.put, List.setIfInBounds_toArray, List.set_cons_zero, List.set_cons_succ])
  refine held_val 15 (some 6) (v := .string (bs d)) rfl rfl (by kernel_rfl) (by kernel_rfl) (by kernel_rfl) (fun _ _ _ h => h) (by kernel_rfl) (fun W hW => rfl) hS ?_
  simp only [Act.put, List.setIfInBounds_toArray, List.set_cons_zero, List.set_cons_succ]
  refine held_val 16 (some 7) (v := .int .i64 0) rfl rfl (by kernel_rfl) (by kernel_rfl) (by kernel_rfl) (fun _ _ _ h => h) (by kernel_rfl) (fun W hW => rfl) hS ?_
  simp only [Act.put, List.setIfInBounds_toArray, List.set_cons_zero, List.set_cons_succ]
  refine wpAnyH_done (by kernel_rfl) ?_ _
  clear hS
  have W5 : WrAt lo w5 gw s4 p T2 := ⟨A, c, h1, B5, O5, hT5⟩
  clear B5 O5 hT5 hw1
  go_wp2_with fail
  refine (N4.out _ W5 hlo5).mono ?_
  rintro _ w6 ⟨rfl, W6, K6⟩
  have K6' := K5.trans K6
  have hlo6 := K6'.size hlo
  clear K6 K5 W5 N4 hlo5
  generalize s4 ++ putB 2 (d.length : Int) = s5 at *
  obtain ⟨A, c, h1, h2, h3, h4⟩ := W6
  have c0 := h2.cell_ 0 rfl
  go_wp2_with (at_builtin; go_must (refine wpList_appB' _ rfl (.tmp 50) (.tmp 51) rfl lo _ s5 d rfl h3 hlo6 rfl (by omega) ?_))
  intro A' c' w7 k1 g1
  have B7 := h2.grown g1 (h3.ne h2 (by decide))
  clear c0
  go_wp2_with (refine at_op (.store 94 (.tmp 54) (.tmp 52)) rfl ?_; go_must (refine wpList_stC rfl 94 (.tmp 54) (.tmp 52) rfl gw 0 rfl _ rfl B7 (by simp) bytesInfo1 rfl rfl ?_))
  intro w8 hb8 hg8 hs8
  rw [← List.length_append] at hb8 k1
  obtain ⟨R1, R2⟩ := wr_step (x := d) hlo6 h1 h2 h3 h4 k1 g1 hb8 hg8
  have R3 := K6'.trans R2
  clear hb8 hg8 hs8 B7 g1 k1 R2 h2 h3 h4
  go_wp2_with fail
  go_ret
  exact ⟨rfl, R1, R3⟩
end Go.Proofs.Ytlmgdogblbigpaa

/-
  Layer 14 (message): what Decode defers.
-/
import Derived.Test.YtlmgdogblbigpaaMr1
namespace Go.Proofs.Ytlmgdogblbigpaa
open Go.RowKit
set_option maxRecDepth 100000
set_option linter.unusedVariables false
set_option linter.unusedSimpArgs false

theorem dec1_idle (p q : Addr) (w : World) :
    CallsD Try.prog 98 #[.pointer (some p), .pointer (some q)] .returning w fun e u' w' => e = .returned (.tuple #[]) ∧ u' = .returning ∧ w' = w := by
  refine callsD_of_wpS Try.func98 rfl fun c₀ cs hu => ?_
  apply wpS_seq
  apply wpS_region
  simp [wpOpsS, go_sem, recoverD, hu, Try.ntmps98, Exit.thenS]
  refine wpS_rest0 hu ?_
  refine wp_tmps [.pointer (some p), .pointer (some q), .nilIface, undef, undef, .nilIface, undef, undef, undef, undef, undef, undef, undef, undef, undef, undef, undef, undef, undef] (by rfl) ?_
  clear hu
  go_wp2
  first | go_end0 | refine bodyPost_ret (results_none rfl _ _ _) rfl ?_
  first | exact ⟨rfl, rfl, rfl⟩ | exact ⟨rfl, rfl⟩ | rfl
theorem errInfo1 : (Try.prog.info? 25).map (·.size) = some 1 := by kernel_rfl
theorem msgZ_one : ∀ v ∈ msgZ, v.oneCell' = true := msgC_one _ rfl rfl rfl rfl
set_option maxHeartbeats 1000000 in
theorem dec1_stop (b0 : Nat) (L : List Value) (hL : L.length = 14) (v1 : Value) (x : Int) (w : World) (h0 : Blk w b0 52 L) (h1 : Blk w (b0 + 1) 25 [v1]) :
    CallsD Try.prog 98 #[.pointer (some ⟨b0, 0, none⟩), .pointer (some ⟨b0 + 1, 0, none⟩)] (.panicking (mstop x)) w fun e u' w' =>
      e = .returned (.tuple #[]) ∧ u' = .panicking [{ v := .iface 149 (.agg #[.int .i64 x]), recovered := true }] ∧ Blk w' b0 52 msgZ ∧ Blk w' (b0 + 1) 25 [.int .i64 x] ∧ Below b0 w w' := by
  have hTa : ∀ w : World, (Instr.typeAssert (.iface 149 (.agg #[.int .i64 x])) 20 149 true).run Try.prog w = .ok (.tuple #[.agg #[.int .i64 x], .bool true]) w := fun _ => by kernel_rfl
  have l0 := h0.lt
  have l1 := h1.lt
  refine callsD_of_wpS Try.func98 rfl fun c₀ cs hu => ?_
  unfold mstop at hu
  apply wpS_seq
  apply wpS_region
  simp [wpOpsS, go_sem, recoverD, hu, Try.ntmps98, Exit.thenS]
  refine wpS_rest (u' := .panicking [{ v := .iface 149 (.agg #[.int .i64 x]), recovered := true }]) ?_
  refine wp_tmps [.pointer (some ⟨b0, 0, none⟩), .pointer (some ⟨b0 + 1, 0, none⟩), .iface 149 (.agg #[.int .i64 x]), undef, undef, .iface 149 (.agg #[.int .i64 x]), undef, undef, undef, undef, undef, undef, undef, undef, undef, undef, undef, undef, undef] (by rfl) ?_
  clear hu
  have kn : Below w.heap.size w (w.alloc (.cells #[.int .i64 x] 149)) := (Below.refl _ _).alloc (Nat.le_refl _) _
  have Bs := Blk.new w 149 [.int .i64 x]
  have C0 := h0.below kn l0
  have C1 := h1.below kn l1
  have kb : Below b0 w (w.alloc (.cells #[.int .i64 x] 149)) := kn.mono (by omega)
  obtain ⟨w1, hw1⟩ : ∃ w1, w1 = w.alloc (.cells #[.int .i64 x] 149) := ⟨_, rfl⟩
  have HW := Lib.hid hw1
  rw [← hw1] at Bs C0 C1 kb
  clear hw1 kn h0 h1
  go_wp2_with fail
  rw [← HW.out]
  clear HW
  refine wp_region_held_drew (S := fun W => W.cell? ⟨w.heap.size, 0, none⟩ = some (.int .i64 x)) (by kernel_rfl) (Bs.cell_ 0 rfl) (fun hS => ?_)
  refine held_val 0 (some 16) (v := .agg msgZ.toArray) rfl rfl (by kernel_rfl) (by kernel_rfl) (by kernel_rfl) (fun _ _ _ h => h) (by kernel_rfl) (fun W hW => by kernel_rfl) hS ?_
  simp only [Act.put, List.setIfInBounds_toArray, List.set_cons_zero, List.set_cons_succ]
  (refine held_val 1 (some 17) rfl rfl (by kernel_rfl) (by kernel_rfl) (by kernel_rfl) (fun _ _ _ h => h) (by kernel_rfl) (fun W hW => rfl) hS ?_; simp only [Act.put, List.setIfInBounds_toArray, List.set_cons_zero, List.set_cons_succ])
  refine held_ld 2 (some 18) 25 (.tmp 17) ⟨w.heap.size, 0, none⟩ rfl rfl rfl rfl (by kernel_rfl) (by kernel_rfl) (by kernel_rfl) (fun _ _ _ h => h) (by kernel_rfl) (fun W hW => run_load1 Try.underlying25 rfl hW) hS ?_
  simp only [Act.put, List.setIfInBounds_toArray, List.set_cons_zero, List.set_cons_succ]
  refine held_stB 3 none 52 (.tmp 0) (.tmp 16) (by kernel_rfl) rfl rfl rfl (by kernel_rfl) b0 0 rfl msgZ rfl C0.drew (by rw [hL]; decide) msgInfo msgZ_one ?_
  intro w2 B2 g2 _
  rw [whole_of (by rw [hL]; rfl)] at B2
  have D1 := (C1.drew).grown g2 (by simp)
  have S2 := (Bs.drew).grown g2 (by simp; omega)
  have k2 : Below b0 w w2 := below_grown (w := w1.drew) kb.drew g2 (by have := kb.size; simp; omega) (Nat.le_refl _)
  refine ⟨S2.cell_ 0 rfl, ?_⟩
  simp only [Act.put, List.setIfInBounds_toArray, List.set_cons_zero, List.set_cons_succ]
  refine ord_one 4 (by kernel_rfl) ?_
  refine opw_stC 4 25 (.tmp 1) (.tmp 18) rfl rfl rfl (by kernel_rfl) (b0 + 1) 0 rfl (.int .i64 x) rfl D1 (by simp) errInfo1 rfl rfl ?_
  intro w3 B3 g3 _
  have E0 := B2.grown g3 (by simp)
  have S3 := S2.grown g3 (by simp; omega)
  have k3 : Below b0 w w3 := below_grown k2 g3 (by have := k2.size; omega) (by omega)
  refine ⟨S3.cell_ 0 rfl, ?_⟩
  simp only [Act.put, List.setIfInBounds_toArray, List.set_cons_zero, List.set_cons_succ]
  refine wpAnyH_done (by kernel_rfl) ?_ _
  go_wp2_with fail
  go_end0
  first | exact ⟨rfl, rfl, E0, B3, k3⟩ | exact ⟨rfl, E0, B3, k3⟩
/-- The one operation that may come up is a call that panics. -/
theorem opw_panic {P : Program} {ops : Array Oper} {Q : Exit → Act → World → Prop} {K : Act → World → Prop} {o : Oper} {a : Act} {w : World} (i : Nat) (f : FuncId) (vs : Array Value) (hi : ops[i]? = some o) (hw : Region.wanted o (yielded ops a.tmps) = true) (he : (execOp a.eval o).run P w = .ok (.enter f vs) w)
    {R : Ending → World → Prop} (hc : Calls P f vs w R) (h : ∀ e w', R e w' → ∃ ch, e = .panicked ch ∧ Q (.panic ch) a w') : wpOp P ops Q i K a w := by
  unfold wpOp
  simp only [hi, hw, if_true]
  left
  unfold Oper.wp
  rw [he]
  simp only [Oper.upon]
  refine hc.mono fun e w' hR => ?_
  obtain ⟨ch, rfl, h'⟩ := h e w' hR
  exact h'
end Go.Proofs.Ytlmgdogblbigpaa

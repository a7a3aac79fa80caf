/-
  Layer 14 (message): Decode.
-/
import Derived.Test.YtlmgdogblbigpaaMr3
import Derived.Test.YtlmgdogblbigpaaMr4
namespace Go.Proofs.Ytlmgdogblbigpaa
open Go.RowKit
set_option maxRecDepth 100000
set_option linter.unusedVariables false
set_option linter.unusedSimpArgs false

/-- What Decode tells. -/
def DecRet (o : Except Int Msg) (w : World) (e : Ending) (w' : World) : Prop :=
  match o with
  | .error x => x ≠ 0 ∧ e = .returned (.tuple #[.agg msgZ.toArray, .int .i64 x]) ∧ Below w.heap.size w w'
  | .ok m => ∃ cs, e = .returned (.tuple #[.agg cs.toArray, .int .i64 0]) ∧ MsgOwn w' cs m ∧ Below w.heap.size w w'
theorem leaves_dec {tmps : Array Value} {R : Ending → World → Prop} {w : World} {b0 : Nat} {L : List Value} {x : Int} (h2 : tmps.getD 2 undef = .pointer (some ⟨b0, 0, none⟩)) (h3 : tmps.getD 3 undef = .pointer (some ⟨b0 + 1, 0, none⟩)) (hb : Blk w b0 52 L) (hl : L.length = 14) (he : Blk w (b0 + 1) 25 [.int .i64 x]) (hR : R (.returned (.tuple #[.agg L.toArray, .int .i64 x])) w) :
    Leaves Try.prog Try.f54 tmps R [] .returning w := by
  have e1 := run_loadVar_row (P := Try.prog) w b0 52 52 L.toArray (0, 0) _ hb Try.underlying52 rfl (by rw [List.size_toArray, hl]; exact msgInfo)
  have c1 := he.cell_ 0 rfl
  have h2' : tmps[2]?.getD undef = .pointer (some ⟨b0, 0, none⟩) := by simpa using h2
  have h3' : tmps[3]?.getD undef = .pointer (some ⟨b0 + 1, 0, none⟩) := by simpa using h3
  have e2 : (loadVar 25 ⟨b0 + 1, 0, none⟩).run Try.prog w = .ok (.int .i64 x) w := by
    simp [loadVar, isAgg, run_underlying Try.underlying25, c1, go_sem]
  refine ⟨_, ?_, hR⟩
  simp [results, Try.results54, asAddr, h2', h3', e1, e2]
theorem mdecode_long (m : List UInt8) (w : World) (hm : 65535 < m.length) (hl : m.length ≤ maxLen) : Calls Try.prog 54 #[.string (bs m)] w (DecRet (.error 3) w) := by
  have hm' : (65535 : Int) < m.length := by omega
  have hmf : ∀ (fn : Fn) (first cap : Array Value) (w : World), (Instr.makeFunc fn first cap).run Try.prog w = .ok (.func fn first cap) w := fun _ _ _ _ => rfl
  clear hm
  go_enter_defers Try.func54, Try.ntmps54
  go_wp2_with fail
  simp [bodyPostD, Leaves, results, Try.results54, go_sem]
  exact ⟨by decide, rfl, ((Below.refl _ _).alloc (Nat.le_refl _) _).alloc (by simp) _⟩
theorem mdecode_short (m : List UInt8) (w : World) (hm : m.length < 12) : Calls Try.prog 54 #[.string (bs m)] w (DecRet (.error 1) w) := by
  have hm' : ¬ (65535 : Int) < m.length := by omega
  have hmf : ∀ (fn : Fn) (first cap : Array Value) (w : World), (Instr.makeFunc fn first cap).run Try.prog w = .ok (.func fn first cap) w := fun _ _ _ _ => rfl
  have H := Lib.hid (fun w => headGet_short m w hm)
  unfold Hd.agg Hd.zero cnts at H
  clear hm
  go_enter_defers Try.func54, Try.ntmps54
  go_wp2_with fail
  refine (H.out _).mono ?_
  rintro _ w1 ⟨rfl, b1⟩
  have b0 : ∀ o1 o2, Below w.heap.size w ((w.alloc o1).alloc o2) := fun o1 o2 => ((Below.refl _ _).alloc (Nat.le_refl _) _).alloc (by simp) _
  have HB := below_then (b0 _ _) (by simp; omega) b1
  have BM' : Blk w1 w.heap.size 52 msgZ := ((Blk.new w 52 msgZ).alloc _).below b1 (by simp; omega)
  have BE' : Blk w1 (w.heap.size + 1) 25 [.int .i64 0] := (Blk.new' (w.alloc (.cells msgZ.toArray 52)) 25 [.int .i64 0] _ (by simp)).below b1 (by simp)
  have kk : ∀ o1 o2, Below w1.heap.size w1 ((w1.alloc o1).alloc o2) := fun o1 o2 => ((Below.refl _ _).alloc (Nat.le_refl _) _).alloc (by simp) _
  have hsz : w.heap.size + 2 ≤ w1.heap.size := by have := BE'.lt; omega
  clear b1 b0 H
  go_wp2_with (refine at_op (.store 52 (.tmp 2) (.tmp 20)) rfl ?_; go_must (refine wpList_stB rfl 52 (.tmp 2) (.tmp 20) rfl w.heap.size 0 rfl msgZ rfl (BM'.below (kk _ _) BM'.lt) (by decide) msgInfo msgZ_one ?_))
  intro w2 B2 g2 _
  have E2 := (BE'.below (kk _ _) BE'.lt).grown g2 (by simp)
  have b2 := below_grown (below_then HB HB.size (kk _ _)) g2 (by simp; omega) (Nat.le_refl _)
  clear BM' BE' kk g2 HB
  go_wp2_with (refine at_op (.store 25 (.tmp 3) (.tmp 21)) rfl ?_; go_must (refine wpList_stC rfl 25 (.tmp 3) (.tmp 21) rfl (w.heap.size + 1) 0 rfl (.int .i64 1) rfl E2 (by simp) errInfo1 rfl rfl ?_))
  intro w3 E3 g3 _
  have B3 := B2.grown g3 (by simp)
  have b3 := below_grown b2 g3 b2.size (by omega)
  clear B2 E2 b2 g3
  go_wp2_with fail
  refine leaves_dec rfl rfl B3 rfl E3 ?_
  exact ⟨by decide, rfl, b3⟩
end Go.Proofs.Ytlmgdogblbigpaa

/-
  Layer 12 (packed): label, where it goes on.
-/
import Derived.Test.YtlmgdogblbigpaaPk
namespace Go.Proofs.Ytlmgdogblbigpaa
open Go.RowKit
set_option maxRecDepth 100000
set_option linter.unusedVariables false

/-- What a whole label's reading comes to. -/
def LabAny (m : List UInt8) (g a z c : Nat) (l : List (List UInt8)) (lo : Nat) (w : World) (e : Ending) (w' : World) : Prop :=
  (z + (c + 1) ≤ 255 ∧ LabRet m g a z c l lo w e w') ∨ (255 < z + (c + 1) ∧ e = .panicked (stopP 3) ∧ Below lo w w')
/-- Behind the append. -/
def LabMid (m : List UInt8) (g a z c : Nat) (l : List (List UInt8)) (lo : Nat) (w wx : World) : Prop :=
  ∃ v, RdAt wx g m a z v ∧ Txts wx v (l ++ [(m.take (a + c)).drop a]) ∧ Below lo w wx ∧ (∀ k, v.ownBlock = some k → lo ≤ k ∧ k ≠ g)
theorem labMid {m : List UInt8} {g a z c gg cap : Nat} {l : List (List UInt8)} {lo : Nat} {w W w1 : World} {v : Value} {o : Obj} (h1 : RdAt w1 g m a z v) (hB : Below lo w W) (hlo : lo ≤ g) (hgl : g < W.heap.size)
    (hOB : Hid (∀ k, v.ownBlock = some k → lo ≤ k ∧ k ≠ g))
    (hown : w1.ownsRow 0 9 1 (.slice (some ⟨gg, 0, none⟩) (l.length + 1) cap) (l.length + 1) (l.map (fun t => Value.string (bs t)) ++ [.string (bs ((m.take (a + c)).drop a))]))
    (hgrow : (W.alloc o).drew.grownBy w1 v.ownBlock) (hat : v.ownBlock = some gg ∨ gg = W.heap.size + 1) :
    LabMid m g a z c l lo w (w1.setCell ⟨g, 3, none⟩ (.slice (some ⟨gg, 0, none⟩) (l.length + 1) cap)) := by
  have hne : gg ≠ g ∧ lo ≤ gg := by
    rcases hat with h | h
    · have := hOB.out gg h; exact ⟨this.2, this.1⟩
    · have := hB.size; omega
  refine ⟨_, h1.set 3 _, ?_, ?_, ?_⟩
  · have := ownsRow_setCell_other hown (a := ⟨g, 3, none⟩) (by simp [Value.ownBlock]; omega) (.slice (some ⟨gg, 0, none⟩) (l.length + 1) cap)
    unfold Txts
    simpa using this
  · refine Below.setCell ?_ hlo _
    exact (hB.alloc (by omega) o).drew.grown hgrow (by simp; omega) (fun k hk => (hOB.out k hk).1)
  · intro k hk
    simp [Value.ownBlock] at hk
    omega
set_option maxHeartbeats 8000000 in
theorem label_yes (g : Nat) (m : List UInt8) (a z c : Nat) (v : Value) (l : List (List UInt8)) (lo : Nat) (w : World) (h : RdAt w g m a z v) (ht : Txts w v l) (hlo : lo ≤ g) (hob : ∀ k, v.ownBlock = some k → lo ≤ k ∧ k ≠ g) (hl : m.length ≤ 70000) (hll : l.length ≤ 300) (hz : z ≤ 255)  (hc : c ≤ 63) (hs : a + c ≤ m.length) :
    Calls Try.prog 103 #[.pointer (some ⟨g, 0, none⟩), .int .i64 c] w (LabAny m g a z c l lo w) := by
  have c0 := h.cell_ 0 rfl
  have c1 := h.cell_ 1 rfl
  have c3 := h.cell_ 3 rfl
  have hs' : (c : Int) ≤ (m.length : Int) - a := by omega
  have hs2 : (a : Int) + c ≤ m.length := by omega
  go_enter Try.func103, Try.ntmps103
  go_wp2_with fail
  go_quiet (fail)
  go_upto_region 2 with fail
  obtain ⟨i0, hi0, hz0, hz1, hz2⟩ := info_parts strInfo
  obtain ⟨W, hW⟩ : ∃ W, W = w.drewN nq := ⟨_, rfl⟩
  rw [← hW]
  have h' : RdAt W g m a z v := hW ▸ h.drewN _
  have ht' : Txts W v l := hW ▸ ht
  have hB : Below lo w W := hW ▸ below_drewN (Below.refl _ _) _
  have hOB := Lib.hid hob
  clear hW h ht hob c0 c1 c3
  have hgl := h'.lt
  go_cut [] (fun wx => LabMid m g a z c l lo w wx)
  case first =>
    have c0 := h'.cell_ 0 rfl
    have c1 := h'.cell_ 1 rfl
    have c3 := h'.cell_ 3 rfl
    have f3 := h'.frozen 3
    have hw1 : IntKind.i64.wrap ((a : Int) + c) = (a : Int) + c := IntWalk.i64_in _ (by omega)
    have hn1 : ((a : Int) + c).toNat = a + c := by omega
    have hp1 : (0 : Int) ≤ (a : Int) + c := by omega
    have hp2 : (a : Int) ≤ (a : Int) + c := by omega
    have hne : some g ≠ v.ownBlock := fun e => (hOB.out g e.symm).2 rfl
    go_region_law (refine step_append_lies _ rfl (.tmp 22) (.tmp 38) _ (by rfl) 0 9 i0 _ 1 16 Try.underlying24 hi0 hz0 hz1 hz2 rfl (by decide) v l.length _ (by rfl) (World.ownsRow.alloc ht' _) ⟨W.heap.size, 0, none⟩ 1 1 [.string (bs ((m.take (a + c)).drop a))] (by rfl) (by rfl) (new_one _ _ _ _ rfl) (by simp [Value.oneCell']) (by omega) (by simp only [maxLen]; omega) (by omega) (Nat.zero_le _) (W.heap.size + 1) (by simp) ?_; intro gg cap w1 hown1 hgrow hat hlt; have h1 : RdAt w1 g m a z v := (Blk.alloc (Blk.drew h') _).grown hgrow hne; have k3 := h1.cell_ 3 rfl; have kf := h1.frozen 3; clear c0 c1 c3)
    all_goals (go_wp2_with fail; go_meet; exact labMid h1 hB hlo hgl hOB hown1 hgrow hat)
  case rest =>
    obtain ⟨v', h2, ht2, hB2, hob2⟩ := hcut
    clear h' ht' hB hOB
    have c1 := h2.cell_ 1 rfl
    have c2 := h2.cell_ 2 rfl
    have f1 := h2.frozen 1
    have f2 := h2.frozen 2
    have HOB := Lib.hid hob2
    clear hob2
    by_cases hz3 : z + (c + 1) ≤ 255
    · have hz3' : (z : Int) + ((c : Int) + 1) ≤ 255 := by omega
      go_wp2_with fail
      go_end0
      refine .inl ⟨hz3, rfl, v', ?_, ?_, (hB2.setCell hlo _).setCell hlo _, HOB.out⟩
      · have := (h2.set 1 (.int .i64 ((a : Int) + c))).set 2 (.int .i64 ((z : Int) + (c + 1)))
        unfold RdAt
        rw [show ((a + c : Nat) : Int) = (a : Int) + c by omega, show ((z + (c + 1) : Nat) : Int) = (z : Int) + (c + 1) by omega]
        exact this
      · have hk : ∀ k, v'.ownBlock = some k → k ≠ g := fun k hk => (HOB.out k hk).2
        exact ownsRow_setCell_other (ownsRow_setCell_other ht2 (fun e => hk g e rfl) _) (fun e => hk g e rfl) _
    · have hz3' : (255 : Int) < (z : Int) + ((c : Int) + 1) := by omega
      go_wp2_with fail
      exact ⟨rfl, .inr ⟨by omega, rfl, (hB2.setCell hlo _).setCell hlo _⟩⟩
end Go.Proofs.Ytlmgdogblbigpaa

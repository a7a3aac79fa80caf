/-
  Layer 14 (message): the reader: take, num, check, name.
-/
import Derived.Test.YtlmgdogblbigpaaOwn2
import Derived.Test.YtlmgdogblbigpaaGB
namespace Go.Proofs.Ytlmgdogblbigpaa
open Go.RowKit
set_option maxRecDepth 100000
set_option linter.unusedVariables false
set_option linter.unusedSimpArgs false

/-- A reader. -/
def RdM (w : World) (g : Nat) (m : List UInt8) (a : Nat) : Prop := Blk w g 152 [.string (bs m), .int .i64 (a : Int)]
/-- What breaks off a reading. -/
def mstop (e : Int) : List PanicEntry := [{ v := .iface 149 (.agg #[.int .i64 e]), recovered := false }]
/-- What a reader's call comes to. -/
def RdRet {α : Type} (V : World → Value → α → Prop) (g : Nat) (m : List UInt8) (w : World) (o : Except Int (α × Nat)) (e : Ending) (w' : World) : Prop :=
  match o with
  | .error x => e = .panicked (mstop x) ∧ w.grownBy w' (some g)
  | .ok (x, p) => ∃ v, e = .returned v ∧ V w' v x ∧ RdM w' g m p ∧ w.grownBy w' (some g) ∧ p ≤ m.length
theorem mtake_yes (g : Nat) (m : List UInt8) (a n : Nat) (w : World) (h : RdM w g m a) (hl : m.length ≤ 65535) (hn : a + n ≤ m.length) :
    Calls Try.prog 135 #[.pointer (some ⟨g, 0, none⟩), .int .i64 n] w (fun e w' => e = .returned (.string (bs ((m.take (a + n)).drop a))) ∧ RdM w' g m (a + n) ∧ w.grownBy w' (some g)) := by
  have c0 := h.cell_ 0 rfl
  have c1 := h.cell_ 1 rfl
  have f1 := h.frozen 1
  have hn' : (a : Int) + n ≤ m.length := by omega
  have hn2 : (n : Int) ≤ (m.length : Int) - a := by omega
  have e1 : ((a : Int) + n).toNat = a + n := by omega
  have e2 : ((a : Int) + n - n).toNat = a := by omega
  go_enter Try.func135, Try.ntmps135
  go_wp2_with fail
  go_quiet (fail)
  go_wp2_with fail
  go_quiet (fail)
  go_wp2_with fail
  go_ret
  refine ⟨?_, ?_, grown_drewN (grown_set (grown_drewN (World.grownBy.refl _ _) _) _ _) _⟩
  · simp
  · have := fun i j => ((h.drewN i).set 1 (.int .i64 ((a + n : Nat) : Int))).drewN j
    simpa [RdM] using this _ _
theorem mtake_no (g : Nat) (m : List UInt8) (a n : Nat) (w : World) (h : RdM w g m a) (hl : m.length ≤ 65535) (ha : a ≤ m.length) (hn : m.length < a + n) (hn2 : n ≤ 100000) :
    Calls Try.prog 135 #[.pointer (some ⟨g, 0, none⟩), .int .i64 n] w (fun e w' => e = .panicked (mstop 1) ∧ w.grownBy w' (some g)) := by
  have c0 := h.cell_ 0 rfl
  have c1 := h.cell_ 1 rfl
  have hn' : (m.length : Int) - a < n := by omega
  go_enter Try.func135, Try.ntmps135
  go_wp2_with fail
  go_quiet (fail)
  go_wp2_with fail
  exact ⟨rfl, rfl, grown_drewN (World.grownBy.refl _ _) _⟩
theorem mchk_ok (w : World) : Calls Try.prog 101 #[.int .i64 0] w (fun e w' => e = .returned (.tuple #[]) ∧ w = w') := by
  go_enter Try.func101, Try.ntmps101
  go_wp2_with fail
  go_end0
  exact ⟨rfl, rfl⟩
theorem mchk_bad (x : Int) (hx : x ≠ 0) (w : World) : Calls Try.prog 101 #[.int .i64 x] w (fun e w' => e = .panicked (mstop x) ∧ w = w') := by
  have hx' : (x != 0) = true := by simpa using hx
  clear hx
  go_enter Try.func101, Try.ntmps101
  go_wp2_with fail
  exact ⟨rfl, rfl, rfl⟩
theorem num_le4 (m : List UInt8) (k p : Nat) (h : p + k ≤ m.length) : ((m.take (p + k)).drop p).length = k := by simp; omega
theorem mnum_any (g : Nat) (m : List UInt8) (a k : Nat) (w : World) (h : RdM w g m a) (hl : m.length ≤ 65535) (ha : a ≤ m.length) (hk : k = 2 ∨ k = 4) :
    Calls Try.prog 127 #[.pointer (some ⟨g, 0, none⟩), .int .i64 k] w (RdRet (fun _ v n => v = .int .i64 ((n : Nat) : Int)) g m w (numAt m k a)) := by
  unfold numAt
  by_cases hs : m.length < a + k
  · rw [if_pos hs]
    have T := Lib.hid (mtake_no g m a k w h hl ha hs (by omega))
    go_enter Try.func127, Try.ntmps127
    go_wp2_with fail
    refine T.out.mono ?_
    rintro _ w1 ⟨rfl, g1⟩
    go_wp2_with fail
    exact ⟨rfl, rfl, g1⟩
  · rw [if_neg hs]
    have T := Lib.hid (mtake_yes g m a k w h hl (by omega))
    have hd := num_le4 m k a (by omega)
    have hhw : (hw (k : Int) : Int) = k := by rcases hk with rfl | rfl <;> rfl
    have hTV : takeV ((m.take (a + k)).drop a) false ((hw (k : Int) : Nat) : Int) = (m.take (a + k)).drop a := by
      rw [hhw]; unfold takeV; rw [Int.toNat_natCast, if_neg (by rw [hd]; simp), List.take_of_length_le (by omega)]
    generalize (m.take (a + k)).drop a = d at *
    go_enter Try.func127, Try.ntmps127
    go_wp2_with fail
    refine T.out.mono ?_
    rintro _ w1 ⟨rfl, h1, g1⟩
    go_wp2_with fail
    refine (new_any d w1).mono ?_
    rintro _ w2 ⟨rfl, e2, b2⟩
    have N := Lib.hid (num_any w1.heap.size d false (k : Int) w2 e2 (by simp only [maxLen]; omega))
    rw [hTV] at N
    have R2 := h1.below b2 h1.lt
    have hgn : g < w1.heap.size := h1.lt
    have g2 := grown_trans g1 (grown_of_below b2 none) (.inr (fun k hk => by cases hk))
    have hsz := g1.size
    clear hTV e2 b2 T
    generalize w1.heap.size = gy at *
    go_wp2_with fail
    refine N.out.mono ?_
    rintro _ w3 ⟨rfl, e3, g3⟩
    have R3 := R2.grown g3 (by simp; omega)
    have g3' := grown_trans g2 g3 (.inr (fun k hk => by injection hk with hk; omega))
    go_wp2_with fail
    go_ret
    exact ⟨_, rfl, rfl, R3, g3', by omega⟩
set_option maxHeartbeats 1000000 in
theorem mname_any (g : Nat) (m : List UInt8) (a : Nat) (w : World) (h : RdM w g m a) (hl : m.length ≤ 65535) (ha : a ≤ m.length) :
    Calls Try.prog 126 #[.pointer (some ⟨g, 0, none⟩)] w (RdRet NmO g m w (nameAt m a)) := by
  have G := Lib.hid (fun w => get_any m a w (by omega))
  have c0 := h.cell_ 0 rfl
  have c1 := h.cell_ 1 rfl
  have hgl := h.lt
  unfold GetRet at G
  rcases nameAt_cases m a with ⟨l, n, h1, h2, h3, h4, h5⟩ | ⟨x, h1, h2, h3⟩
  all_goals
    rw [h1] at G
    rw [h2]
    go_enter Try.func126, Try.ntmps126
    go_wp2_with fail
    refine wp_region_held_drew (S := fun W => RdM W g m a) (by kernel_rfl) h.drew (fun hS => ?_)
    (refine held_val 0 (some 7) rfl rfl (by kernel_rfl) (by kernel_rfl) (by kernel_rfl) (fun _ _ _ h => h) (by kernel_rfl) (fun W hW => rfl) hS ?_; simp only [Act.put, List.setIfInBounds_toArray, List.set_cons_zero, List.set_cons_succ])
    (refine held_val 1 (some 8) rfl rfl (by kernel_rfl) (by kernel_rfl) (by kernel_rfl) (fun _ _ _ h => h) (by kernel_rfl) (fun W hW => rfl) hS ?_; simp only [Act.put, List.setIfInBounds_toArray, List.set_cons_zero, List.set_cons_succ])
    (refine held_val 2 (some 9) rfl rfl (by kernel_rfl) (by kernel_rfl) (by kernel_rfl) (fun _ _ _ h => h) (by kernel_rfl) (fun W hW => rfl) hS ?_; simp only [Act.put, List.setIfInBounds_toArray, List.set_cons_zero, List.set_cons_succ])
    refine held_ld 3 (some 10) 9 (.tmp 9) ⟨g, 0, none⟩ rfl rfl rfl rfl (by kernel_rfl) (by kernel_rfl) (by kernel_rfl) (fun _ _ _ h => h) (by kernel_rfl) (fun W hW => run_load1 Try.underlying9 rfl (Blk.cell_ hW 0 rfl)) hS ?_
    simp only [Act.put, List.setIfInBounds_toArray, List.set_cons_zero, List.set_cons_succ]
    (refine held_val 4 (some 11) rfl rfl (by kernel_rfl) (by kernel_rfl) (by kernel_rfl) (fun _ _ _ h => h) (by kernel_rfl) (fun W hW => rfl) hS ?_; simp only [Act.put, List.setIfInBounds_toArray, List.set_cons_zero, List.set_cons_succ])
    (refine held_val 5 (some 12) rfl rfl (by kernel_rfl) (by kernel_rfl) (by kernel_rfl) (fun _ _ _ h => h) (by kernel_rfl) (fun W hW => rfl) hS ?_; simp only [Act.put, List.setIfInBounds_toArray, List.set_cons_zero, List.set_cons_succ])
    (refine held_val 6 (some 13) rfl rfl (by kernel_rfl) (by kernel_rfl) (by kernel_rfl) (fun _ _ _ h => h) (by kernel_rfl) (fun W hW => rfl) hS ?_; simp only [Act.put, List.setIfInBounds_toArray, List.set_cons_zero, List.set_cons_succ])
    refine held_ld 7 (some 14) 3 (.tmp 13) ⟨g, 1, none⟩ rfl rfl rfl rfl (by kernel_rfl) (by kernel_rfl) (by kernel_rfl) (fun _ _ _ h => h) (by kernel_rfl) (fun W hW => run_load1 Try.underlying3 rfl (Blk.cell_ hW 1 rfl)) hS ?_
    simp only [Act.put, List.setIfInBounds_toArray, List.set_cons_zero, List.set_cons_succ]
    refine held_call 8 (some 15) 19 #[.string (bs m), .int .i64 (a : Int)] (by kernel_rfl) rfl rfl (by kernel_rfl) (by go_simp) (G.out _) ?_
    rintro _ w1 ⟨v, rfl, hT, k1', _⟩
    have k1 : Below w.heap.size w w1 := below_then (w := w.drew) (Below.refl _ _).drew (Nat.le_refl _) k1'
    have R1 : RdM w1 g m a := Blk.below h k1 hgl
    refine ⟨_, rfl, R1, ?_⟩
    clear hS
    have hS := R1
    simp only [Act.put, List.setIfInBounds_toArray, List.set_cons_zero, List.set_cons_succ]
    (refine held_val 9 (some 6) rfl rfl (by kernel_rfl) (by kernel_rfl) (by kernel_rfl) (fun _ _ _ h => h) (by kernel_rfl) (fun W hW => rfl) hS ?_; simp only [Act.put, List.setIfInBounds_toArray, List.set_cons_zero, List.set_cons_succ])
    (refine held_val 10 (some 16) rfl rfl (by kernel_rfl) (by kernel_rfl) (by kernel_rfl) (fun _ _ _ h => h) (by kernel_rfl) (fun W hW => rfl) hS ?_; simp only [Act.put, List.setIfInBounds_toArray, List.set_cons_zero, List.set_cons_succ])
    (refine held_val 11 (some 17) rfl rfl (by kernel_rfl) (by kernel_rfl) (by kernel_rfl) (fun _ _ _ h => h) (by kernel_rfl) (fun W hW => rfl) hS ?_; simp only [Act.put, List.setIfInBounds_toArray, List.set_cons_zero, List.set_cons_succ])
    (refine held_val 12 (some 18) rfl rfl (by kernel_rfl) (by kernel_rfl) (by kernel_rfl) (fun _ _ _ h => h) (by kernel_rfl) (fun W hW => rfl) hS ?_; simp only [Act.put, List.setIfInBounds_toArray, List.set_cons_zero, List.set_cons_succ])
    (refine held_val 13 (some 3) rfl rfl (by kernel_rfl) (by kernel_rfl) (by kernel_rfl) (fun _ _ _ h => h) (by kernel_rfl) (fun W hW => rfl) hS ?_; simp only [Act.put, List.setIfInBounds_toArray, List.set_cons_zero, List.set_cons_succ])
    (refine held_val 14 (some 4) rfl rfl (by kernel_rfl) (by kernel_rfl) (by kernel_rfl) (fun _ _ _ h => h) (by kernel_rfl) (fun W hW => rfl) hS ?_; simp only [Act.put, List.setIfInBounds_toArray, List.set_cons_zero, List.set_cons_succ])
    (refine held_val 15 (some 5) rfl rfl (by kernel_rfl) (by kernel_rfl) (by kernel_rfl) (fun _ _ _ h => h) (by kernel_rfl) (fun W hW => rfl) hS ?_; simp only [Act.put, List.setIfInBounds_toArray, List.set_cons_zero, List.set_cons_succ])
    refine wpAnyH_done (by kernel_rfl) ?_ _
    clear hS c0 c1 G k1'
  · have N1 := NmO.mk' hT h4 h5
    simp only [goB, goE, goN] at *
    go_wp2_with fail
    refine (mchk_ok _).mono ?_
    rintro _ w2 ⟨rfl, rfl⟩
    go_wp2_with (refine at_op (.store 3 (.tmp 24) (.tmp 22)) rfl ?_; go_must (refine wpList_stC rfl 3 (.tmp 24) (.tmp 22) rfl g 1 rfl (.int .i64 (n : Int)) rfl R1 (by simp) intInfo1 rfl rfl ?_))
    intro w3 B3 g3 _
    have N3 := N1.stays (Stays.blk g3 R1 (by decide))
    have gg := grown_trans (grown_of_below k1 _) g3 (.inl rfl)
    go_wp2_with fail
    go_ret
    exact ⟨_, rfl, N3, B3, gg, h3⟩
  · simp only [goB, goE, goN] at *
    go_wp2_with fail
    refine (mchk_bad x h3.ne _).mono ?_
    rintro _ w2 ⟨rfl, rfl⟩
    go_wp2_with fail
    exact ⟨rfl, rfl, grown_of_below k1 _⟩
end Go.Proofs.Ytlmgdogblbigpaa

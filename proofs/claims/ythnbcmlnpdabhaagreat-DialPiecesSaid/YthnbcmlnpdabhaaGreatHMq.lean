/-
  Layer 14, the reference: the reader: name, num.
-/
import Derived.Test.YthnbcmlnpdabhaaGreatHGq
import Derived.Test.YthnbcmlnpdabhaaGreatRg5q
namespace Go.Proofs.YthnbcmlnpdabhaaGreat
open _root_.Go.Proofs.Tryz
open Go.RowKit
set_option maxRecDepth 100000
set_option linter.unusedVariables false
set_option linter.unusedSimpArgs false
def RdX (w : World) (g : Nat) (m : List UInt8) (a e : Int) : Prop := Blk w g 221 [.string (bs m), .int .i64 a, .int .i64 e]
def Step {α : Type} (o : Except Int (α × Nat)) (len : Nat) (x : α) (p e : Int) : Prop := match o with
 | .ok (x0, q) => x = x0 ∧ p = q ∧ e = 0 ∧ q ≤ len
 | .error y => e = y ∧ y ≠ 0
def RxRet {α : Type} (V : World → Value → α → Prop) (g : Nat) (m : List UInt8) (w : World) (o : Except Int (α × Nat)) (e : Ending) (w' : World) : Prop :=
 ∃ v x p y, e = .returned v ∧ V w' v x ∧ RdX w' g m p y ∧ w.grownBy w' (some g) ∧ Step o m.length x p y
def RxIdle (v : Value) (g : Nat) (m : List UInt8) (a y : Int) (w : World) (e : Ending) (w' : World) : Prop := e = .returned v ∧ RdX w' g m a y ∧ Below w.heap.size w w'
theorem refnum_idle (g : Nat) (m : List UInt8) (a y : Int) (k : Nat) (w : World) (h : RdX w g m a y) (hy : y ≠ 0) :
  Calls prog 122 #[.pointer (some ⟨g, 0, none⟩), .int .i64 k] w (RxIdle (.int .i64 0) g m a y w) := by
 have c2 := h.cell_ 2 rfl
 have hy' : (y != 0) = true := by simpa using hy
 have hy2 : (y == 0) = false := by simpa using hy
 clear hy
 go_enter func122, ntmps122
 go_wp2_with fail
 go_quiet (fail)
 go_wp2_with fail
 go_ret
 exact ⟨rfl, h.drewN _, below_drewN (Below.refl _ _) _⟩
set_option maxHeartbeats 1000000 in
theorem refname_any (g : Nat) (m : List UInt8) (a : Nat) (w : World) (h : RdX w g m a 0) (hl : m.length ≤ 65535) :
  Calls prog 121 #[.pointer (some ⟨g, 0, none⟩)] w (RxRet NmO g m w (nameAt m a)) := by
 have G := Hh (fun w => refGet_any m a w (by omega))
 have c2 := h.cell_ 2 rfl
 have hgl := h.lt
 unfold GetRet at G
 rcases nameAt_cases m a with ⟨l, n, h1, h2, h3, h4, h5⟩ | ⟨x, h1, h2, h3⟩
 all_goals
  rw [h1] at G
  rw [h2]
  go_enter func121, ntmps121
  go_wp2_with fail
  refine wp_region_held_drew (S := fun W => RdX W g m a 0) (by kernel_rfl) h.drew (fun hS => ?_)
  (refine held_val 0 (some 12) rfl rfl (by kernel_rfl) (by kernel_rfl) (by kernel_rfl) (fun _ _ _ h => h) (by kernel_rfl) (fun W hW => rfl) hS ?_; simp only [Act.put, lsA, lsB, lsC])
  (refine held_val 1 (some 13) rfl rfl (by kernel_rfl) (by kernel_rfl) (by kernel_rfl) (fun _ _ _ h => h) (by kernel_rfl) (fun W hW => rfl) hS ?_; simp only [Act.put, lsA, lsB, lsC])
  (refine held_val 2 (some 14) rfl rfl (by kernel_rfl) (by kernel_rfl) (by kernel_rfl) (fun _ _ _ h => h) (by kernel_rfl) (fun W hW => rfl) hS ?_; simp only [Act.put, lsA, lsB, lsC])
  refine held_ld 3 (some 15) 9 (.tmp 14) ⟨g, 0, none⟩ rfl rfl rfl rfl (by kernel_rfl) (by kernel_rfl) (by kernel_rfl) (fun _ _ _ h => h) (by kernel_rfl) (fun W hW => run_load1 underlying9 rfl (Blk.cell_ hW 0 rfl)) hS ?_
  simp only [Act.put, lsA, lsB, lsC]
  (refine held_val 4 (some 16) rfl rfl (by kernel_rfl) (by kernel_rfl) (by kernel_rfl) (fun _ _ _ h => h) (by kernel_rfl) (fun W hW => rfl) hS ?_; simp only [Act.put, lsA, lsB, lsC])
  (refine held_val 5 (some 17) rfl rfl (by kernel_rfl) (by kernel_rfl) (by kernel_rfl) (fun _ _ _ h => h) (by kernel_rfl) (fun W hW => rfl) hS ?_; simp only [Act.put, lsA, lsB, lsC])
  (refine held_val 6 (some 18) rfl rfl (by kernel_rfl) (by kernel_rfl) (by kernel_rfl) (fun _ _ _ h => h) (by kernel_rfl) (fun W hW => rfl) hS ?_; simp only [Act.put, lsA, lsB, lsC])
  refine held_ld 7 (some 19) 3 (.tmp 18) ⟨g, 1, none⟩ rfl rfl rfl rfl (by kernel_rfl) (by kernel_rfl) (by kernel_rfl) (fun _ _ _ h => h) (by kernel_rfl) (fun W hW => run_load1 underlying3 rfl (Blk.cell_ hW 1 rfl)) hS ?_
  simp only [Act.put, lsA, lsB, lsC]
  refine held_call 8 (some 20) 181 #[.string (bs m), .int .i64 (a : Int)] (by kernel_rfl) rfl rfl (by kernel_rfl) (by go_simp) (G.out _) ?_
  rintro _ w1 ⟨v, rfl, hT, k1', _⟩
  have k1 : Below w.heap.size w w1 := below_then (w := w.drew) (Below.refl _ _).drew (Nat.le_refl _) k1'
  have R1 : RdX w1 g m a 0 := Blk.below h k1 hgl
  refine ⟨_, rfl, R1, ?_⟩
  clear hS
  have hS := R1
  simp only [Act.put, lsA, lsB, lsC]
  (refine held_val 9 (some 11) rfl rfl (by kernel_rfl) (by kernel_rfl) (by kernel_rfl) (fun _ _ _ h => h) (by kernel_rfl) (fun W hW => rfl) hS ?_; simp only [Act.put, lsA, lsB, lsC])
  (refine held_val 10 (some 21) rfl rfl (by kernel_rfl) (by kernel_rfl) (by kernel_rfl) (fun _ _ _ h => h) (by kernel_rfl) (fun W hW => rfl) hS ?_; simp only [Act.put, lsA, lsB, lsC])
  (refine held_val 11 (some 22) rfl rfl (by kernel_rfl) (by kernel_rfl) (by kernel_rfl) (fun _ _ _ h => h) (by kernel_rfl) (fun W hW => rfl) hS ?_; simp only [Act.put, lsA, lsB, lsC])
  (refine held_val 12 (some 23) rfl rfl (by kernel_rfl) (by kernel_rfl) (by kernel_rfl) (fun _ _ _ h => h) (by kernel_rfl) (fun W hW => rfl) hS ?_; simp only [Act.put, lsA, lsB, lsC])
  (refine held_val 13 (some 3) rfl rfl (by kernel_rfl) (by kernel_rfl) (by kernel_rfl) (fun _ _ _ h => h) (by kernel_rfl) (fun W hW => rfl) hS ?_; simp only [Act.put, lsA, lsB, lsC])
  (refine held_val 14 (some 4) rfl rfl (by kernel_rfl) (by kernel_rfl) (by kernel_rfl) (fun _ _ _ h => h) (by kernel_rfl) (fun W hW => rfl) hS ?_; simp only [Act.put, lsA, lsB, lsC])
  (refine held_val 15 (some 5) rfl rfl (by kernel_rfl) (by kernel_rfl) (by kernel_rfl) (fun _ _ _ h => h) (by kernel_rfl) (fun W hW => rfl) hS ?_; simp only [Act.put, lsA, lsB, lsC])
  refine wpAnyH_done (by kernel_rfl) ?_ _
  clear hS c2 G k1'
 ·
  have N1 := NmO.mk' hT h4 h5
  simp only [goB, goE, goN] at *
  go_wp2_with (refine at_op (.store 3 (.tmp 27) (.tmp 25)) rfl ?_; go_must (refine wpList_stC rfl 3 (.tmp 27) (.tmp 25) rfl g 1 rfl (.int .i64 (n : Int)) rfl R1 (by simp) intInfo1 rfl rfl ?_))
  intro w3 B3 g3 _
  have N3 := N1.stays (Stays.blk g3 R1 (by decide))
  have gg := grown_trans (grown_of_below k1 _) g3 (.inl rfl)
  go_wp2_with (refine at_op (.store 142 (.tmp 31) (.tmp 29)) rfl ?_; go_must (refine wpList_stC rfl 142 (.tmp 31) (.tmp 29) rfl g 2 rfl (.int .i64 0) rfl B3 (by simp) errInfo1 rfl rfl ?_))
  intro w4 B4 g4 _
  have N4 := N3.stays (Stays.blk g4 B3 (by decide))
  have gg4 := grown_trans gg g4 (.inl rfl)
  go_wp2_with fail
  go_ret
  exact ⟨_, l, n, 0, rfl, N4, B4, gg4, rfl, rfl, rfl, h3⟩
 ·
  have N1 : NmO w1 v [] := ⟨hT, rfl⟩
  simp only [goB, goE, goN] at *
  go_wp2_with (refine at_op (.store 3 (.tmp 27) (.tmp 25)) rfl ?_; go_must (refine wpList_stC rfl 3 (.tmp 27) (.tmp 25) rfl g 1 rfl (.int .i64 0) rfl R1 (by simp) intInfo1 rfl rfl ?_))
  intro w3 B3 g3 _
  have N3 := N1.stays (Stays.blk g3 R1 (by decide))
  have gg := grown_trans (grown_of_below k1 _) g3 (.inl rfl)
  go_wp2_with (refine at_op (.store 142 (.tmp 31) (.tmp 29)) rfl ?_; go_must (refine wpList_stC rfl 142 (.tmp 31) (.tmp 29) rfl g 2 rfl (.int .i64 x) rfl B3 (by simp) errInfo1 rfl rfl ?_))
  intro w4 B4 g4 _
  have N4 := N3.stays (Stays.blk g4 B3 (by decide))
  have gg4 := grown_trans gg g4 (.inl rfl)
  go_wp2_with fail
  go_ret
  exact ⟨_, [], 0, x, rfl, N4, B4, gg4, rfl, h3.ne⟩
set_option maxHeartbeats 1000000 in
theorem refnum_any (g : Nat) (m : List UInt8) (a k : Nat) (w : World) (h : RdX w g m a 0) (hl : m.length ≤ 65535) (ha : a ≤ m.length) (hk : k = 2 ∨ k = 4) :
  Calls prog 122 #[.pointer (some ⟨g, 0, none⟩), .int .i64 k] w (RxRet (fun _ v n => v = .int .i64 ((n : Nat) : Int)) g m w (numAt m k a)) := by
 unfold numAt
 have c0 := h.cell_ 0 rfl
 have c1 := h.cell_ 1 rfl
 have c2 := h.cell_ 2 rfl
 have hd := num_le4 m k a
 have hsum : IntKind.i64.wrap ((a : Int) + k) = a + k := IntWalk.i64_in _ (by omega)
 by_cases hs : m.length < a + k
 ·
  rw [if_pos hs]
  have hs' : (m.length : Int) < (a : Int) + k := by omega
  clear hs hd
  go_enter func122, ntmps122
  go_wp2_with fail
  go_quiet (fail)
  clear hsum
  go_wp2_with (refine at_op (.store 142 (.tmp 26) (.const (.int .i64 1))) rfl ?_; go_must (refine wpList_stC rfl 142 (.tmp 26) (.const (.int .i64 1)) rfl g 2 rfl (.int .i64 1) rfl (h.drewN _) (by simp) errInfo1 rfl rfl ?_))
  intro w4 B4 g4 _
  have e2 := B4.cell_ 2 rfl
  clear c0 c1 c2
  go_wp2_with fail
  go_ret
  exact ⟨_, 0, a, 1, rfl, rfl, B4, grown_trans (grown_drewN (World.grownBy.refl _ _) _) g4 (.inl rfl), rfl, by decide⟩
 ·
  rw [if_neg hs]
  have hs' : ¬ (m.length : Int) < (a : Int) + k := by omega
  replace hd := hd (by omega)
  have hN := Hh (fun w => refNum_any ((m.take (a + k)).drop a) w (by omega))
  have hsub : (a : Int) + k - k = a := by omega
  have hks : Hid ((a : Int) + k ≤ m.length) := Hh (by omega)
  go_enter func122, ntmps122
  go_wp2_with fail
  go_quiet (fail)
  clear hsum
  go_wp2_with (refine at_op (.store 3 (.tmp 40) (.tmp 38)) rfl ?_; go_must (refine wpList_stC rfl 3 (.tmp 40) (.tmp 38) rfl g 1 rfl (.int .i64 ((a : Int) + k)) rfl (h.drewN _) (by simp) intInfo1 rfl rfl ?_))
  intro w4 B4 g4 _
  have e0 := B4.cell_ 0 rfl
  have e1 := B4.cell_ 1 rfl
  clear c0 c1 c2
  go_wp2_with fail
  have hS0 : RdX w4.drew g m ((a : Int) + k) 0 := B4.drew
  refine wp_region_held_drew (S := fun W => RdX W g m ((a : Int) + k) 0) (by kernel_rfl) hS0 (fun hS => ?_)
  (refine held_val 0 (some 41) rfl rfl (by kernel_rfl) (by kernel_rfl) (by kernel_rfl) (fun _ _ _ h => h) (by kernel_rfl) (fun W hW => rfl) hS ?_; simp only [Act.put, lsA, lsB, lsC])
  (refine held_val 1 (some 42) rfl rfl (by kernel_rfl) (by kernel_rfl) (by kernel_rfl) (fun _ _ _ h => h) (by kernel_rfl) (fun W hW => rfl) hS ?_; simp only [Act.put, lsA, lsB, lsC])
  (refine held_val 2 (some 43) rfl rfl (by kernel_rfl) (by kernel_rfl) (by kernel_rfl) (fun _ _ _ h => h) (by kernel_rfl) (fun W hW => rfl) hS ?_; simp only [Act.put, lsA, lsB, lsC])
  refine held_ld 3 (some 44) 9 (.tmp 43) ⟨g, 0, none⟩ rfl rfl rfl rfl (by kernel_rfl) (by kernel_rfl) (by kernel_rfl) (fun _ _ _ h => h) (by kernel_rfl) (fun W hW => run_load1 underlying9 rfl (Blk.cell_ hW 0 rfl)) hS ?_
  simp only [Act.put, lsA, lsB, lsC]
  (refine held_val 4 (some 45) rfl rfl (by kernel_rfl) (by kernel_rfl) (by kernel_rfl) (fun _ _ _ h => h) (by kernel_rfl) (fun W hW => rfl) hS ?_; simp only [Act.put, lsA, lsB, lsC])
  (refine held_val 5 (some 46) rfl rfl (by kernel_rfl) (by kernel_rfl) (by kernel_rfl) (fun _ _ _ h => h) (by kernel_rfl) (fun W hW => rfl) hS ?_; simp only [Act.put, lsA, lsB, lsC])
  (refine held_val 6 (some 47) rfl rfl (by kernel_rfl) (by kernel_rfl) (by kernel_rfl) (fun _ _ _ h => h) (by kernel_rfl) (fun W hW => rfl) hS ?_; simp only [Act.put, lsA, lsB, lsC])
  refine held_ld 7 (some 48) 3 (.tmp 47) ⟨g, 1, none⟩ rfl rfl rfl rfl (by kernel_rfl) (by kernel_rfl) (by kernel_rfl) (fun _ _ _ h => h) (by kernel_rfl) (fun W hW => run_load1 underlying3 rfl (Blk.cell_ hW 1 rfl)) hS ?_
  simp only [Act.put, lsA, lsB, lsC]
  (refine held_val 8 (some 49) rfl rfl (by kernel_rfl) (by kernel_rfl) (by kernel_rfl) (fun _ _ _ h => h) (by kernel_rfl) (fun W hW => rfl) hS ?_; simp only [Act.put, lsA, lsB, lsC])
  refine held_val 9 (some 50) (v := .int .i64 a) rfl rfl (by kernel_rfl) (by kernel_rfl) (by kernel_rfl) (fun _ _ _ h => h) (by kernel_rfl) (fun W hW => by go_simp; exact IntWalk.i64_in _ (by omega)) hS ?_
  simp only [Act.put, lsA, lsB, lsC]
  (refine held_val 10 (some 51) rfl rfl (by kernel_rfl) (by kernel_rfl) (by kernel_rfl) (fun _ _ _ h => h) (by kernel_rfl) (fun W hW => rfl) hS ?_; simp only [Act.put, lsA, lsB, lsC])
  (refine held_val 11 (some 52) rfl rfl (by kernel_rfl) (by kernel_rfl) (by kernel_rfl) (fun _ _ _ h => h) (by kernel_rfl) (fun W hW => rfl) hS ?_; simp only [Act.put, lsA, lsB, lsC])
  (refine held_val 12 (some 53) rfl rfl (by kernel_rfl) (by kernel_rfl) (by kernel_rfl) (fun _ _ _ h => h) (by kernel_rfl) (fun W hW => rfl) hS ?_; simp only [Act.put, lsA, lsB, lsC])
  refine held_ld 13 (some 54) 3 (.tmp 53) ⟨g, 1, none⟩ rfl rfl rfl rfl (by kernel_rfl) (by kernel_rfl) (by kernel_rfl) (fun _ _ _ h => h) (by kernel_rfl) (fun W hW => run_load1 underlying3 rfl (Blk.cell_ hW 1 rfl)) hS ?_
  simp only [Act.put, lsA, lsB, lsC]
  have htn : ((a : Int) + k).toNat = a + k := by omega
  refine held_val 14 (some 55) (v := .string (bs ((m.take (a + k)).drop a))) rfl rfl (by kernel_rfl) (by kernel_rfl) (by kernel_rfl) (fun _ _ _ h => h) (by kernel_rfl) (fun W hW => by go_simp; rw [if_pos (by omega), if_pos (by omega)]) hS ?_
  simp only [Act.put, lsA, lsB, lsC]
  refine held_call 15 (some 56) 43 #[.string (bs ((m.take (a + k)).drop a))] (by kernel_rfl) rfl rfl (by kernel_rfl) (by go_simp) (hN.out _) ?_
  rintro _ w5 ⟨rfl, hw5⟩
  subst hw5
  refine ⟨_, rfl, hS, ?_⟩
  simp only [Act.put, lsA, lsB, lsC]
  (refine held_val 16 (some 4) rfl rfl (by kernel_rfl) (by kernel_rfl) (by kernel_rfl) (fun _ _ _ h => h) (by kernel_rfl) (fun W hW => rfl) hS ?_; simp only [Act.put, lsA, lsB, lsC])
  refine wpAnyH_done (by kernel_rfl) ?_ _
  go_wp2_with fail
  go_ret
  exact ⟨_, numB ((m.take (a + k)).drop a), (a : Int) + k, 0, rfl, rfl, hS, grown_drew (grown_trans (grown_drewN (World.grownBy.refl _ _) _) g4 (.inl rfl)), rfl, by omega, rfl, by omega⟩
def AnyRet {α : Type} (V : World → Value → α → Prop) (x0 : α) (f : Nat → Except Int (α × Nat)) (g : Nat) (m : List UInt8) (a y : Int) (w : World) (e : Ending) (w' : World) : Prop :=
 ∃ v x p y', e = .returned v ∧ V w' v x ∧ RdX w' g m p y' ∧ w.grownBy w' (some g) ∧ ((y ≠ 0 → y' = y ∧ x = x0) ∧ (y = 0 → ∀ k : Nat, a = k → k ≤ m.length → Step (f k) m.length x p y'))
theorem refnum_all (g : Nat) (m : List UInt8) (a y : Int) (k : Nat) (w : World) (h : RdX w g m a y) (hl : m.length ≤ 65535) (hk : k = 2 ∨ k = 4) (ha : y = 0 → ∃ k : Nat, a = k ∧ k ≤ m.length) :
    Calls prog 122 #[.pointer (some ⟨g, 0, none⟩), .int .i64 k] w (AnyRet (fun _ v n => v = .int .i64 ((n : Nat) : Int)) 0 (numAt m k) g m a y w) := by
  by_cases hy : y = 0
  · subst hy
    obtain ⟨j, rfl, hj⟩ := ha rfl
    refine (refnum_any g m j k w h hl hj hk).mono ?_
    rintro e w' ⟨v, x, p, y', h1, h2, h3, h4, h5⟩
    exact ⟨v, x, p, y', h1, h2, h3, h4, fun h => absurd rfl h, fun _ i hi _ => by obtain rfl : j = i := by omega
                                                                                  exact h5⟩
  · refine (refnum_idle g m a y k w h hy).mono ?_
    rintro e w' ⟨h1, h2, h3⟩
    exact ⟨_, 0, a, y, h1, rfl, h2, grown_of_below h3 _, fun _ => ⟨rfl, rfl⟩, fun h => absurd h hy⟩
theorem Step.ok0 {α : Type} {o : Except Int (α × Nat)} {len : Nat} {x : α} {p y : Int} (h : Step o len x p y) (hy : y = 0) : ∃ q : Nat, o = .ok (x, q) ∧ p = q ∧ q ≤ len := by
 cases o with
 | error z => obtain ⟨h1, h2⟩ := h; omega
 | ok z => obtain ⟨x0, q⟩ := z; obtain ⟨h1, h2, h3, h4⟩ := h; subst h1; exact ⟨q, rfl, h2, h4⟩
theorem Step.err {α : Type} {o : Except Int (α × Nat)} {len : Nat} {x : α} {p y : Int} (h : Step o len x p y) (hy : y ≠ 0) : o = .error y := by
 cases o with
 | error z => obtain ⟨h1, h2⟩ := h; rw [h1]
 | ok z => obtain ⟨x0, q⟩ := z; obtain ⟨h1, h2, h3, h4⟩ := h; omega
def Next {α : Type} (x0 : α) (f : Nat → Except Int (α × Nat)) (len : Nat) (a y : Int) (x : α) (p y' : Int) : Prop := (y ≠ 0 → y' = y ∧ x = x0) ∧ (y = 0 → ∀ k : Nat, a = k → k ≤ len → Step (f k) len x p y')
theorem Next.ok0 {α : Type} {x0 : α} {f : Nat → Except Int (α × Nat)} {len : Nat} {a y : Int} {x : α} {p y' : Int} (h : Next x0 f len a y x p y') (hy : y' = 0) (ha : y = 0 → ∃ k : Nat, a = k ∧ k ≤ len) : y = 0 ∧ ∃ k q : Nat, a = k ∧ f k = .ok (x, q) ∧ p = q ∧ q ≤ len := by
 by_cases h0 : y = 0
 ·
  obtain ⟨k, hk, hl⟩ := ha h0
  obtain ⟨q, h1, h2, h3⟩ := (h.2 h0 k hk hl).ok0 hy
  exact ⟨h0, k, q, hk, h1, h2, h3⟩
 ·
  have := (h.1 h0).1; omega
theorem Next.err {α : Type} {x0 : α} {f : Nat → Except Int (α × Nat)} {len : Nat} {a y : Int} {x : α} {p y' : Int} (h : Next x0 f len a y x p y') (hy : y' ≠ 0) (ha : y = 0 → ∃ k : Nat, a = k ∧ k ≤ len) : (y ≠ 0 ∧ y' = y) ∨ (y = 0 ∧ ∃ k : Nat, a = k ∧ f k = .error y') := by
 by_cases h0 : y = 0
 ·
  obtain ⟨k, hk, hl⟩ := ha h0
  exact .inr ⟨h0, k, hk, (h.2 h0 k hk hl).err hy⟩
 ·
  exact .inl ⟨h0, (h.1 h0).1⟩
theorem Next.pos {α : Type} {x0 : α} {f : Nat → Except Int (α × Nat)} {len : Nat} {a y : Int} {x : α} {p y' : Int} (h : Next x0 f len a y x p y') (ha : y = 0 → ∃ k : Nat, a = k ∧ k ≤ len) : y' = 0 → ∃ k : Nat, p = k ∧ k ≤ len := by
 intro hy
 obtain ⟨_, _, q, _, _, h3, h4⟩ := h.ok0 hy ha
 exact ⟨q, h3, h4⟩
theorem head5 {m : List UInt8} {j : Nat} {nm : List (List UInt8)} {p1 y1 : Int} {ty : Nat} {p2 y2 : Int} {cl : Nat} {p3 y3 : Int} {ttl : Nat} {p4 y4 : Int} {sz : Nat} {p5 y5 : Int}
  (s1 : Step (nameAt m j) m.length nm p1 y1) (s2 : Next 0 (numAt m 2) m.length p1 y1 ty p2 y2) (s3 : Next 0 (numAt m 2) m.length p2 y2 cl p3 y3) (s4 : Next 0 (numAt m 4) m.length p3 y3 ttl p4 y4) (s5 : Next 0 (numAt m 2) m.length p4 y4 sz p5 y5) :
  (y5 ≠ 0 ∧ recAt m j = .error y5) ∨ (y5 = 0 ∧ ∃ q : Nat, p5 = q ∧ q ≤ m.length ∧ sz < 65536 ∧ recAt m j = (if m.length < q + sz then .error 1 else match getR m q sz ty cl with
   | .error e => .error e
   | .ok r => .ok ({ r with name := nm, ty := ty, cl := cl, ttl := ttl }, q + sz))) := by
 have a1 : y1 = 0 → ∃ k : Nat, p1 = k ∧ k ≤ m.length := fun h => by obtain ⟨q, _, h2, h3⟩ := s1.ok0 h; exact ⟨q, h2, h3⟩
 have a2 := s2.pos a1
 have a3 := s3.pos a2
 have a4 := s4.pos a3
 by_cases h5 : y5 = 0
 ·
  right
  obtain ⟨e4, k4, q5, i4, f5, i5, l5⟩ := s5.ok0 h5 a4
  obtain ⟨e3, k3, q4, i3, f4, i4', l4⟩ := s4.ok0 e4 a3
  obtain ⟨e2, k2, q3, i2, f3, i3', l3⟩ := s3.ok0 e3 a2
  obtain ⟨e1, k1, q2, i1, f2, i2', l2⟩ := s2.ok0 e2 a1
  obtain ⟨q1, f1, i1', l1⟩ := s1.ok0 e1
  obtain rfl : k1 = q1 := by omega
  obtain rfl : k2 = q2 := by omega
  obtain rfl : k3 = q3 := by omega
  obtain rfl : k4 = q4 := by omega
  refine ⟨h5, q5, i5, l5, numAt_lt2 f5, ?_⟩
  unfold recAt
  rw [f1]
  simp only
  rw [f2]
  simp only
  rw [f3]
  simp only
  rw [f4]
  simp only
  rw [f5]
  rfl
 ·
  left
  refine ⟨h5, ?_⟩
  have hE : (y1 ≠ 0 → nameAt m j = .error y1) := fun h => s1.err h
  rcases s5.err h5 a4 with ⟨e4, rfl⟩ | ⟨e4, k4, i4, f5⟩
  ·
   rcases s4.err e4 a3 with ⟨e3, rfl⟩ | ⟨e3, k3, i3, f4⟩
   ·
    rcases s3.err e3 a2 with ⟨e2, rfl⟩ | ⟨e2, k2, i2, f3⟩
    ·
     rcases s2.err e2 a1 with ⟨e1, rfl⟩ | ⟨e1, k1, i1, f2⟩
     ·
      unfold recAt; rw [s1.err e1]
     ·
      obtain ⟨q1, f1, i1', l1⟩ := s1.ok0 e1
      obtain rfl : k1 = q1 := by omega
      unfold recAt; rw [f1]; simp only; rw [f2]
    ·
     obtain ⟨e1, k1, q2, i1, f2, i2', l2⟩ := s2.ok0 e2 a1
     obtain ⟨q1, f1, i1', l1⟩ := s1.ok0 e1
     obtain rfl : k1 = q1 := by omega
     obtain rfl : k2 = q2 := by omega
     unfold recAt; rw [f1]; simp only; rw [f2]; simp only; rw [f3]
   ·
    obtain ⟨e2, k2, q3, i2, f3, i3', l3⟩ := s3.ok0 e3 a2
    obtain ⟨e1, k1, q2, i1, f2, i2', l2⟩ := s2.ok0 e2 a1
    obtain ⟨q1, f1, i1', l1⟩ := s1.ok0 e1
    obtain rfl : k1 = q1 := by omega
    obtain rfl : k2 = q2 := by omega
    obtain rfl : k3 = q3 := by omega
    unfold recAt; rw [f1]; simp only; rw [f2]; simp only; rw [f3]; simp only; rw [f4]
  ·
   obtain ⟨e3, k3, q4, i3, f4, i4', l4⟩ := s4.ok0 e4 a3
   obtain ⟨e2, k2, q3, i2, f3, i3', l3⟩ := s3.ok0 e3 a2
   obtain ⟨e1, k1, q2, i1, f2, i2', l2⟩ := s2.ok0 e2 a1
   obtain ⟨q1, f1, i1', l1⟩ := s1.ok0 e1
   obtain rfl : k1 = q1 := by omega
   obtain rfl : k2 = q2 := by omega
   obtain rfl : k3 = q3 := by omega
   obtain rfl : k4 = q4 := by omega
   unfold recAt; rw [f1]; simp only; rw [f2]; simp only; rw [f3]; simp only; rw [f4]; simp only; rw [f5]
def GetOne (o : Except Int RR) (w : World) (e : Ending) (w' : World) : Prop :=
 ∃ cs r x, e = .returned (.tuple #[.agg cs.toArray, .int .i64 x]) ∧ RRown w' cs r ∧ Below w.heap.size w w' ∧ ((x = 0 ∧ o = .ok r) ∨ (x ≠ 0 ∧ o = .error x))
theorem r13_one (m : List UInt8) (a n : Nat) (ty cl : Int) (w : World) (hm : a + n ≤ m.length) (hl : m.length ≤ 4000000) :
  Calls prog 182 #[.string (bs m), .int .i64 a, .int .i64 n, .int .i64 ty, .int .i64 cl] w (GetOne (getR m a n ty cl) w) := by
 refine (r13_any m a n ty cl w hm hl).mono fun e w' h => ?_
 cases ho : getR m a n ty cl with
 | error x => rw [ho] at h; obtain ⟨h1, h2, h3⟩ := h; exact ⟨rrZ, RR.zero, x, h2, RRown.zero w', h3, .inr ⟨h1, rfl⟩⟩
 | ok r => rw [ho] at h; obtain ⟨cs, h1, h2, h3⟩ := h; exact ⟨cs, r, 0, h1, h2, h3, .inl ⟨rfl, rfl⟩⟩
end Go.Proofs.YthnbcmlnpdabhaaGreat

/-
  Layer 14 (message): the reader: take, num, check, name.
-/
import Derived.Test.YthnbcmlnpdabhaaGreatHCq
import Derived.Great.BuildSlice
namespace Go.Proofs.YthnbcmlnpdabhaaGreat
open _root_.Go.Proofs.Tryz
open Go.RowKit
set_option maxRecDepth 100000
set_option linter.unusedVariables false
set_option linter.unusedSimpArgs false
def RdM (w : World) (g : Nat) (m : List UInt8) (a : Nat) : Prop := Blk w g 327 [.string (bs m), .int .i64 (a : Int)]
def mstop (e : Int) : List PanicEntry := [{ v := .iface 324 (.agg #[.int .i64 e]), recovered := false }]
def RdRet {α : Type} (V : World → Value → α → Prop) (g : Nat) (m : List UInt8) (w : World) (o : Except Int (α × Nat)) (e : Ending) (w' : World) : Prop :=
 match o with
 | .error x => e = .panicked (mstop x) ∧ w.grownBy w' (some g)
 | .ok (x, p) => ∃ v, e = .returned v ∧ V w' v x ∧ RdM w' g m p ∧ w.grownBy w' (some g) ∧ p ≤ m.length
theorem mtake_yes (g : Nat) (m : List UInt8) (a n : Nat) (w : World) (h : RdM w g m a) (hl : m.length ≤ 65535) (hn : a + n ≤ m.length) :
  Calls prog 250 #[.pointer (some ⟨g, 0, none⟩), .int .i64 n] w (fun e w' => e = .returned (.string (bs ((m.take (a + n)).drop a))) ∧ RdM w' g m (a + n) ∧ w.grownBy w' (some g)) := by
 have c0 := h.cell_ 0 rfl
 have c1 := h.cell_ 1 rfl
 have f1 := h.frozen 1
 have hn' : (a : Int) + n ≤ m.length := by omega
 have hn2 : (n : Int) ≤ (m.length : Int) - a := by omega
 have e1 : ((a : Int) + n).toNat = a + n := by omega
 have e2 : ((a : Int) + n - n).toNat = a := by omega
 go_enter func250, ntmps250
 go_wp2_with fail
 go_quiet (fail)
 go_wp2_with fail
 go_quiet (fail)
 go_wp2_with fail
 go_ret
 refine ⟨?_, ?_, grown_drewN (grown_set (grown_drewN (World.grownBy.refl _ _) _) _ _) _⟩
 ·
  simp
 ·
  have := fun i j => ((h.drewN i).set 1 (.int .i64 ((a + n : Nat) : Int))).drewN j
  simpa [RdM] using this _ _
theorem mtake_no (g : Nat) (m : List UInt8) (a n : Nat) (w : World) (h : RdM w g m a) (hl : m.length ≤ 65535) (ha : a ≤ m.length) (hn : m.length < a + n) (hn2 : n ≤ 100000) :
  Calls prog 250 #[.pointer (some ⟨g, 0, none⟩), .int .i64 n] w (fun e w' => e = .panicked (mstop 1) ∧ w.grownBy w' (some g)) := by
 have c0 := h.cell_ 0 rfl
 have c1 := h.cell_ 1 rfl
 have hn' : (m.length : Int) - a < n := by omega
 go_enter func250, ntmps250
 go_wp2_with fail
 go_quiet (fail)
 go_wp2_with fail
 exact ⟨rfl, rfl, grown_drewN (World.grownBy.refl _ _) _⟩
theorem mchk_ok (w : World) : Calls prog 217 #[.int .i64 0] w (fun e w' => e = .returned (.tuple #[]) ∧ w = w') := by
 go_enter func217, ntmps217
 go_wp2_with fail
 go_end0
 exact ⟨rfl, rfl⟩
theorem mchk_bad (x : Int) (hx : x ≠ 0) (w : World) : Calls prog 217 #[.int .i64 x] w (fun e w' => e = .panicked (mstop x) ∧ w = w') := by
 have hx' : (x != 0) = true := by simpa using hx
 clear hx
 go_enter func217, ntmps217
 go_wp2_with fail
 exact ⟨rfl, rfl, rfl⟩
theorem num_le4 (m : List UInt8) (k p : Nat) (h : p + k ≤ m.length) : ((m.take (p + k)).drop p).length = k := by simp; omega
theorem mnum_any (g : Nat) (m : List UInt8) (a k : Nat) (w : World) (h : RdM w g m a) (hl : m.length ≤ 65535) (ha : a ≤ m.length) (hk : k = 2 ∨ k = 4) :
  Calls prog 240 #[.pointer (some ⟨g, 0, none⟩), .int .i64 k] w (RdRet (fun _ v n => v = .int .i64 ((n : Nat) : Int)) g m w (numAt m k a)) := by
 unfold numAt
 by_cases hs : m.length < a + k
 ·
  rw [if_pos hs]
  have T := Hh (mtake_no g m a k w h hl ha hs (by omega))
  go_enter func240, ntmps240
  go_wp2_with fail
  refine T.out.mono ?_
  rintro _ w1 ⟨rfl, g1⟩
  go_wp2_with fail
  exact ⟨rfl, rfl, g1⟩
 ·
  rw [if_neg hs]
  have T := Hh (mtake_yes g m a k w h hl (by omega))
  have hd := num_le4 m k a (by omega)
  have hhw : (hw (k : Int) : Int) = k := by rcases hk with rfl | rfl <;> rfl
  have hTV : takeV ((m.take (a + k)).drop a) false ((hw (k : Int) : Nat) : Int) = (m.take (a + k)).drop a := by
   rw [hhw]; unfold takeV; rw [Int.toNat_natCast, if_neg (by rw [hd]; simp), List.take_of_length_le (by omega)]
  generalize (m.take (a + k)).drop a = d at *
  go_enter func240, ntmps240
  go_wp2_with fail
  refine T.out.mono ?_
  rintro _ w1 ⟨rfl, h1, g1⟩
  go_wp2_with fail
  refine (new_any d w1).mono ?_
  rintro _ w2 ⟨rfl, e2, b2⟩
  have N := Hh (num_any w1.heap.size d false (k : Int) w2 e2 (by simp only [maxLen]; omega))
  rw [hTV] at N
  have R2 := h1.below b2 h1.lt
  have hgn : g < w1.heap.size := h1.lt
  have g2 := grown_trans g1 (grown_of_below b2 none) (.inr (fun k hk => by cases hk))
  have hsz := g1.size
  clear hTV e2 b2 T
  generalize w1.heap.size = gy at *
  go_wp2_with fail
  refine N.out.mono ?_
  rintro _ w3 ⟨rfl, e3, g3⟩
  have R3 := R2.grown g3 (by simp; omega)
  have g3' := grown_trans g2 g3 (.inr (fun k hk => by injection hk with hk; omega))
  go_wp2_with fail
  go_ret
  exact ⟨_, rfl, rfl, R3, g3', by omega⟩
set_option maxHeartbeats 1000000 in
theorem mname_any (g : Nat) (m : List UInt8) (a : Nat) (w : World) (h : RdM w g m a) (hl : m.length ≤ 65535) (ha : a ≤ m.length) :
  Calls prog 239 #[.pointer (some ⟨g, 0, none⟩)] w (RdRet NmO g m w (nameAt m a)) := by
 have G := Hh (fun w => get_any m a w (by omega))
 have c0 := h.cell_ 0 rfl
 have c1 := h.cell_ 1 rfl
 have hgl := h.lt
 unfold GetRet at G
 rcases nameAt_cases m a with ⟨l, n, h1, h2, h3, h4, h5⟩ | ⟨x, h1, h2, h3⟩
 all_goals
  rw [h1] at G
  rw [h2]
  go_enter func239, ntmps239
  go_wp2_with fail
  refine wp_region_held_drew (S := fun W => RdM W g m a) (by kernel_rfl) h.drew (fun hS => ?_)
  (refine held_val 0 (some 7) rfl rfl (by kernel_rfl) (by kernel_rfl) (by kernel_rfl) (fun _ _ _ h => h) (by kernel_rfl) (fun W hW => rfl) hS ?_; simp only [Act.put, lsA, lsB, lsC])
  (refine held_val 1 (some 8) rfl rfl (by kernel_rfl) (by kernel_rfl) (by kernel_rfl) (fun _ _ _ h => h) (by kernel_rfl) (fun W hW => rfl) hS ?_; simp only [Act.put, lsA, lsB, lsC])
  (refine held_val 2 (some 9) rfl rfl (by kernel_rfl) (by kernel_rfl) (by kernel_rfl) (fun _ _ _ h => h) (by kernel_rfl) (fun W hW => rfl) hS ?_; simp only [Act.put, lsA, lsB, lsC])
  refine held_ld 3 (some 10) 9 (.tmp 9) ⟨g, 0, none⟩ rfl rfl rfl rfl (by kernel_rfl) (by kernel_rfl) (by kernel_rfl) (fun _ _ _ h => h) (by kernel_rfl) (fun W hW => run_load1 underlying9 rfl (Blk.cell_ hW 0 rfl)) hS ?_
  simp only [Act.put, lsA, lsB, lsC]
  (refine held_val 4 (some 11) rfl rfl (by kernel_rfl) (by kernel_rfl) (by kernel_rfl) (fun _ _ _ h => h) (by kernel_rfl) (fun W hW => rfl) hS ?_; simp only [Act.put, lsA, lsB, lsC])
  (refine held_val 5 (some 12) rfl rfl (by kernel_rfl) (by kernel_rfl) (by kernel_rfl) (fun _ _ _ h => h) (by kernel_rfl) (fun W hW => rfl) hS ?_; simp only [Act.put, lsA, lsB, lsC])
  (refine held_val 6 (some 13) rfl rfl (by kernel_rfl) (by kernel_rfl) (by kernel_rfl) (fun _ _ _ h => h) (by kernel_rfl) (fun W hW => rfl) hS ?_; simp only [Act.put, lsA, lsB, lsC])
  refine held_ld 7 (some 14) 3 (.tmp 13) ⟨g, 1, none⟩ rfl rfl rfl rfl (by kernel_rfl) (by kernel_rfl) (by kernel_rfl) (fun _ _ _ h => h) (by kernel_rfl) (fun W hW => run_load1 underlying3 rfl (Blk.cell_ hW 1 rfl)) hS ?_
  simp only [Act.put, lsA, lsB, lsC]
  refine held_call 8 (some 15) 249 #[.string (bs m), .int .i64 (a : Int)] (by kernel_rfl) rfl rfl (by kernel_rfl) (by go_simp) (G.out _) ?_
  rintro _ w1 ⟨v, rfl, hT, k1', _⟩
  have k1 : Below w.heap.size w w1 := below_then (w := w.drew) (Below.refl _ _).drew (Nat.le_refl _) k1'
  have R1 : RdM w1 g m a := Blk.below h k1 hgl
  refine ⟨_, rfl, R1, ?_⟩
  clear hS
  have hS := R1
  simp only [Act.put, lsA, lsB, lsC]
  (refine held_val 9 (some 6) rfl rfl (by kernel_rfl) (by kernel_rfl) (by kernel_rfl) (fun _ _ _ h => h) (by kernel_rfl) (fun W hW => rfl) hS ?_; simp only [Act.put, lsA, lsB, lsC])
  (refine held_val 10 (some 16) rfl rfl (by kernel_rfl) (by kernel_rfl) (by kernel_rfl) (fun _ _ _ h => h) (by kernel_rfl) (fun W hW => rfl) hS ?_; simp only [Act.put, lsA, lsB, lsC])
  (refine held_val 11 (some 17) rfl rfl (by kernel_rfl) (by kernel_rfl) (by kernel_rfl) (fun _ _ _ h => h) (by kernel_rfl) (fun W hW => rfl) hS ?_; simp only [Act.put, lsA, lsB, lsC])
  (refine held_val 12 (some 18) rfl rfl (by kernel_rfl) (by kernel_rfl) (by kernel_rfl) (fun _ _ _ h => h) (by kernel_rfl) (fun W hW => rfl) hS ?_; simp only [Act.put, lsA, lsB, lsC])
  (refine held_val 13 (some 3) rfl rfl (by kernel_rfl) (by kernel_rfl) (by kernel_rfl) (fun _ _ _ h => h) (by kernel_rfl) (fun W hW => rfl) hS ?_; simp only [Act.put, lsA, lsB, lsC])
  (refine held_val 14 (some 4) rfl rfl (by kernel_rfl) (by kernel_rfl) (by kernel_rfl) (fun _ _ _ h => h) (by kernel_rfl) (fun W hW => rfl) hS ?_; simp only [Act.put, lsA, lsB, lsC])
  (refine held_val 15 (some 5) rfl rfl (by kernel_rfl) (by kernel_rfl) (by kernel_rfl) (fun _ _ _ h => h) (by kernel_rfl) (fun W hW => rfl) hS ?_; simp only [Act.put, lsA, lsB, lsC])
  refine wpAnyH_done (by kernel_rfl) ?_ _
  clear hS c0 c1 G k1'
 ·
  have N1 := NmO.mk' hT h4 h5
  simp only [goB, goE, goN] at *
  go_wp2_with fail
  refine (mchk_ok _).mono ?_
  rintro _ w2 ⟨rfl, rfl⟩
  go_wp2_with (refine at_op (.store 3 (.tmp 24) (.tmp 22)) rfl ?_; go_must (refine wpList_stC rfl 3 (.tmp 24) (.tmp 22) rfl g 1 rfl (.int .i64 (n : Int)) rfl R1 (by simp) intInfo1 rfl rfl ?_))
  intro w3 B3 g3 _
  have N3 := N1.stays (Stays.blk g3 R1 (by decide))
  have gg := grown_trans (grown_of_below k1 _) g3 (.inl rfl)
  go_wp2_with fail
  go_ret
  exact ⟨_, rfl, N3, B3, gg, h3⟩
 ·
  simp only [goB, goE, goN] at *
  go_wp2_with fail
  refine (mchk_bad x h3.ne _).mono ?_
  rintro _ w2 ⟨rfl, rfl⟩
  go_wp2_with fail
  exact ⟨rfl, rfl, grown_of_below k1 _⟩
def QV (w : World) (v : Value) (q : Qn) : Prop := ∃ cs, v = .agg cs.toArray ∧ Qown w cs q
def RV (w : World) (v : Value) (r : RR) : Prop := ∃ cs, v = .agg cs.toArray ∧ RRown w cs r
theorem rd_bad {α : Type} {V : World → Value → α → Prop} {g : Nat} {m : List UInt8} {w : World} {o : Except Int (α × Nat)} {x : Int} {e : Ending} {w' : World} (ho : o = .error x) (h : RdRet V g m w o e w') : e = .panicked (mstop x) ∧ w.grownBy w' (some g) := by subst ho; exact h
theorem rd_ok {α : Type} {V : World → Value → α → Prop} {g : Nat} {m : List UInt8} {w : World} {o : Except Int (α × Nat)} {x : α} {p : Nat} {e : Ending} {w' : World} (ho : o = .ok (x, p)) (h : RdRet V g m w o e w') : ∃ v, e = .returned v ∧ V w' v x ∧ RdM w' g m p ∧ w.grownBy w' (some g) ∧ p ≤ m.length := by subst ho; exact h
def qZ : List Value := [.slice none 0 0, .int .i64 0, .int .i64 0]
set_option maxHeartbeats 1000000 in
theorem mquestion_any (g : Nat) (m : List UInt8) (a : Nat) (w : World) (h : RdM w g m a) (hl : m.length ≤ 65535) (ha : a ≤ m.length) :
  Calls prog 215 #[.pointer (some ⟨g, 0, none⟩)] w (RdRet QV g m w (questAt m a)) := by
 have hgl : g < w.heap.size := Blk.lt h
 have kb : Below w.heap.size w (w.alloc (.cells #[.slice none 0 0, .int .i64 0, .int .i64 0] 28)) := (Below.refl _ _).alloc (Nat.le_refl _) _
 have R0 : RdM (w.alloc (.cells #[.slice none 0 0, .int .i64 0, .int .i64 0] 28)) g m a := Blk.below h kb hgl
 have B0 := Blk.new w 28 qZ
 have G0 := grown_of_below kb (some g)
 have N1 := Hh (mname_any g m a _ R0 hl ha)
 unfold questAt
 cases h1 : nameAt m a with
 | error x =>
  simp only
  go_enter func215, ntmps215
  go_wp2_with fail
  refine N1.out.mono ?_
  intro e w1 hr
  obtain ⟨rfl, g1⟩ := rd_bad h1 hr
  go_wp2_with fail
  exact ⟨rfl, rfl, grown_trans G0 g1 (.inl rfl)⟩
 | ok y =>
 obtain ⟨nm, p1⟩ := y
 simp only
 cases h2 : numAt m 2 p1 with
 | error x =>
  simp only
  go_enter func215, ntmps215
  go_wp2_with fail
  refine N1.out.mono ?_
  intro e w1 hr
  obtain ⟨v, rfl, nv, R1, g1, l1⟩ := rd_ok h1 hr
  have N2 := Hh (mnum_any g m p1 2 w1 R1 hl l1 (.inl rfl))
  go_wp2_with fail
  refine N2.out.mono ?_
  intro e w2 hr
  obtain ⟨rfl, g2⟩ := rd_bad h2 hr
  go_wp2_with fail
  exact ⟨rfl, rfl, grown_trans (grown_trans G0 g1 (.inl rfl)) g2 (.inl rfl)⟩
 | ok y =>
 obtain ⟨ty, p2⟩ := y
 simp only
 cases h3 : numAt m 2 p2 with
 | error x =>
  simp only
  go_enter func215, ntmps215
  go_wp2_with fail
  refine N1.out.mono ?_
  intro e w1 hr
  obtain ⟨v, rfl, nv, R1, g1, l1⟩ := rd_ok h1 hr
  have N2 := Hh (mnum_any g m p1 2 w1 R1 hl l1 (.inl rfl))
  go_wp2_with fail
  refine N2.out.mono ?_
  intro e w2 hr
  obtain ⟨v2, rfl, rfl, R2, g2, l2⟩ := rd_ok h2 hr
  have N3 := Hh (mnum_any g m p2 2 w2 R2 hl l2 (.inl rfl))
  go_wp2_with fail
  refine N3.out.mono ?_
  intro e w3 hr
  obtain ⟨rfl, g3⟩ := rd_bad h3 hr
  go_wp2_with fail
  exact ⟨rfl, rfl, grown_trans (grown_trans (grown_trans G0 g1 (.inl rfl)) g2 (.inl rfl)) g3 (.inl rfl)⟩
 | ok y =>
 obtain ⟨cl, p3⟩ := y
 simp only
 go_enter func215, ntmps215
 go_wp2_with fail
 refine N1.out.mono ?_
 intro e w1 hr
 obtain ⟨v, rfl, nv, R1, g1, l1⟩ := rd_ok h1 hr
 have N2 := Hh (mnum_any g m p1 2 w1 R1 hl l1 (.inl rfl))
 have B1 := B0.grown g1 (by simp; omega)
 clear hr
 go_wp2_with fail
 refine N2.out.mono ?_
 intro e w2 hr
 obtain ⟨v2, rfl, rfl, R2, g2, l2⟩ := rd_ok h2 hr
 have N3 := Hh (mnum_any g m p2 2 w2 R2 hl l2 (.inl rfl))
 have B2 := B1.grown g2 (by simp; omega)
 replace nv := nv.stays (Stays.blk g2 R1 (by decide))
 clear hr
 go_wp2_with fail
 refine N3.out.mono ?_
 intro e w3 hr
 obtain ⟨v3, rfl, rfl, R3, g3, l3⟩ := rd_ok h3 hr
 have B3 := B2.grown g3 (by simp; omega)
 replace nv := nv.stays (Stays.blk g3 R2 (by decide))
 have gg := grown_trans (grown_trans (grown_trans G0 g1 (.inl rfl)) g2 (.inl rfl)) g3 (.inl rfl)
 obtain ⟨A, c, hv, -⟩ := nv.form
 subst hv
 clear hr N1 N2 N3 B0 B1 B2 R0 R1 R2 g1 g2 g3 G0 kb h h1 h2 h3
 go_wp2_with (refine at_op (.store 28 (.tmp 2) (.tmp 13)) rfl ?_; go_must (refine wpList_stB rfl _ _ _ rfl w.heap.size 0 rfl [.slice A nm.length c, .int .i64 (ty : Int), .int .i64 (cl : Int)] rfl B3 (by simp [qZ]) qInfo (by simp [Value.oneCell']) ?_))
 intro w4 B4 g4 _
 have R4 := Blk.grown R3 g4 (by simp; omega)
 replace nv := nv.stays (Stays.blk g4 B3 (by decide))
 have gg4 : w.grownBy w4 (some g) := grown_trans gg g4 (.inr (fun k hk => by injection hk with hk; omega))
 go_wp2_with fail
 refine ret_cell rfl w.heap.size rfl B4 _ underlying28 rfl qInfo rfl ?_
 exact ⟨_, rfl, ⟨_, rfl, .slice A nm.length c, rfl, nv⟩, R4, gg4, l3⟩
theorem rd_cases {α : Type} {V : World → Value → α → Prop} {g : Nat} {m : List UInt8} {w : World} {o : Except Int (α × Nat)} {e : Ending} {w' : World} (h : RdRet V g m w o e w') :
  (∃ x, o = .error x ∧ e = .panicked (mstop x) ∧ w.grownBy w' (some g)) ∨ (∃ x p v, o = .ok (x, p) ∧ e = .returned v ∧ V w' v x ∧ RdM w' g m p ∧ w.grownBy w' (some g) ∧ p ≤ m.length) := by
 cases o with
 | error x => exact .inl ⟨x, rfl, h⟩
 | ok y => obtain ⟨x, p⟩ := y; obtain ⟨v, h⟩ := h; exact .inr ⟨x, p, v, rfl, h⟩
theorem grown_next {a b c : World} {g : Nat} (h : a.grownBy b (some g)) (k : b.grownBy c (some g)) : a.grownBy c (some g) := grown_trans h k (.inl rfl)
theorem numAt_lt2 {m : List UInt8} {p n q : Nat} (h : numAt m 2 p = .ok (n, q)) : n < 65536 := by
 unfold numAt at h
 split at h
 ·
  cases h
 ·
  injection h with h; injection h with h1 h2
  rw [← h1]; exact numB_le _ 2 (by simp; omega)
set_option maxHeartbeats 4000000 in
theorem mrecord_any (g : Nat) (m : List UInt8) (a : Nat) (w : World) (h : RdM w g m a) (hl : m.length ≤ 65535) (ha : a ≤ m.length) :
  Calls prog 241 #[.pointer (some ⟨g, 0, none⟩)] w (RdRet RV g m w (recAt m a)) := by
 have hgl : g < w.heap.size := Blk.lt h
 have kb : Below w.heap.size w (w.alloc (.cells rrZ.toArray 119)) := (Below.refl _ _).alloc (Nat.le_refl _) _
 have R0 : RdM (w.alloc (.cells rrZ.toArray 119)) g m a := Blk.below h kb hgl
 have B0 := Blk.new w 119 rrZ
 have G0 := grown_of_below kb (some g)
 obtain ⟨w0, hw0⟩ : ∃ w0, w.alloc (.cells rrZ.toArray 119) = w0 := ⟨_, rfl⟩
 rw [hw0] at R0 B0 G0
 have HW : Hid (w.alloc (.cells #[.slice none 0 0, .int .i64 0, .int .i64 0, .int .i64 0, .int .i64 0, .int .u8 0, .int .u8 0, .int .u8 0, .int .u8 0, .int .u8 0, .int .u8 0, .int .u8 0, .int .u8 0, .int .u8 0, .int .u8 0, .int .u8 0, .int .u8 0, .int .u8 0, .int .u8 0, .int .u8 0, .int .u8 0, .int .i64 0, .slice none 0 0, .slice none 0 0, .int .i64 0, .int .i64 0, .int .i64 0, .int .i64 0, .int .i64 0, .int .i64 0, .int .i64 0, .int .i64 0, .string ⟨#[]⟩] 119) = w0) := Hh (by rw [← hw0, rrZ_lit])
 have N1 := Hh (mname_any g m a _ R0 hl ha)
 clear hw0 kb h
 go_enter func241, ntmps241
 go_wp2_with fail
 rw [HW.out]
 refine N1.out.mono ?_
 intro e w1 hr
 rcases rd_cases hr with ⟨x, h1, rfl, g1⟩ | ⟨nm, p1, v, h1, rfl, nv, R1, g1, l1⟩
 ·
  go_wp2_with fail
  exact ⟨rfl, by rw [show recAt m a = .error x by simp only [recAt, h1]]; exact ⟨rfl, grown_next G0 g1⟩⟩
 have G1 := grown_next G0 g1
 have B1 := B0.grown g1 (by simp; omega)
 have N2 := Hh (mnum_any g m p1 2 w1 R1 hl l1 (.inl rfl))
 clear hr N1 HW G0 B0 g1
 go_wp2_with fail
 refine N2.out.mono ?_
 intro e w2 hr
 rcases rd_cases hr with ⟨x, h2, rfl, g2⟩ | ⟨ty, p2, v2, h2, rfl, rfl, R2, g2, l2⟩
 ·
  go_wp2_with fail
  exact ⟨rfl, by rw [show recAt m a = .error x by simp only [recAt, h1, h2]]; exact ⟨rfl, grown_next G1 g2⟩⟩
 have G2 := grown_next G1 g2
 have B2 := B1.grown g2 (by simp; omega)
 replace nv := nv.stays (Stays.blk g2 R1 (by decide))
 have N3 := Hh (mnum_any g m p2 2 w2 R2 hl l2 (.inl rfl))
 clear hr N2 G1 B1 g2 R1
 go_wp2_with fail
 refine N3.out.mono ?_
 intro e w3 hr
 rcases rd_cases hr with ⟨x, h3, rfl, g3⟩ | ⟨cl, p3, v3, h3, rfl, rfl, R3, g3, l3⟩
 ·
  go_wp2_with fail
  exact ⟨rfl, by rw [show recAt m a = .error x by simp only [recAt, h1, h2, h3]]; exact ⟨rfl, grown_next G2 g3⟩⟩
 have G3 := grown_next G2 g3
 have B3 := B2.grown g3 (by simp; omega)
 replace nv := nv.stays (Stays.blk g3 R2 (by decide))
 have N4 := Hh (mnum_any g m p3 4 w3 R3 hl l3 (.inr rfl))
 clear hr N3 G2 B2 g3 R2
 go_wp2_with fail
 refine N4.out.mono ?_
 intro e w4 hr
 rcases rd_cases hr with ⟨x, h4, rfl, g4⟩ | ⟨ttl, p4, v4, h4, rfl, rfl, R4, g4, l4⟩
 ·
  go_wp2_with fail
  exact ⟨rfl, by rw [show recAt m a = .error x by simp only [recAt, h1, h2, h3, h4]]; exact ⟨rfl, grown_next G3 g4⟩⟩
 have G4 := grown_next G3 g4
 have B4 := B3.grown g4 (by simp; omega)
 replace nv := nv.stays (Stays.blk g4 R3 (by decide))
 have N5 := Hh (mnum_any g m p4 2 w4 R4 hl l4 (.inl rfl))
 clear hr N4 G3 B3 g4 R3
 go_wp2_with fail
 refine N5.out.mono ?_
 intro e w5 hr
 rcases rd_cases hr with ⟨x, h5, rfl, g5⟩ | ⟨sz, p5, v5, h5, rfl, rfl, R5, g5, l5⟩
 ·
  go_wp2_with fail
  exact ⟨rfl, by rw [show recAt m a = .error x by simp only [recAt, h1, h2, h3, h4, h5]]; exact ⟨rfl, grown_next G4 g5⟩⟩
 have G5 := grown_next G4 g5
 have B5 := B4.grown g5 (by simp; omega)
 replace nv := nv.stays (Stays.blk g5 R4 (by decide))
 have hsz := numAt_lt2 h5
 have c1 := Blk.cell_ R5 1 rfl
 clear hr N5 G4 B4 g5 R4
 by_cases hs : m.length < p5 + sz
 case pos =>
  have T := Hh (mtake_no g m p5 sz w5 R5 hl l5 hs (by omega))
  go_wp2_with fail
  refine T.out.mono ?_
  rintro _ w6 ⟨rfl, g6⟩
  go_wp2_with fail
  exact ⟨rfl, by rw [show recAt m a = .error 1 by simp only [recAt, h1, h2, h3, h4, h5, if_pos hs]]; exact ⟨rfl, grown_next G5 g6⟩⟩
 have T := Hh (mtake_yes g m p5 sz w5 R5 hl (by omega))
 go_wp2_with fail
 refine T.out.mono ?_
 rintro _ w6 ⟨rfl, R6, g6⟩
 have G6 := grown_next G5 g6
 have B6 := B5.grown g6 (by simp; omega)
 replace nv := nv.stays (Stays.blk g6 R5 (by decide))
 have c0 := Blk.cell_ R6 0 rfl
 have GT := Hh (rget_any m p5 sz ty cl w6 (by omega) (by omega))
 clear T G5 B5 g6 R5 c1
 cases hgr : getR m p5 sz ty cl with
 | error x =>
  rw [hgr] at GT
  go_wp2_with fail
  refine GT.out.mono ?_
  rintro _ w7 ⟨hx, rfl, b7⟩
  have G7 : w.grownBy w7 (some g) := grown_below G6 b7
  have hz7 := G7.size
  clear GT B6 R6 c0 G6
  go_wp2_with (refine at_op (.store 119 (.tmp 9) (.tmp 38)) rfl ?_; go_must (refine wpList_stB rfl _ _ _ rfl w7.heap.size 0 rfl rrZ rfl (Blk.new' _ _ rrZ _ rfl) (by rw [rrZ_len]; omega) (by rw [rrZ_len]; exact rrInfo) rrZ_one ?_))
  intro w8 B8 g8 _
  have G8 : w.grownBy w8 (some g) := grown_trans (grown_alloc G7 _) g8 (.inr (fun k hk => by injection hk with hk; omega))
  clear B8 g8
  go_wp2_with fail
  refine (mchk_bad x hx _).mono ?_
  rintro _ w9 ⟨rfl, rfl⟩
  go_wp2_with fail
  exact ⟨rfl, by rw [show recAt m a = .error x by simp only [recAt, h1, h2, h3, h4, h5, if_neg hs, hgr]]; exact ⟨rfl, G8⟩⟩
 | ok r0 =>
  rw [hgr] at GT
  go_wp2_with fail
  refine GT.out.mono ?_
  rintro _ w7 ⟨cs, rfl, hO, b7⟩
  have G7 : w.grownBy w7 (some g) := grown_below G6 b7
  have hz7 := G7.size
  have hcl := hO.len
  have hc1 := Hh hO.one
  have kn : Below w7.heap.size w7 (w7.alloc (.cells rrZ.toArray 119)) := (Below.refl _ _).alloc (Nat.le_refl _) _
  have R7 := (Blk.below (Blk.below R6 b7 (Blk.lt R6)) kn (by have := Blk.lt R6; have := b7.size; omega))
  have T7 := (B6.below b7 B6.lt).below kn (by have := B6.lt; have := b7.size; omega)
  replace nv := (nv.stays (Stays.below b7)).stays (Stays.below kn)
  replace hO := hO.stays (Stays.below kn)
  have Bn := Blk.new w7 119 rrZ
  have hT2 := B6.lt
  have hb7 := b7.size
  clear GT B6 R6 c0 G6 b7 kn
  go_wp2_with (refine at_op (.store 119 (.tmp 9) (.tmp 38)) rfl ?_; go_must (refine wpList_stB rfl _ _ _ rfl w7.heap.size 0 rfl cs rfl Bn (by rw [rrZ_len]; omega) (by rw [hcl]; exact rrInfo) hc1.out ?_))
  intro w8 B8 g8 _
  rw [List.drop_of_length_le (by rw [rrZ_len]; omega), List.append_nil] at B8
  have R8 := Blk.grown R7 g8 (by simp; omega)
  have T8 := T7.grown g8 (by simp; omega)
  have G8 : w.grownBy w8 (some g) := grown_trans (grown_alloc G7 _) g8 (.inr (fun k hk => by injection hk with hk; omega))
  replace nv := nv.stays (Stays.blk g8 Bn (by decide))
  replace hO := hO.stays (Stays.blk g8 Bn (by decide))
  have hg9 : g < w7.heap.size := by omega
  have hw9 : w.heap.size < w7.heap.size := by omega
  clear R7 T7 G7 g8 Bn hc1 hT2 hb7 hz7
  generalize w7.heap.size = g9 at *
  go_wp2_with fail
  refine (mchk_ok _).mono ?_
  rintro _ w9 ⟨rfl, rfl⟩
  obtain ⟨vn, vt, vm, hcs, hwf, n1, n2, n3, hraw⟩ := hO
  have HCS := Hh hcs
  clear hcs n1
  obtain ⟨A, c, hv, -⟩ := nv.form
  subst hv
  go_wp2_with (refine at_op (.store 26 (.tmp 46) (.tmp 42)) rfl ?_; go_must (refine wpList_stC rfl 26 (.tmp 46) (.tmp 42) rfl g9 0 rfl (.slice A nm.length c) rfl B8 (by omega) nameInfo1 rfl rfl ?_))
  intro w9 B9 g9_ _
  obtain ⟨M9, hM9⟩ : ∃ M, M = cs.set 0 (.slice A nm.length c) := ⟨_, rfl⟩
  rw [← hM9] at B9
  have lM9 : M9.length = 33 := by rw [hM9, List.length_set]; exact hcl
  have HM9 := Hh hM9
  clear hM9
  have R9 := Blk.grown R8 g9_ (by simp; omega)
  have T9 := T8.grown g9_ (by simp; omega)
  have G9 : w.grownBy w9 (some g) := grown_trans G8 g9_ (.inr (fun k hk => by injection hk with hk; omega))
  replace nv := nv.stays (Stays.blk g9_ B8 (by decide))
  replace n2 := n2.stays (Stays.blk g9_ B8 (by decide))
  replace n3 := n3.stays (Stays.blk g9_ B8 (by decide))
  clear R8 T8 G8 g9_ B8
  go_wp2_with (refine at_op (.store 3 (.tmp 47) (.tmp 43)) rfl ?_; go_must (refine wpList_stC rfl 3 (.tmp 47) (.tmp 43) rfl g9 1 rfl (.int .i64 (ty : Int)) rfl B9 (by omega) intInfo1 rfl rfl ?_))
  intro wx Bx gx _
  obtain ⟨Mx, hMx⟩ : ∃ M, M = M9.set 1 (.int .i64 (ty : Int)) := ⟨_, rfl⟩
  rw [← hMx] at Bx
  have lMx : Mx.length = 33 := by rw [hMx, List.length_set]; exact lM9
  have HMx := Hh hMx
  clear hMx
  have Rx := Blk.grown R9 gx (by simp; omega)
  have Tx := T9.grown gx (by simp; omega)
  have Gx : w.grownBy wx (some g) := grown_trans G9 gx (.inr (fun k hk => by injection hk with hk; omega))
  replace nv := nv.stays (Stays.blk gx B9 (by decide))
  replace n2 := n2.stays (Stays.blk gx B9 (by decide))
  replace n3 := n3.stays (Stays.blk gx B9 (by decide))
  clear R9 T9 G9 gx B9
  go_wp2_with (refine at_op (.store 3 (.tmp 48) (.tmp 44)) rfl ?_; go_must (refine wpList_stC rfl 3 (.tmp 48) (.tmp 44) rfl g9 2 rfl (.int .i64 (cl : Int)) rfl Bx (by omega) intInfo1 rfl rfl ?_))
  intro wy By gy _
  obtain ⟨My, hMy⟩ : ∃ M, M = Mx.set 2 (.int .i64 (cl : Int)) := ⟨_, rfl⟩
  rw [← hMy] at By
  have lMy : My.length = 33 := by rw [hMy, List.length_set]; exact lMx
  have HMy := Hh hMy
  clear hMy
  have Ry := Blk.grown Rx gy (by simp; omega)
  have Ty := Tx.grown gy (by simp; omega)
  have Gy : w.grownBy wy (some g) := grown_trans Gx gy (.inr (fun k hk => by injection hk with hk; omega))
  replace nv := nv.stays (Stays.blk gy Bx (by decide))
  replace n2 := n2.stays (Stays.blk gy Bx (by decide))
  replace n3 := n3.stays (Stays.blk gy Bx (by decide))
  clear Rx Tx Gx gy Bx
  go_wp2_with (refine at_op (.store 3 (.tmp 49) (.tmp 45)) rfl ?_; go_must (refine wpList_stC rfl 3 (.tmp 49) (.tmp 45) rfl g9 3 rfl (.int .i64 (ttl : Int)) rfl By (by omega) intInfo1 rfl rfl ?_))
  intro wz Bz gz _
  obtain ⟨Mz, hMz⟩ : ∃ M, M = My.set 3 (.int .i64 (ttl : Int)) := ⟨_, rfl⟩
  rw [← hMz] at Bz
  have lMz : Mz.length = 33 := by rw [hMz, List.length_set]; exact lMy
  have HMz := Hh hMz
  clear hMz
  have Rz := Blk.grown Ry gz (by simp; omega)
  have Tz := Ty.grown gz (by simp; omega)
  have Gz : w.grownBy wz (some g) := grown_trans Gy gz (.inr (fun k hk => by injection hk with hk; omega))
  replace nv := nv.stays (Stays.blk gz By (by decide))
  replace n2 := n2.stays (Stays.blk gz By (by decide))
  replace n3 := n3.stays (Stays.blk gz By (by decide))
  clear Ry Ty Gy gz By
  have hMz : Mz = rrC (.slice A nm.length c) vt vm { r0 with name := nm, ty := ty, cl := cl, ttl := ttl } := by rw [HMz.out, HMy.out, HMx.out, HM9.out, HCS.out]; rfl
  have OW : RRown wz Mz { r0 with name := nm, ty := ty, cl := cl, ttl := ttl } := ⟨_, vt, vm, hMz, ⟨hwf.1, hwf.2⟩, nv, n2, n3, hraw⟩
  have RE : Hid (recAt m a = .ok ({ r0 with name := nm, ty := ty, cl := cl, ttl := ttl }, p5 + sz)) := Hh (by simp only [recAt, h1, h2, h3, h4, h5, if_neg hs, hgr])
  generalize ({ r0 with name := nm, ty := ty, cl := cl, ttl := ttl } : RR) = r9 at *
  have o1 := Hh OW.one
  clear HMz HMy HMx HM9 HCS hMz nv n2 n3 hwf hraw h1 h2 h3 h4 h5 hgr
  go_wp2_with (first
   | (refine at_op (.load 119 (.tmp 9)) rfl ?_; go_must (refine wpList_ldB rfl _ _ rfl g9 0 rfl Bz 33 (by omega) _ underlying119 rfl rrInfo Mz (tk0 (by omega)) ?_))
   | (refine at_op (.store 119 (.tmp 2) (.tmp 50)) rfl ?_; go_must (refine wpList_stB rfl _ _ _ rfl w.heap.size 0 rfl Mz rfl Tz (by rw [rrZ_len]; omega) (by rw [lMz]; exact rrInfo) o1.out ?_)))
  intro wq Bq gq _
  rw [List.drop_of_length_le (by rw [rrZ_len]; omega), List.append_nil] at Bq
  have Rq := Blk.grown Rz gq (by simp; omega)
  have Gq : w.grownBy wq (some g) := grown_trans Gz gq (.inr (fun k hk => by injection hk with hk; omega))
  have Oq := OW.stays (Stays.blk gq Tz (by decide))
  clear Rz Gz Tz Bz gq OW
  go_wp2_with fail
  refine ret_cell rfl w.heap.size rfl Bq _ underlying119 rfl (by rw [lMz]; exact rrInfo) rfl ?_
  rw [RE.out]
  exact ⟨_, rfl, ⟨Mz, rfl, Oq⟩, Rq, Gq, by omega⟩
theorem fold_set (place : Nat) : ∀ (cs : List Value) (k : Nat) (base : List Value), k + cs.length ≤ base.length →
  (cs.zipIdx k).foldl (fun (b : List Value) x => b.set (0 + x.2) x.1) base = base.take k ++ cs ++ base.drop (k + cs.length)
 | [], k, base, h => by simp
 | c :: cs, k, base, h => by
  have hk : k < base.length := by simp at h; omega
  rw [List.zipIdx_cons, List.foldl_cons, Nat.zero_add, fold_set place cs (k + 1) (base.set k c) (by simp at h ⊢; omega)]
  have e1 : (base.set k c).take (k + 1) = base.take k ++ [c] := by
   rw [List.take_succ_eq_append_getElem (by simpa using hk)]
   simp [List.take_set]
   exact List.set_eq_of_length_le (by simp; omega)
  have e2 : (base.set k c).drop (k + 1 + cs.length) = base.drop (k + 1 + cs.length) := List.drop_set_of_lt (by omega)
  rw [e1, e2]
  simp [Nat.add_assoc, Nat.add_comm 1]
theorem fold_arr (cs : List (Value × Nat)) : ∀ (base : List Value), (cs.foldl (fun (b : Array Value) x => b.setIfInBounds (0 + x.2) x.1) base.toArray) = (cs.foldl (fun (b : List Value) x => b.set (0 + x.2) x.1) base).toArray := by
 induction cs with
 | nil => intro base; rfl
 | cons c cs ih => intro base; rw [List.foldl_cons, List.foldl_cons, List.setIfInBounds_toArray, ih]
theorem fill_one (n : Nat) (base : List Value) (cs : List Value) (h1 : cs.length = n) (h2 : base.length = n) : Instr.fill (fun i => some (i * n, n)) base.toArray [(0, .agg cs.toArray)] = some cs.toArray := by
 have hc : (Value.agg cs.toArray).cells = cs.toArray := rfl
 unfold Instr.fill
 simp only [Nat.zero_mul, hc, List.size_toArray, h1, h2]
 rw [if_neg (by simp)]
 unfold Instr.fill
 have e : (cs.toArray.zipIdx.foldl (fun (b : Array Value) x => b.setIfInBounds (0 + x.2) x.1) base.toArray) = cs.toArray := by
  rw [← Array.foldl_toList, Array.toList_zipIdx, List.toList_toArray, fold_arr, fold_set 0 cs 0 base (by omega)]
  rw [List.take_zero, List.nil_append, List.drop_of_length_le (by omega), List.append_nil]
 exact congrArg some e
theorem wpList_bsR {ops : Array Oper} {rest : List Oper} {o : Oper} {a : Act} {w : World} {Q : Exit → Act → World → Prop} (hg : o.guard = none) (x : Operand) (ho : o.op = .buildSlice 48 1 #[(0, x)]) (cs : List Value) (hx : a.eval x = .agg cs.toArray) (hl : cs.length = 33)
  (h : wpList prog ops Q rest (a.put o.dst (.slice (some ⟨w.heap.size, 0, none⟩) 1 1)) (w.alloc (.cells cs.toArray 119))) : wpList prog ops Q (o :: rest) a w := by
 obtain ⟨i, hi, hz, hsize, hby⟩ := info_parts rrInfo3
 refine wpList_buildSlice hg 48 119 1 #[(0, x)] ho cs.toArray i _ underlying48 hi hz (by rw [hsize]; decide) (by rw [hsize]; decide) ?_ h
 rw [hsize]
 have e : ((#[(0, x)] : Array (Nat × Operand)).map fun (i, x) => (i, a.eval x)).toList = [(0, .agg cs.toArray)] := by simp [hx]
 rw [e]
 have := fill_one 33 ((Array.range (1 * 33)).map ((Value.agg rrZ.toArray).cells[· % (Value.agg rrZ.toArray).cells.size]!)).toList cs hl (by simp)
 rw [Array.toArray_toList] at this
 exact this
theorem RRsOwn.app {w1 w2 : World} {B : Nat} {v v' : Value} {l : List RR} {cs : List Value} {r : RR} {css : List (List Value)} (h : Each (RRown w1) css l) (hr : RRown w1 cs r) (hs : Stays w1 w2) (ho : w2.ownsRow B 119 33 v' (l.length + 1) (css.flatten ++ cs)) : RRsOwn w2 B v' (l ++ [r]) := by
 refine ⟨css ++ [cs], ?_, (h.app1 hr).mono (fun _ _ x => x.stays hs)⟩
 simpa using ho
set_option maxHeartbeats 2000000 in
theorem mrecords_any (g : Nat) (m : List UInt8) (a n : Nat) (w : World) (h : RdM w g m a) (hl : m.length ≤ 65535) (ha : a ≤ m.length) (hn : n ≤ 65535) :
  Calls prog 216 #[.pointer (some ⟨g, 0, none⟩), .int .i64 n] w (RdRet (fun w' v l => RRsOwn w' w.heap.size v l ∧ l.length ≤ n) g m w (manyAt (recAt m) n a)) := by
 have hgl : g < w.heap.size := Blk.lt h
 obtain ⟨O, hO⟩ : ∃ O, O = manyAt (recAt m) n a := ⟨_, rfl⟩
 rw [← hO]
 have HO : Hid (behindL [] (manyAt (recAt m) (n - 0) a) = O) := Hh (by rw [behind_nil, hO]; rfl)
 clear hO
 go_enter func216, ntmps216
 go_wp2_with fail
 go_loopw [5, 7] (fun lv iv wr => ∃ (k : Nat) (acc : List RR) (p : Nat), k ≤ n ∧ iv = .int .i64 k ∧ acc.length = k ∧ RRsOwn wr w.heap.size lv acc ∧ RdM wr g m p ∧ p ≤ m.length ∧ w.grownBy wr (some g) ∧ Hid (behindL acc (manyAt (recAt m) (n - k) p) = O)) (fun _ iv _ => n - (intOf iv).toNat)
 case atStart => exact ⟨0, [], a, Nat.zero_le _, rfl, rfl, RRsOwn.nil _ _, h, ha, World.grownBy.refl _ _, HO⟩
 clear HO h ha
 obtain ⟨k, acc, p, hk, rfl, hal, oR, R, lp, G, HO⟩ := hrel
 have HAL := Hh hal
 have hale : acc.length ≤ 65535 := by omega
 clear hal
 have hsz := G.size
 by_cases hlt : k < n
 case pos =>
  have hlt' : (k : Int) < n := by omega
  have e1 : n - k = (n - (k + 1)) + 1 := by omega
  rw [e1] at HO
  have RC := Hh (mrecord_any g m p wr R hl lp)
  obtain ⟨A, c, hv⟩ := oR.form
  subst hv
  go_wp2_with fail
  refine RC.out.mono ?_
  intro e w1 hr
  rcases rd_cases hr with ⟨x, h1, rfl, g1⟩ | ⟨r, p', v, h1, rfl, ⟨cs, rfl, hO'⟩, R1, g1, l1⟩
  ·
   obtain rfl : O = .error x := by rw [← HO.out]; exact many_fail h1
   go_wp2_with fail
   exact ⟨rfl, rfl, grown_next G g1⟩
  have o1 := oR.blk g1 R (by decide) (by decide)
  have G1 := grown_next G g1
  have HO1 : Hid (behindL (acc ++ [r]) (manyAt (recAt m) (n - (k + 1)) p') = O) := Hh (by rw [← many_step h1]; exact HO.out)
  have hcl := hO'.len
  have hc1 := Hh hO'.one
  clear hr RC oR R lp G HO g1 h1 hsz
  have kn : Below w1.heap.size w1 (w1.alloc (.cells cs.toArray 119)) := (Below.refl _ _).alloc (Nat.le_refl _) _
  obtain ⟨css, ow, hE⟩ := o1
  have ow2 := own_below ow kn
  have Bn := Blk.new w1 119 cs
  have hrg : (w1.alloc (.cells cs.toArray 119)).rangeAt w1.heap.size 0 cs := by
   have := Bn.range 0 33 (by omega)
   rwa [List.drop_zero, List.take_of_length_le (by omega)] at this
  have G2 := grown_alloc G1 (.cells cs.toArray 119)
  have hs1 := G1.size
  have R2 := Blk.below R1 kn (Blk.lt R1)
  replace hE := hE.mono (fun _ _ x => x.stays (Stays.below kn))
  replace hO' := hO'.stays (Stays.below kn)
  go_wp2_with (first
   | (refine at_op (.buildSlice 48 1 #[(0, .tmp 11)]) rfl ?_; go_must (refine wpList_bsR rfl (.tmp 11) rfl cs rfl hcl ?_))
   | (at_builtin; go_must (refine wpList_appR _ rfl (.tmp 9) (.tmp 12) rfl w.heap.size _ acc.length css.flatten rfl ow2 (by simp; omega) (some ⟨w1.heap.size, 0, none⟩) 1 1 cs rfl (fun _ => ⟨w1.heap.size, 0, rfl, hrg⟩) (by omega) hc1.out (by omega) (acc.length + 1) rfl ?_)))
  intro A' c' w2 o2 g2
  have S2 := Stays.own ow2 (by decide) g2
  have o3 : RRsOwn w2 w.heap.size (.slice A' (acc.length + 1) c') (acc ++ [r]) := RRsOwn.app (v := .slice none 0 0) hE hO' S2 o2
  have R3 : RdM w2 g m p' := blk_own R2 ow2 (by decide) g2
  have G3 : w.grownBy w2 (some g) := grown_trans G2 g2 (.inr (fun k hk => own_base ow2 k hk))
  clear R1 R2 G1 G2 ow ow2 hE hO' Bn hrg S2 g2 o2 kn hc1 hcl
  go_wp2_with fail
  go_roundw
  case rel => exact ⟨k + 1, acc ++ [r], p', by omega, by go_num, by simp [HAL.out], o3, R3, l1, G3, HO1⟩
  case measure => simp [intOf]; omega
 obtain rfl : k = n := by omega
 have hlt' : ¬ (k : Int) < k := by omega
 obtain rfl : O = .ok (acc, p) := by rw [← HO.out, Nat.sub_self]; exact many_zero
 clear hlt hk HO
 go_wp2_with fail
 go_ret
 exact ⟨_, rfl, ⟨oR, by have := HAL.out; omega⟩, R, G, lp⟩
theorem dec1_idle (p q : Addr) (w : World) :
  CallsD prog 214 #[.pointer (some p), .pointer (some q)] .returning w fun e u' w' => e = .returned (.tuple #[]) ∧ u' = .returning ∧ w' = w := by
 refine callsD_of_wpS func214 rfl fun c₀ cs hu => ?_
 apply wpS_seq
 apply wpS_region
 simp [wpOpsS, go_sem, recoverD, hu, ntmps214, Exit.thenS]
 refine wpS_rest0 hu ?_
 refine wp_tmps [.pointer (some p), .pointer (some q), .nilIface, undef, undef, .nilIface, undef, undef, undef, undef, undef, undef, undef, undef, undef, undef, undef, undef, undef] (by rfl) ?_
 clear hu
 go_wp2
 first | go_end0 | refine bodyPost_ret (results_none rfl _ _ _) rfl ?_
 first | exact ⟨rfl, rfl, rfl⟩ | exact ⟨rfl, rfl⟩ | rfl
theorem errInfo1 : (prog.info? 142).map (·.size) = some 1 := by kernel_rfl
theorem msgZ_one : ∀ v ∈ msgZ, v.oneCell' = true := msgC_one _ rfl rfl rfl rfl
set_option maxHeartbeats 1000000 in
theorem dec1_stop (b0 : Nat) (L : List Value) (hL : L.length = 14) (v1 : Value) (x : Int) (w : World) (h0 : Blk w b0 50 L) (h1 : Blk w (b0 + 1) 142 [v1]) :
  CallsD prog 214 #[.pointer (some ⟨b0, 0, none⟩), .pointer (some ⟨b0 + 1, 0, none⟩)] (.panicking (mstop x)) w fun e u' w' =>
   e = .returned (.tuple #[]) ∧ u' = .panicking [{ v := .iface 324 (.agg #[.int .i64 x]), recovered := true }] ∧ Blk w' b0 50 msgZ ∧ Blk w' (b0 + 1) 142 [.int .i64 x] ∧ Below b0 w w' := by
 have hTa : ∀ w : World, (Instr.typeAssert (.iface 324 (.agg #[.int .i64 x])) 20 324 true).run prog w = .ok (.tuple #[.agg #[.int .i64 x], .bool true]) w := fun _ => by kernel_rfl
 have l0 := h0.lt
 have l1 := h1.lt
 refine callsD_of_wpS func214 rfl fun c₀ cs hu => ?_
 unfold mstop at hu
 apply wpS_seq
 apply wpS_region
 simp [wpOpsS, go_sem, recoverD, hu, ntmps214, Exit.thenS]
 refine wpS_rest (u' := .panicking [{ v := .iface 324 (.agg #[.int .i64 x]), recovered := true }]) ?_
 refine wp_tmps [.pointer (some ⟨b0, 0, none⟩), .pointer (some ⟨b0 + 1, 0, none⟩), .iface 324 (.agg #[.int .i64 x]), undef, undef, .iface 324 (.agg #[.int .i64 x]), undef, undef, undef, undef, undef, undef, undef, undef, undef, undef, undef, undef, undef] (by rfl) ?_
 clear hu
 have kn : Below w.heap.size w (w.alloc (.cells #[.int .i64 x] 324)) := (Below.refl _ _).alloc (Nat.le_refl _) _
 have Bs := Blk.new w 324 [.int .i64 x]
 have C0 := h0.below kn l0
 have C1 := h1.below kn l1
 have kb : Below b0 w (w.alloc (.cells #[.int .i64 x] 324)) := kn.mono (by omega)
 obtain ⟨w1, hw1⟩ : ∃ w1, w1 = w.alloc (.cells #[.int .i64 x] 324) := ⟨_, rfl⟩
 have HW := Hh hw1
 rw [← hw1] at Bs C0 C1 kb
 clear hw1 kn h0 h1
 go_wp2_with fail
 rw [← HW.out]
 clear HW
 refine wp_region_held_drew (S := fun W => W.cell? ⟨w.heap.size, 0, none⟩ = some (.int .i64 x)) (by kernel_rfl) (Bs.cell_ 0 rfl) (fun hS => ?_)
 refine held_val 0 (some 16) (v := .agg msgZ.toArray) rfl rfl (by kernel_rfl) (by kernel_rfl) (by kernel_rfl) (fun _ _ _ h => h) (by kernel_rfl) (fun W hW => by kernel_rfl) hS ?_
 simp only [Act.put, lsA, lsB, lsC]
 (refine held_val 1 (some 17) rfl rfl (by kernel_rfl) (by kernel_rfl) (by kernel_rfl) (fun _ _ _ h => h) (by kernel_rfl) (fun W hW => rfl) hS ?_; simp only [Act.put, lsA, lsB, lsC])
 refine held_ld 2 (some 18) 142 (.tmp 17) ⟨w.heap.size, 0, none⟩ rfl rfl rfl rfl (by kernel_rfl) (by kernel_rfl) (by kernel_rfl) (fun _ _ _ h => h) (by kernel_rfl) (fun W hW => run_load1 underlying142 rfl hW) hS ?_
 simp only [Act.put, lsA, lsB, lsC]
 refine held_stB 3 none 50 (.tmp 0) (.tmp 16) (by kernel_rfl) rfl rfl rfl (by kernel_rfl) b0 0 rfl msgZ rfl C0.drew (by rw [hL]; decide) msgInfo msgZ_one ?_
 intro w2 B2 g2 _
 rw [whole_of (by rw [hL]; rfl)] at B2
 have D1 := (C1.drew).grown g2 (by simp)
 have S2 := (Bs.drew).grown g2 (by simp; omega)
 have k2 : Below b0 w w2 := below_grown (w := w1.drew) kb.drew g2 (by have := kb.size; simp; omega) (Nat.le_refl _)
 refine ⟨S2.cell_ 0 rfl, ?_⟩
 simp only [Act.put, lsA, lsB, lsC]
 refine ord_one 4 (by kernel_rfl) ?_
 refine opw_stC 4 142 (.tmp 1) (.tmp 18) rfl rfl rfl (by kernel_rfl) (b0 + 1) 0 rfl (.int .i64 x) rfl D1 (by simp) errInfo1 rfl rfl ?_
 intro w3 B3 g3 _
 have E0 := B2.grown g3 (by simp)
 have S3 := S2.grown g3 (by simp; omega)
 have k3 : Below b0 w w3 := below_grown k2 g3 (by have := k2.size; omega) (by omega)
 refine ⟨S3.cell_ 0 rfl, ?_⟩
 simp only [Act.put, lsA, lsB, lsC]
 refine wpAnyH_done (by kernel_rfl) ?_ _
 go_wp2_with fail
 go_end0
 first | exact ⟨rfl, rfl, E0, B3, k3⟩ | exact ⟨rfl, E0, B3, k3⟩
theorem opw_panic {P : Program} {ops : Array Oper} {Q : Exit → Act → World → Prop} {K : Act → World → Prop} {o : Oper} {a : Act} {w : World} (i : Nat) (f : FuncId) (vs : Array Value) (hi : ops[i]? = some o) (hw : Region.wanted o (yielded ops a.tmps) = true) (he : (execOp a.eval o).run P w = .ok (.enter f vs) w)
  {R : Ending → World → Prop} (hc : Calls P f vs w R) (h : ∀ e w', R e w' → ∃ ch, e = .panicked ch ∧ Q (.panic ch) a w') : wpOp P ops Q i K a w := by
 unfold wpOp
 simp only [hi, hw, if_true]
 left
 unfold Oper.wp
 rw [he]
 simp only [Oper.upon]
 refine hc.mono fun e w' hR => ?_
 obtain ⟨ch, rfl, h'⟩ := h e w' hR
 exact h'
def DecRet (o : Except Int Msg) (w : World) (e : Ending) (w' : World) : Prop :=
 match o with
 | .error x => x ≠ 0 ∧ e = .returned (.tuple #[.agg msgZ.toArray, .int .i64 x]) ∧ Below w.heap.size w w'
 | .ok m => ∃ cs, e = .returned (.tuple #[.agg cs.toArray, .int .i64 0]) ∧ MsgOwn w' cs m ∧ Below w.heap.size w w'
theorem leaves_dec {tmps : Array Value} {R : Ending → World → Prop} {w : World} {b0 : Nat} {L : List Value} {x : Int} (h2 : tmps.getD 2 undef = .pointer (some ⟨b0, 0, none⟩)) (h3 : tmps.getD 3 undef = .pointer (some ⟨b0 + 1, 0, none⟩)) (hb : Blk w b0 50 L) (hl : L.length = 14) (he : Blk w (b0 + 1) 142 [.int .i64 x]) (hR : R (.returned (.tuple #[.agg L.toArray, .int .i64 x])) w) :
  Leaves prog f179 tmps R [] .returning w := by
 have e1 := run_loadVar_row (P := prog) w b0 50 50 L.toArray (0, 0) _ hb underlying50 rfl (by rw [List.size_toArray, hl]; exact msgInfo)
 have c1 := he.cell_ 0 rfl
 have h2' : tmps[2]?.getD undef = .pointer (some ⟨b0, 0, none⟩) := by simpa using h2
 have h3' : tmps[3]?.getD undef = .pointer (some ⟨b0 + 1, 0, none⟩) := by simpa using h3
 have e2 : (loadVar 142 ⟨b0 + 1, 0, none⟩).run prog w = .ok (.int .i64 x) w := by
  simp [loadVar, isAgg, run_underlying underlying142, c1, go_sem]
 refine ⟨_, ?_, hR⟩
 simp [results, Tryz.results179, asAddr, h2', h3', e1, e2]
theorem mdecode_long (m : List UInt8) (w : World) (hm : 65535 < m.length) (hl : m.length ≤ maxLen) : Calls prog 179 #[.string (bs m)] w (DecRet (.error 3) w) := by
 have hm' : (65535 : Int) < m.length := by omega
 have hmf : ∀ (fn : Fn) (first cap : Array Value) (w : World), (Instr.makeFunc fn first cap).run prog w = .ok (.func fn first cap) w := fun _ _ _ _ => rfl
 clear hm
 go_enter_defers func179, ntmps179
 go_wp2_with fail
 simp [bodyPostD, Leaves, results, Tryz.results179, go_sem]
 exact ⟨by decide, rfl, ((Below.refl _ _).alloc (Nat.le_refl _) _).alloc (by simp) _⟩
theorem mdecode_short (m : List UInt8) (w : World) (hm : m.length < 12) : Calls prog 179 #[.string (bs m)] w (DecRet (.error 1) w) := by
 have hm' : ¬ (65535 : Int) < m.length := by omega
 have hmf : ∀ (fn : Fn) (first cap : Array Value) (w : World), (Instr.makeFunc fn first cap).run prog w = .ok (.func fn first cap) w := fun _ _ _ _ => rfl
 have H := Hh (fun w => headGet_short m w hm)
 unfold Hd.agg Hd.zero cnts at H
 clear hm
 go_enter_defers func179, ntmps179
 go_wp2_with fail
 refine (H.out _).mono ?_
 rintro _ w1 ⟨rfl, b1⟩
 have b0 : ∀ o1 o2, Below w.heap.size w ((w.alloc o1).alloc o2) := fun o1 o2 => ((Below.refl _ _).alloc (Nat.le_refl _) _).alloc (by simp) _
 have HB := below_then (b0 _ _) (by simp; omega) b1
 have BM' : Blk w1 w.heap.size 50 msgZ := ((Blk.new w 50 msgZ).alloc _).below b1 (by simp; omega)
 have BE' : Blk w1 (w.heap.size + 1) 142 [.int .i64 0] := (Blk.new' (w.alloc (.cells msgZ.toArray 50)) 142 [.int .i64 0] _ (by simp)).below b1 (by simp)
 have kk : ∀ o1 o2, Below w1.heap.size w1 ((w1.alloc o1).alloc o2) := fun o1 o2 => ((Below.refl _ _).alloc (Nat.le_refl _) _).alloc (by simp) _
 have hsz : w.heap.size + 2 ≤ w1.heap.size := by have := BE'.lt; omega
 clear b1 b0 H
 go_wp2_with (refine at_op (.store 50 (.tmp 2) (.tmp 20)) rfl ?_; go_must (refine wpList_stB rfl _ _ _ rfl w.heap.size 0 rfl msgZ rfl (BM'.below (kk _ _) BM'.lt) (by decide) msgInfo msgZ_one ?_))
 intro w2 B2 g2 _
 have E2 := (BE'.below (kk _ _) BE'.lt).grown g2 (by simp)
 have b2 := below_grown (below_then HB HB.size (kk _ _)) g2 (by simp; omega) (Nat.le_refl _)
 clear BM' BE' kk g2 HB
 go_wp2_with (refine at_op (.store 142 (.tmp 3) (.tmp 21)) rfl ?_; go_must (refine wpList_stC rfl 142 (.tmp 3) (.tmp 21) rfl (w.heap.size + 1) 0 rfl (.int .i64 1) rfl E2 (by simp) errInfo1 rfl rfl ?_))
 intro w3 E3 g3 _
 have B3 := B2.grown g3 (by simp)
 have b3 := below_grown b2 g3 b2.size (by omega)
 clear B2 E2 b2 g3
 go_wp2_with fail
 refine leaves_dec rfl rfl B3 rfl E3 ?_
 exact ⟨by decide, rfl, b3⟩
theorem qInfo3 : (prog.info? 28).map (fun i => (i.zero, i.size, i.bytes)) = some (some (.agg qZ.toArray), 3, 40) := by kernel_rfl
theorem run_bsQ (w : World) (cs : List Value) (hl : cs.length = 3) : (Instr.buildSlice 47 1 #[(0, .agg cs.toArray)]).run prog w = .ok (.slice (some ⟨w.heap.size, 0, none⟩) 1 1) (w.alloc (.cells cs.toArray 28)) := by
 obtain ⟨i, hi, hz, hsize, hby⟩ := info_parts qInfo3
 refine run_buildSlice w 47 28 1 _ cs.toArray i _ underlying47 hi hz (by rw [hsize]; decide) (by rw [hsize]; decide) ?_
 rw [hsize]
 have := fill_one 3 ((Array.range (1 * 3)).map ((Value.agg qZ.toArray).cells[· % (Value.agg qZ.toArray).cells.size]!)).toList cs hl (by simp)
 rw [Array.toArray_toList] at this
 exact this
theorem run_appQ (w : World) (ty : TypeId) (B : Nat) (v : Value) (n : Nat) (xs : List Value) (hown : w.ownsRow B 28 3 v n xs) (hB : B ≤ w.heap.size) (b c : Nat) (news : List Value) (hr : w.rangeAt b 0 news) (hl : news.length = 3) (h1 : ∀ u ∈ news, u.oneCell' = true) (hb : n ≤ 300000) :
  ∃ v' w', (Builtin.append_ #[47, 47] ty #[v, .slice (some ⟨b, 0, none⟩) 1 c]).run prog w = .ok v' w' ∧ w'.ownsRow B 28 3 v' (n + 1) (xs ++ news) ∧ w.grownBy w' v.ownBlock := by
 obtain ⟨i, hi, hz, hsize, hby⟩ := info_parts qInfo3
 obtain ⟨v', w', hr, h2, h3, _, h5⟩ := run_append_own_at (P := prog) w B 47 ty 28 i _ 3 40 underlying47 hi hz hsize hby rfl (by omega) v n xs hown ⟨b, 0, none⟩ 1 c news (by omega) (fun j u hu => by
  have hadd : (⟨b, 0, none⟩ : Addr).add j = ⟨b, 0 + j, none⟩ := by unfold Addr.add; split <;> simp_all
  rw [hadd]; exact hr j u hu) h1 (by simp only [maxLen]; omega) (by omega) hB
 exact ⟨v', w', hr, h2, h3⟩
theorem exec_appQ {w w' : World} {v v' x : Value} {ty : TypeId} {o : Oper} {a : Act} (sl y : Operand) (ho : o.op = .call { callee := .builtin .append, args := #[sl, y], argTypes := #[47, 47] }) (hty : o.type = ty) (hs : a.eval sl = v) (hy : a.eval y = x)
  (hr : (Builtin.append_ #[47, 47] ty #[v, x]).run prog w = .ok v' w') : (execOp a.eval o).run prog w = .ok (.value v') w' := by
 subst hty
 unfold execOp
 simp only [ho, resolve, invoke, builtin, Sem.run_bind, Sem.run_pure, Result.andThen_ok, List.map_toArray, List.map_cons, List.map_nil, hs, hy, hr]
theorem exec_bsQ {w w' : World} {v v' : Value} {o : Oper} {a : Act} (x : Operand) (ho : o.op = .buildSlice 47 1 #[(0, x)]) (hx : a.eval x = v) (hr : (Instr.buildSlice 47 1 #[(0, v)]).run prog w = .ok v' w') : (execOp a.eval o).run prog w = .ok (.value v') w' := by
 unfold execOp
 simp only [ho, Sem.run_bind, Sem.run_pure, Result.andThen_ok, List.map_toArray, List.map_cons, List.map_nil, hx, hr]
theorem QsOwn.app {w1 w2 : World} {B : Nat} {v' : Value} {l : List Qn} {cs : List Value} {r : Qn} {css : List (List Value)} (h : Each (Qown w1) css l) (hr : Qown w1 cs r) (hs : Stays w1 w2) (ho : w2.ownsRow B 28 3 v' (l.length + 1) (css.flatten ++ cs)) : QsOwn w2 B v' (l ++ [r]) := by
 refine ⟨css ++ [cs], ?_, (h.app1 hr).mono (fun _ _ x => x.stays hs)⟩
 simpa using ho
end Go.Proofs.YthnbcmlnpdabhaaGreat

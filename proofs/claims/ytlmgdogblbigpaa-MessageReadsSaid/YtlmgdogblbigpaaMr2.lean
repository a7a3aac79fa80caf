/-
  Layer 14 (message): the reader: question, record.
-/
import Derived.Test.YtlmgdogblbigpaaMr1
import Derived.Test.YtlmgdogblbigpaaGd5
namespace Go.Proofs.Ytlmgdogblbigpaa
open Go.RowKit
set_option maxRecDepth 100000
set_option linter.unusedVariables false
set_option linter.unusedSimpArgs false

def QV (w : World) (v : Value) (q : Qn) : Prop := ∃ cs, v = .agg cs.toArray ∧ Qown w cs q
def RV (w : World) (v : Value) (r : RR) : Prop := ∃ cs, v = .agg cs.toArray ∧ RRown w cs r
theorem rd_bad {α : Type} {V : World → Value → α → Prop} {g : Nat} {m : List UInt8} {w : World} {o : Except Int (α × Nat)} {x : Int} {e : Ending} {w' : World} (ho : o = .error x) (h : RdRet V g m w o e w') : e = .panicked (mstop x) ∧ w.grownBy w' (some g) := by subst ho; exact h
theorem rd_ok {α : Type} {V : World → Value → α → Prop} {g : Nat} {m : List UInt8} {w : World} {o : Except Int (α × Nat)} {x : α} {p : Nat} {e : Ending} {w' : World} (ho : o = .ok (x, p)) (h : RdRet V g m w o e w') : ∃ v, e = .returned v ∧ V w' v x ∧ RdM w' g m p ∧ w.grownBy w' (some g) ∧ p ≤ m.length := by subst ho; exact h
def qZ : List Value := [.slice none 0 0, .int .i64 0, .int .i64 0]
set_option maxHeartbeats 1000000 in
theorem mquestion_any (g : Nat) (m : List UInt8) (a : Nat) (w : World) (h : RdM w g m a) (hl : m.length ≤ 65535) (ha : a ≤ m.length) :
    Calls Try.prog 99 #[.pointer (some ⟨g, 0, none⟩)] w (RdRet QV g m w (questAt m a)) := by
  have hgl : g < w.heap.size := Blk.lt h
  have kb : Below w.heap.size w (w.alloc (.cells #[.slice none 0 0, .int .i64 0, .int .i64 0] 61)) := (Below.refl _ _).alloc (Nat.le_refl _) _
  have R0 : RdM (w.alloc (.cells #[.slice none 0 0, .int .i64 0, .int .i64 0] 61)) g m a := Blk.below h kb hgl
  have B0 := Blk.new w 61 qZ
  have G0 := grown_of_below kb (some g)
  have N1 := Lib.hid (mname_any g m a _ R0 hl ha)
  unfold questAt
  cases h1 : nameAt m a with
  | error x =>
    simp only
    go_enter Try.func99, Try.ntmps99
    go_wp2_with fail
    refine N1.out.mono ?_
    intro e w1 hr
    obtain ⟨rfl, g1⟩ := rd_bad h1 hr
    go_wp2_with fail
    exact ⟨rfl, rfl, grown_trans G0 g1 (.inl rfl)⟩
  | ok y =>
  obtain ⟨nm, p1⟩ := y
  simp only
  cases h2 : numAt m 2 p1 with
  | error x =>
    simp only
    go_enter Try.func99, Try.ntmps99
    go_wp2_with fail
    refine N1.out.mono ?_
    intro e w1 hr
    obtain ⟨v, rfl, nv, R1, g1, l1⟩ := rd_ok h1 hr
    have N2 := Lib.hid (mnum_any g m p1 2 w1 R1 hl l1 (.inl rfl))
    go_wp2_with fail
    refine N2.out.mono ?_
    intro e w2 hr
    obtain ⟨rfl, g2⟩ := rd_bad h2 hr
    go_wp2_with fail
    exact ⟨rfl, rfl, grown_trans (grown_trans G0 g1 (.inl rfl)) g2 (.inl rfl)⟩
  | ok y =>
  obtain ⟨ty, p2⟩ := y
  simp only
  cases h3 : numAt m 2 p2 with
  | error x =>
    simp only
    go_enter Try.func99, Try.ntmps99
    go_wp2_with fail
    refine N1.out.mono ?_
    intro e w1 hr
    obtain ⟨v, rfl, nv, R1, g1, l1⟩ := rd_ok h1 hr
    have N2 := Lib.hid (mnum_any g m p1 2 w1 R1 hl l1 (.inl rfl))
    go_wp2_with fail
    refine N2.out.mono ?_
    intro e w2 hr
    obtain ⟨v2, rfl, rfl, R2, g2, l2⟩ := rd_ok h2 hr
    have N3 := Lib.hid (mnum_any g m p2 2 w2 R2 hl l2 (.inl rfl))
    go_wp2_with fail
    refine N3.out.mono ?_
    intro e w3 hr
    obtain ⟨rfl, g3⟩ := rd_bad h3 hr
    go_wp2_with fail
    exact ⟨rfl, rfl, grown_trans (grown_trans (grown_trans G0 g1 (.inl rfl)) g2 (.inl rfl)) g3 (.inl rfl)⟩
  | ok y =>
  obtain ⟨cl, p3⟩ := y
  simp only
  go_enter Try.func99, Try.ntmps99
  go_wp2_with fail
  refine N1.out.mono ?_
  intro e w1 hr
  obtain ⟨v, rfl, nv, R1, g1, l1⟩ := rd_ok h1 hr
  have N2 := Lib.hid (mnum_any g m p1 2 w1 R1 hl l1 (.inl rfl))
  have B1 := B0.grown g1 (by simp; omega)
  clear hr
  go_wp2_with fail
  refine N2.out.mono ?_
  intro e w2 hr
  obtain ⟨v2, rfl, rfl, R2, g2, l2⟩ := rd_ok h2 hr
  have N3 := Lib.hid (mnum_any g m p2 2 w2 R2 hl l2 (.inl rfl))
  have B2 := B1.grown g2 (by simp; omega)
  replace nv := nv.stays (Stays.blk g2 R1 (by decide))
  clear hr
  go_wp2_with fail
  refine N3.out.mono ?_
  intro e w3 hr
  obtain ⟨v3, rfl, rfl, R3, g3, l3⟩ := rd_ok h3 hr
  have B3 := B2.grown g3 (by simp; omega)
  replace nv := nv.stays (Stays.blk g3 R2 (by decide))
  have gg := grown_trans (grown_trans (grown_trans G0 g1 (.inl rfl)) g2 (.inl rfl)) g3 (.inl rfl)
  obtain ⟨A, c, hv, -⟩ := nv.form
  subst hv
  clear hr N1 N2 N3 B0 B1 B2 R0 R1 R2 g1 g2 g3 G0 kb h h1 h2 h3
  go_wp2_with (refine at_op (.store 61 (.tmp 2) (.tmp 13)) rfl ?_; go_must (refine wpList_stB rfl 61 (.tmp 2) (.tmp 13) rfl w.heap.size 0 rfl [.slice A nm.length c, .int .i64 (ty : Int), .int .i64 (cl : Int)] rfl B3 (by simp [qZ]) qInfo (by simp [Value.oneCell']) ?_))
  intro w4 B4 g4 _
  have R4 := Blk.grown R3 g4 (by simp; omega)
  replace nv := nv.stays (Stays.blk g4 B3 (by decide))
  have gg4 : w.grownBy w4 (some g) := grown_trans gg g4 (.inr (fun k hk => by injection hk with hk; omega))
  go_wp2_with fail
  refine ret_cell rfl w.heap.size rfl B4 _ Try.underlying61 rfl qInfo rfl ?_
  exact ⟨_, rfl, ⟨_, rfl, .slice A nm.length c, rfl, nv⟩, R4, gg4, l3⟩
theorem rd_cases {α : Type} {V : World → Value → α → Prop} {g : Nat} {m : List UInt8} {w : World} {o : Except Int (α × Nat)} {e : Ending} {w' : World} (h : RdRet V g m w o e w') :
    (∃ x, o = .error x ∧ e = .panicked (mstop x) ∧ w.grownBy w' (some g)) ∨ (∃ x p v, o = .ok (x, p) ∧ e = .returned v ∧ V w' v x ∧ RdM w' g m p ∧ w.grownBy w' (some g) ∧ p ≤ m.length) := by
  cases o with
  | error x => exact .inl ⟨x, rfl, h⟩
  | ok y => obtain ⟨x, p⟩ := y; obtain ⟨v, h⟩ := h; exact .inr ⟨x, p, v, rfl, h⟩
theorem grown_next {a b c : World} {g : Nat} (h : a.grownBy b (some g)) (k : b.grownBy c (some g)) : a.grownBy c (some g) := grown_trans h k (.inl rfl)
theorem numAt_lt {m : List UInt8} {k p n q : Nat} (h : numAt m k p = .ok (n, q)) (hk : k ≤ 4) : n < 4294967296 := by
  unfold numAt at h
  split at h
  · cases h
  · injection h with h; injection h with h1 h2
    rw [← h1]; exact numB_le4 _ (by simp; omega)
theorem numAt_lt2 {m : List UInt8} {p n q : Nat} (h : numAt m 2 p = .ok (n, q)) : n < 65536 := by
  unfold numAt at h
  split at h
  · cases h
  · injection h with h; injection h with h1 h2
    rw [← h1]; exact numB_le _ 2 (by simp; omega)
theorem rec_cells (vn : Value) (ty cl ttl : Int) (nm : List (List UInt8)) {vn' vt vm : Value} (r : RR) : (((((rrC vn' vt vm r).set 0 vn).set 1 (.int .i64 ty)).set 2 (.int .i64 cl)).set 3 (.int .i64 ttl)) = rrC vn vt vm { r with name := nm, ty := ty, cl := cl, ttl := ttl } := rfl
set_option maxHeartbeats 4000000 in
theorem mrecord_any (g : Nat) (m : List UInt8) (a : Nat) (w : World) (h : RdM w g m a) (hl : m.length ≤ 65535) (ha : a ≤ m.length) :
    Calls Try.prog 128 #[.pointer (some ⟨g, 0, none⟩)] w (RdRet RV g m w (recAt m a)) := by
  have hgl : g < w.heap.size := Blk.lt h
  have kb : Below w.heap.size w (w.alloc (.cells rrZ.toArray 86)) := (Below.refl _ _).alloc (Nat.le_refl _) _
  have R0 : RdM (w.alloc (.cells rrZ.toArray 86)) g m a := Blk.below h kb hgl
  have B0 := Blk.new w 86 rrZ
  have G0 := grown_of_below kb (some g)
  obtain ⟨w0, hw0⟩ : ∃ w0, w.alloc (.cells rrZ.toArray 86) = w0 := ⟨_, rfl⟩
  rw [hw0] at R0 B0 G0
  have HW : Hid (w.alloc (.cells #[.slice none 0 0, .int .i64 0, .int .i64 0, .int .i64 0, .int .i64 0, .int .u8 0, .int .u8 0, .int .u8 0, .int .u8 0, .int .u8 0, .int .u8 0, .int .u8 0, .int .u8 0, .int .u8 0, .int .u8 0, .int .u8 0, .int .u8 0, .int .u8 0, .int .u8 0, .int .u8 0, .int .u8 0, .int .i64 0, .slice none 0 0, .slice none 0 0, .int .i64 0, .int .i64 0, .int .i64 0, .int .i64 0, .int .i64 0, .int .i64 0, .int .i64 0, .int .i64 0, .string ⟨#[]⟩] 86) = w0) := Lib.hid (by rw [← hw0, rrZ_lit])
  have N1 := Lib.hid (mname_any g m a _ R0 hl ha)
  clear hw0 kb h
  go_enter Try.func128, Try.ntmps128
  go_wp2_with fail
  rw [HW.out]
  refine N1.out.mono ?_
  intro e w1 hr
  rcases rd_cases hr with ⟨x, h1, rfl, g1⟩ | ⟨nm, p1, v, h1, rfl, nv, R1, g1, l1⟩
  · go_wp2_with fail
    exact ⟨rfl, by rw [show recAt m a = .error x by simp only [recAt, h1]]; exact ⟨rfl, grown_next G0 g1⟩⟩
  have G1 := grown_next G0 g1
  have B1 := B0.grown g1 (by simp; omega)
  have N2 := Lib.hid (mnum_any g m p1 2 w1 R1 hl l1 (.inl rfl))
  clear hr N1 HW G0 B0 g1
  go_wp2_with fail
  refine N2.out.mono ?_
  intro e w2 hr
  rcases rd_cases hr with ⟨x, h2, rfl, g2⟩ | ⟨ty, p2, v2, h2, rfl, rfl, R2, g2, l2⟩
  · go_wp2_with fail
    exact ⟨rfl, by rw [show recAt m a = .error x by simp only [recAt, h1, h2]]; exact ⟨rfl, grown_next G1 g2⟩⟩
  have G2 := grown_next G1 g2
  have B2 := B1.grown g2 (by simp; omega)
  replace nv := nv.stays (Stays.blk g2 R1 (by decide))
  have N3 := Lib.hid (mnum_any g m p2 2 w2 R2 hl l2 (.inl rfl))
  clear hr N2 G1 B1 g2 R1
  go_wp2_with fail
  refine N3.out.mono ?_
  intro e w3 hr
  rcases rd_cases hr with ⟨x, h3, rfl, g3⟩ | ⟨cl, p3, v3, h3, rfl, rfl, R3, g3, l3⟩
  · go_wp2_with fail
    exact ⟨rfl, by rw [show recAt m a = .error x by simp only [recAt, h1, h2, h3]]; exact ⟨rfl, grown_next G2 g3⟩⟩
  have G3 := grown_next G2 g3
  have B3 := B2.grown g3 (by simp; omega)
  replace nv := nv.stays (Stays.blk g3 R2 (by decide))
  have N4 := Lib.hid (mnum_any g m p3 4 w3 R3 hl l3 (.inr rfl))
  clear hr N3 G2 B2 g3 R2
  go_wp2_with fail
  refine N4.out.mono ?_
  intro e w4 hr
  rcases rd_cases hr with ⟨x, h4, rfl, g4⟩ | ⟨ttl, p4, v4, h4, rfl, rfl, R4, g4, l4⟩
  · go_wp2_with fail
    exact ⟨rfl, by rw [show recAt m a = .error x by simp only [recAt, h1, h2, h3, h4]]; exact ⟨rfl, grown_next G3 g4⟩⟩
  have G4 := grown_next G3 g4
  have B4 := B3.grown g4 (by simp; omega)
  replace nv := nv.stays (Stays.blk g4 R3 (by decide))
  have N5 := Lib.hid (mnum_any g m p4 2 w4 R4 hl l4 (.inl rfl))
  clear hr N4 G3 B3 g4 R3
  go_wp2_with fail
  refine N5.out.mono ?_
  intro e w5 hr
  rcases rd_cases hr with ⟨x, h5, rfl, g5⟩ | ⟨sz, p5, v5, h5, rfl, rfl, R5, g5, l5⟩
  · go_wp2_with fail
    exact ⟨rfl, by rw [show recAt m a = .error x by simp only [recAt, h1, h2, h3, h4, h5]]; exact ⟨rfl, grown_next G4 g5⟩⟩
  have G5 := grown_next G4 g5
  have B5 := B4.grown g5 (by simp; omega)
  replace nv := nv.stays (Stays.blk g5 R4 (by decide))
  have hsz := numAt_lt2 h5
  have c1 := Blk.cell_ R5 1 rfl
  clear hr N5 G4 B4 g5 R4
  by_cases hs : m.length < p5 + sz
  case pos =>
    have T := Lib.hid (mtake_no g m p5 sz w5 R5 hl l5 hs (by omega))
    go_wp2_with fail
    refine T.out.mono ?_
    rintro _ w6 ⟨rfl, g6⟩
    go_wp2_with fail
    exact ⟨rfl, by rw [show recAt m a = .error 1 by simp only [recAt, h1, h2, h3, h4, h5, if_pos hs]]; exact ⟨rfl, grown_next G5 g6⟩⟩
  have T := Lib.hid (mtake_yes g m p5 sz w5 R5 hl (by omega))
  go_wp2_with fail
  refine T.out.mono ?_
  rintro _ w6 ⟨rfl, R6, g6⟩
  have G6 := grown_next G5 g6
  have B6 := B5.grown g6 (by simp; omega)
  replace nv := nv.stays (Stays.blk g6 R5 (by decide))
  have c0 := Blk.cell_ R6 0 rfl
  have GT := Lib.hid (rget_any m p5 sz ty cl w6 (by omega) (by omega))
  clear T G5 B5 g6 R5 c1
  cases hgr : getR m p5 sz ty cl with
  | error x =>
    rw [hgr] at GT
    go_wp2_with fail
    refine GT.out.mono ?_
    rintro _ w7 ⟨hx, rfl, b7⟩
    have G7 : w.grownBy w7 (some g) := grown_below G6 b7
    have hz7 := G7.size
    clear GT B6 R6 c0 G6
    go_wp2_with (refine at_op (.store 86 (.tmp 9) (.tmp 38)) rfl ?_; go_must (refine wpList_stB rfl 86 (.tmp 9) (.tmp 38) rfl w7.heap.size 0 rfl rrZ rfl (Blk.new' _ _ rrZ _ rfl) (by rw [rrZ_len]; omega) (by rw [rrZ_len]; exact rrInfo) rrZ_one ?_))
    intro w8 B8 g8 _
    have G8 : w.grownBy w8 (some g) := grown_trans (grown_alloc G7 _) g8 (.inr (fun k hk => by injection hk with hk; omega))
    clear B8 g8
    go_wp2_with fail
    refine (mchk_bad x hx _).mono ?_
    rintro _ w9 ⟨rfl, rfl⟩
    go_wp2_with fail
    exact ⟨rfl, by rw [show recAt m a = .error x by simp only [recAt, h1, h2, h3, h4, h5, if_neg hs, hgr]]; exact ⟨rfl, G8⟩⟩
  | ok r0 =>
    rw [hgr] at GT
    go_wp2_with fail
    refine GT.out.mono ?_
    rintro _ w7 ⟨cs, rfl, hO, b7⟩
    have G7 : w.grownBy w7 (some g) := grown_below G6 b7
    have hz7 := G7.size
    have hcl := hO.len
    have hc1 := Lib.hid hO.one
    have kn : Below w7.heap.size w7 (w7.alloc (.cells rrZ.toArray 86)) := (Below.refl _ _).alloc (Nat.le_refl _) _
    have R7 := (Blk.below (Blk.below R6 b7 (Blk.lt R6)) kn (by have := Blk.lt R6; have := b7.size; omega))
    have T7 := (B6.below b7 B6.lt).below kn (by have := B6.lt; have := b7.size; omega)
    replace nv := (nv.stays (Stays.below b7)).stays (Stays.below kn)
    replace hO := hO.stays (Stays.below kn)
    have Bn := Blk.new w7 86 rrZ
    have hT2 := B6.lt
    have hb7 := b7.size
    clear GT B6 R6 c0 G6 b7 kn
    go_wp2_with (refine at_op (.store 86 (.tmp 9) (.tmp 38)) rfl ?_; go_must (refine wpList_stB rfl 86 (.tmp 9) (.tmp 38) rfl w7.heap.size 0 rfl cs rfl Bn (by rw [rrZ_len]; omega) (by rw [hcl]; exact rrInfo) hc1.out ?_))
    intro w8 B8 g8 _
    rw [List.drop_of_length_le (by rw [rrZ_len]; omega), List.append_nil] at B8
    have R8 := Blk.grown R7 g8 (by simp; omega)
    have T8 := T7.grown g8 (by simp; omega)
    have G8 : w.grownBy w8 (some g) := grown_trans (grown_alloc G7 _) g8 (.inr (fun k hk => by injection hk with hk; omega))
    replace nv := nv.stays (Stays.blk g8 Bn (by decide))
    replace hO := hO.stays (Stays.blk g8 Bn (by decide))
    have hg9 : g < w7.heap.size := by omega
    have hw9 : w.heap.size < w7.heap.size := by omega
    clear R7 T7 G7 g8 Bn hc1 hT2 hb7 hz7
    generalize w7.heap.size = g9 at *
    go_wp2_with fail
    refine (mchk_ok _).mono ?_
    rintro _ w9 ⟨rfl, rfl⟩
    obtain ⟨vn, vt, vm, hcs, hwf, n1, n2, n3, hraw⟩ := hO
    have HCS := Lib.hid hcs
    clear hcs n1
    obtain ⟨A, c, hv, -⟩ := nv.form
    subst hv
    go_wp2_with (refine at_op (.store 24 (.tmp 46) (.tmp 42)) rfl ?_; go_must (refine wpList_stC rfl 24 (.tmp 46) (.tmp 42) rfl g9 0 rfl (.slice A nm.length c) rfl B8 (by omega) nameInfo1 rfl rfl ?_))
    intro w9 B9 g9_ _
    obtain ⟨M9, hM9⟩ : ∃ M, M = cs.set 0 (.slice A nm.length c) := ⟨_, rfl⟩
    rw [← hM9] at B9
    have lM9 : M9.length = 33 := by rw [hM9, List.length_set]; exact hcl
    have HM9 := Lib.hid hM9
    clear hM9
    have R9 := Blk.grown R8 g9_ (by simp; omega)
    have T9 := T8.grown g9_ (by simp; omega)
    have G9 : w.grownBy w9 (some g) := grown_trans G8 g9_ (.inr (fun k hk => by injection hk with hk; omega))
    replace nv := nv.stays (Stays.blk g9_ B8 (by decide))
    replace n2 := n2.stays (Stays.blk g9_ B8 (by decide))
    replace n3 := n3.stays (Stays.blk g9_ B8 (by decide))
    clear R8 T8 G8 g9_ B8
    go_wp2_with (refine at_op (.store 3 (.tmp 47) (.tmp 43)) rfl ?_; go_must (refine wpList_stC rfl 3 (.tmp 47) (.tmp 43) rfl g9 1 rfl (.int .i64 (ty : Int)) rfl B9 (by omega) intInfo1 rfl rfl ?_))
    intro wx Bx gx _
    obtain ⟨Mx, hMx⟩ : ∃ M, M = M9.set 1 (.int .i64 (ty : Int)) := ⟨_, rfl⟩
    rw [← hMx] at Bx
    have lMx : Mx.length = 33 := by rw [hMx, List.length_set]; exact lM9
    have HMx := Lib.hid hMx
    clear hMx
    have Rx := Blk.grown R9 gx (by simp; omega)
    have Tx := T9.grown gx (by simp; omega)
    have Gx : w.grownBy wx (some g) := grown_trans G9 gx (.inr (fun k hk => by injection hk with hk; omega))
    replace nv := nv.stays (Stays.blk gx B9 (by decide))
    replace n2 := n2.stays (Stays.blk gx B9 (by decide))
    replace n3 := n3.stays (Stays.blk gx B9 (by decide))
    clear R9 T9 G9 gx B9
    go_wp2_with (refine at_op (.store 3 (.tmp 48) (.tmp 44)) rfl ?_; go_must (refine wpList_stC rfl 3 (.tmp 48) (.tmp 44) rfl g9 2 rfl (.int .i64 (cl : Int)) rfl Bx (by omega) intInfo1 rfl rfl ?_))
    intro wy By gy _
    obtain ⟨My, hMy⟩ : ∃ M, M = Mx.set 2 (.int .i64 (cl : Int)) := ⟨_, rfl⟩
    rw [← hMy] at By
    have lMy : My.length = 33 := by rw [hMy, List.length_set]; exact lMx
    have HMy := Lib.hid hMy
    clear hMy
    have Ry := Blk.grown Rx gy (by simp; omega)
    have Ty := Tx.grown gy (by simp; omega)
    have Gy : w.grownBy wy (some g) := grown_trans Gx gy (.inr (fun k hk => by injection hk with hk; omega))
    replace nv := nv.stays (Stays.blk gy Bx (by decide))
    replace n2 := n2.stays (Stays.blk gy Bx (by decide))
    replace n3 := n3.stays (Stays.blk gy Bx (by decide))
    clear Rx Tx Gx gy Bx
    go_wp2_with (refine at_op (.store 3 (.tmp 49) (.tmp 45)) rfl ?_; go_must (refine wpList_stC rfl 3 (.tmp 49) (.tmp 45) rfl g9 3 rfl (.int .i64 (ttl : Int)) rfl By (by omega) intInfo1 rfl rfl ?_))
    intro wz Bz gz _
    obtain ⟨Mz, hMz⟩ : ∃ M, M = My.set 3 (.int .i64 (ttl : Int)) := ⟨_, rfl⟩
    rw [← hMz] at Bz
    have lMz : Mz.length = 33 := by rw [hMz, List.length_set]; exact lMy
    have HMz := Lib.hid hMz
    clear hMz
    have Rz := Blk.grown Ry gz (by simp; omega)
    have Tz := Ty.grown gz (by simp; omega)
    have Gz : w.grownBy wz (some g) := grown_trans Gy gz (.inr (fun k hk => by injection hk with hk; omega))
    replace nv := nv.stays (Stays.blk gz By (by decide))
    replace n2 := n2.stays (Stays.blk gz By (by decide))
    replace n3 := n3.stays (Stays.blk gz By (by decide))
    clear Ry Ty Gy gz By
    have hMz : Mz = rrC (.slice A nm.length c) vt vm { r0 with name := nm, ty := ty, cl := cl, ttl := ttl } := by rw [HMz.out, HMy.out, HMx.out, HM9.out, HCS.out]; rfl
    have OW : RRown wz Mz { r0 with name := nm, ty := ty, cl := cl, ttl := ttl } := ⟨_, vt, vm, hMz, ⟨hwf.1, hwf.2⟩, nv, n2, n3, hraw⟩
    have RE : Hid (recAt m a = .ok ({ r0 with name := nm, ty := ty, cl := cl, ttl := ttl }, p5 + sz)) := Lib.hid (by simp only [recAt, h1, h2, h3, h4, h5, if_neg hs, hgr])
    generalize ({ r0 with name := nm, ty := ty, cl := cl, ttl := ttl } : RR) = r9 at *
    have o1 := Lib.hid OW.one
    clear HMz HMy HMx HM9 HCS hMz nv n2 n3 hwf hraw h1 h2 h3 h4 h5 hgr
    go_wp2_with (first
      | (refine at_op (.load 86 (.tmp 9)) rfl ?_; go_must (refine wpList_ldB rfl 86 (.tmp 9) rfl g9 0 rfl Bz 33 (by omega) _ Try.underlying86 rfl rrInfo Mz (by rw [List.drop_zero, List.take_of_length_le (by omega)]) ?_))
      | (refine at_op (.store 86 (.tmp 2) (.tmp 50)) rfl ?_; go_must (refine wpList_stB rfl 86 (.tmp 2) (.tmp 50) rfl w.heap.size 0 rfl Mz rfl Tz (by rw [rrZ_len]; omega) (by rw [lMz]; exact rrInfo) o1.out ?_)))
    intro wq Bq gq _
    rw [List.drop_of_length_le (by rw [rrZ_len]; omega), List.append_nil] at Bq
    have Rq := Blk.grown Rz gq (by simp; omega)
    have Gq : w.grownBy wq (some g) := grown_trans Gz gq (.inr (fun k hk => by injection hk with hk; omega))
    have Oq := OW.stays (Stays.blk gq Tz (by decide))
    clear Rz Gz Tz Bz gq OW
    go_wp2_with fail
    refine ret_cell rfl w.heap.size rfl Bq _ Try.underlying86 rfl (by rw [lMz]; exact rrInfo) rfl ?_
    rw [RE.out]
    exact ⟨_, rfl, ⟨Mz, rfl, Oq⟩, Rq, Gq, by omega⟩
end Go.Proofs.Ytlmgdogblbigpaa

/-
  Layer 14, the reference: section.
-/
import Derived.Test.YthnbcmlnpdabhaaGreatHMq
namespace Go.Proofs.YthnbcmlnpdabhaaGreat
open _root_.Go.Proofs.Tryz
open Go.RowKit
set_option maxRecDepth 100000
set_option linter.unusedVariables false
set_option linter.unusedSimpArgs false
def SecV (B n : Nat) (w : World) (v : Value) (l : List RR) : Prop := RRsOwn w B v l ∧ l.length ≤ n
structure SecS (m : List UInt8) (O : Except Int (List RR × Nat)) (acc : List RR) (c : Nat) (p y : Int) : Prop where
 ok : y = 0 → ∃ j : Nat, p = j ∧ j ≤ m.length ∧ behindL acc (manyAt (recAt m) c j) = O
 bad : y ≠ 0 → O = .error y
theorem RRsOwn.far {w w' : World} {B g : Nat} {v : Value} {l : List RR} (h : RRsOwn w B v l) (hg : w.grownBy w' (some g)) (hne : ∀ k, v.ownBlock = some k → k ≠ g) (hs : Stays w w') : RRsOwn w' B v l := h.stays (fun _ x => World.ownsRow.kept x hg (by
 cases hv : v.ownBlock with
 | none => exact .inl rfl
 | some k => exact .inr (fun e => by injection e with e; exact hne k hv e))) (fun _ _ x => x.stays hs)
theorem RRsOwn.blt {w : World} {B : Nat} {v : Value} {l : List RR} (h : RRsOwn w B v l) : ∀ k, v.ownBlock = some k → k < w.heap.size := by
 obtain ⟨css, ho, _⟩ := h
 exact fun k hk => (ho.lt k hk).2
set_option maxHeartbeats 8000000 in
theorem refsec (g : Nat) (m : List UInt8) (a y : Int) (n : Nat) (w : World) (h : RdX w g m a y) (hl : m.length ≤ 65535) (hn : n ≤ 65535) (O : Except Int (List RR × Nat)) (hO : SecS m O [] n a y) :
  Calls prog 123 #[.pointer (some ⟨g, 0, none⟩), .int .i64 n] w (RxRet (SecV w.heap.size n) g m w O) := by
 have hgl : g < w.heap.size := Blk.lt h
 have HO := Hh (show SecS m O [] (n - 0) a y from hO)
 clear hO
 go_enter func123, ntmps123
 go_wp2_with fail
 go_loopw [5, 6] (fun lv iv wr => ∃ (k : Nat) (acc : List RR) (p y' : Int), k ≤ n ∧ iv = .int .i64 k ∧ Hid (acc.length = k) ∧ RRsOwn wr w.heap.size lv acc ∧ RdX wr g m p y' ∧ w.grownBy wr (some g) ∧ Hid (SecS m O acc (n - k) p y')) (fun _ iv _ => n - (intOf iv).toNat)
 case atStart => exact ⟨0, [], a, y, Nat.zero_le _, rfl, Hh rfl, RRsOwn.nil _ _, h, World.grownBy.refl _ _, HO⟩
 clear HO h
 obtain ⟨k, acc, p, y', hk, rfl, HAL, oR, R, G, HO⟩ := hrel
 have hale : acc.length ≤ 65535 := by have := HAL.out; omega
 have halk : acc.length ≤ n := by have := HAL.out; omega
 have hsz := G.size
 obtain ⟨A, c, hv⟩ := oR.form
 subst hv
 have c2 := R.cell_ 2 rfl
 by_cases hlt : k < n
 case neg =>
  obtain rfl : k = n := by omega
  have hlt' : ¬ (k : Int) < k := by omega
  clear hlt
  go_wp2_with fail
  go_ret
  refine ⟨_, acc, p, y', rfl, ⟨oR, halk⟩, R, G, ?_⟩
  by_cases hy : y' = 0
  ·
   obtain ⟨j, h1, h2, h3⟩ := HO.out.ok hy
   rw [Nat.sub_self, many_zero] at h3
   subst h3
   exact ⟨rfl, h1, hy, h2⟩
  ·
   rw [HO.out.bad hy]
   exact ⟨rfl, hy⟩
 have hlt' : (k : Int) < n := by omega
 by_cases hy : y' = 0
 case neg =>
  have hy2 : (y' == 0) = false := by simpa using hy
  have hO := HO.out.bad hy
  have HY := Hh hy
  clear hy HO
  subst hO
  go_wp2_with fail
  go_ret
  exact ⟨_, acc, p, y', rfl, ⟨oR, halk⟩, R, G, rfl, HY.out⟩
 subst hy
 obtain ⟨j, rfl, hj, hb⟩ := HO.out.ok rfl
 have HB := Hh (show behindL acc (manyAt (recAt m) ((n - (k + 1)) + 1) j) = O by rw [show n - (k + 1) + 1 = n - k by omega]; exact hb)
 have NC := Hh (refname_any g m j wr R hl)
 clear hb HO
 go_wp2_with fail
 refine NC.out.mono ?_
 rintro _ w1 ⟨v1, nm, p1, y1, rfl, N1, R1, g1, S1⟩
 have o1 := oR.blk g1 R (by decide) (by decide)
 have G1 := grown_next G g1
 have a1 : y1 = 0 → ∃ k : Nat, p1 = k ∧ k ≤ m.length := fun h => by obtain ⟨q, _, h2, h3⟩ := S1.ok0 h; exact ⟨q, h2, h3⟩
 have A1 := Hh a1
 have T1 := Hh S1
 have C2 := Hh (refnum_all g m p1 y1 2 w1 R1 hl (.inl rfl) a1)
 clear NC oR R G g1 c2 a1 S1
 go_wp2_with fail
 refine C2.out.mono ?_
 rintro _ w2 ⟨_, ty, p2, y2, rfl, rfl, R2, g2, S2⟩
 have o2 := o1.blk g2 R1 (by decide) (by decide)
 have G2 := grown_next G1 g2
 have N2 := N1.stays (Stays.blk g2 R1 (by decide))
 have a2 := Next.pos S2 A1.out
 have T2 := Hh (show Next 0 (numAt m 2) m.length p1 y1 ty p2 y2 from S2)
 have C3 := Hh (refnum_all g m p2 y2 2 w2 R2 hl (.inl rfl) a2)
 have A2 := Hh a2
 clear C2 o1 R1 G1 g2 N1 a2 S2
 go_wp2_with fail
 refine C3.out.mono ?_
 rintro _ w3 ⟨_, cl, p3, y3, rfl, rfl, R3, g3, S3⟩
 have o3 := o2.blk g3 R2 (by decide) (by decide)
 have G3 := grown_next G2 g3
 have N3 := N2.stays (Stays.blk g3 R2 (by decide))
 have a3 := Next.pos S3 A2.out
 have T3 := Hh (show Next 0 (numAt m 2) m.length p2 y2 cl p3 y3 from S3)
 have C4 := Hh (refnum_all g m p3 y3 4 w3 R3 hl (.inr rfl) a3)
 have A3 := Hh a3
 clear C3 o2 R2 G2 g3 N2 a3 S3
 go_wp2_with fail
 refine C4.out.mono ?_
 rintro _ w4 ⟨_, ttl, p4, y4, rfl, rfl, R4, g4, S4⟩
 have o4 := o3.blk g4 R3 (by decide) (by decide)
 have G4 := grown_next G3 g4
 have N4 := N3.stays (Stays.blk g4 R3 (by decide))
 have a4 := Next.pos S4 A3.out
 have T4 := Hh (show Next 0 (numAt m 4) m.length p3 y3 ttl p4 y4 from S4)
 have C5 := Hh (refnum_all g m p4 y4 2 w4 R4 hl (.inl rfl) a4)
 clear C4 o3 R3 G3 g4 N3 a4 S4
 go_wp2_with fail
 refine C5.out.mono ?_
 rintro _ w5 ⟨_, sz, p5, y5, rfl, rfl, R5, g5, S5⟩
 have o5 := o4.blk g5 R4 (by decide) (by decide)
 have G5 := grown_next G4 g5
 have N5 := N4.stays (Stays.blk g5 R4 (by decide))
 have T5 := Hh (show Next 0 (numAt m 2) m.length p4 y4 sz p5 y5 from S5)
 clear C5 o4 R4 G4 g5 N4 S5
 have e0 := R5.cell_ 0 rfl
 have e1 := R5.cell_ 1 rfl
 have e2 := R5.cell_ 2 rfl
 rcases head5 T1.out T2.out T3.out T4.out T5.out with ⟨h5, hE⟩ | ⟨h5, q, hq, hql, hszl, hE⟩
 ·
  have hy2 : (y5 == 0) = false := by simpa using h5
  have hy3 : (y5 != 0) = true := by simpa using h5
  have HE := Hh (HB.out.symm.trans (many_fail hE))
  have HY := Hh h5
  clear T1 T2 T3 T4 T5 A1 A2 A3 h5 hE HB
  go_wp2_with fail
  go_quiet (fail)
  go_wp2_with fail
  go_ret
  rw [HE.out]
  exact ⟨nilS, [], p5, y5, rfl, ⟨RRsOwn.nil _ _, Nat.zero_le _⟩, R5.drewN _, grown_drewN G5 _, rfl, HY.out⟩
 subst h5 hq
 clear T1 T2 T3 T4 T5 A1 A2 A3
 have hsum : IntKind.i64.wrap ((q : Int) + sz) = q + sz := IntWalk.i64_in _ (by omega)
 by_cases hs : m.length < q + sz
 ·
  rw [if_pos hs] at hE
  have hs' : (m.length : Int) < (q : Int) + sz := by omega
  have HE := Hh (HB.out.symm.trans (many_fail hE))
  clear hs hE HB
  go_wp2_with fail
  go_quiet (fail)
  clear hsum
  go_wp2_with (refine at_op (.store 142 (.tmp 57) (.const (.int .i64 1))) rfl ?_; go_must (refine wpList_stC rfl 142 (.tmp 57) (.const (.int .i64 1)) rfl g 2 rfl (.int .i64 1) rfl (R5.drewN _) (by simp) errInfo1 rfl rfl ?_))
  intro w6 B6 g6 _
  have f2 := B6.cell_ 2 rfl
  have G6 := grown_next (grown_drewN G5 _) g6
  clear e0 e1 e2 R5 G5 g6
  go_wp2_with fail
  go_ret
  rw [HE.out]
  exact ⟨nilS, [], q, 1, rfl, ⟨RRsOwn.nil _ _, Nat.zero_le _⟩, B6, G6, rfl, by decide⟩
 rw [if_neg hs] at hE
 have hs' : ¬ (m.length : Int) < (q : Int) + sz := by omega
 have GC := Hh (fun w => r13_one m q sz (ty : Int) (cl : Int) w (by omega) (by omega))
 have hqs : q + sz ≤ m.length := by omega
 have HE := Hh hE
 clear hs hE
 go_wp2_with fail
 go_quiet (fail)
 clear hsum
 go_wp2_with fail
 refine wp_region_held_drew (S := fun W => RdX W g m (q : Int) 0) (by kernel_rfl) ((Blk.drewN R5 _).drew) (fun hS => ?_)
 (refine held_val 0 (some 64) rfl rfl (by kernel_rfl) (by kernel_rfl) (by kernel_rfl) (fun _ _ _ h => h) (by kernel_rfl) (fun W hW => rfl) hS ?_; simp only [Act.put, lsA, lsB, lsC])
 (refine held_val 1 (some 65) rfl rfl (by kernel_rfl) (by kernel_rfl) (by kernel_rfl) (fun _ _ _ h => h) (by kernel_rfl) (fun W hW => rfl) hS ?_; simp only [Act.put, lsA, lsB, lsC])
 (refine held_val 2 (some 66) rfl rfl (by kernel_rfl) (by kernel_rfl) (by kernel_rfl) (fun _ _ _ h => h) (by kernel_rfl) (fun W hW => rfl) hS ?_; simp only [Act.put, lsA, lsB, lsC])
 refine held_ld 3 (some 67) 9 (.tmp 66) ⟨g, 0, none⟩ rfl rfl rfl rfl (by kernel_rfl) (by kernel_rfl) (by kernel_rfl) (fun _ _ _ h => h) (by kernel_rfl) (fun W hW => run_load1 underlying9 rfl (Blk.cell_ hW 0 rfl)) hS ?_
 simp only [Act.put, lsA, lsB, lsC]
 (refine held_val 4 (some 68) rfl rfl (by kernel_rfl) (by kernel_rfl) (by kernel_rfl) (fun _ _ _ h => h) (by kernel_rfl) (fun W hW => rfl) hS ?_; simp only [Act.put, lsA, lsB, lsC])
 (refine held_val 5 (some 69) rfl rfl (by kernel_rfl) (by kernel_rfl) (by kernel_rfl) (fun _ _ _ h => h) (by kernel_rfl) (fun W hW => rfl) hS ?_; simp only [Act.put, lsA, lsB, lsC])
 (refine held_val 6 (some 70) rfl rfl (by kernel_rfl) (by kernel_rfl) (by kernel_rfl) (fun _ _ _ h => h) (by kernel_rfl) (fun W hW => rfl) hS ?_; simp only [Act.put, lsA, lsB, lsC])
 refine held_ld 7 (some 71) 3 (.tmp 70) ⟨g, 1, none⟩ rfl rfl rfl rfl (by kernel_rfl) (by kernel_rfl) (by kernel_rfl) (fun _ _ _ h => h) (by kernel_rfl) (fun W hW => run_load1 underlying3 rfl (Blk.cell_ hW 1 rfl)) hS ?_
 simp only [Act.put, lsA, lsB, lsC]
 (refine held_val 8 (some 72) rfl rfl (by kernel_rfl) (by kernel_rfl) (by kernel_rfl) (fun _ _ _ h => h) (by kernel_rfl) (fun W hW => rfl) hS ?_; simp only [Act.put, lsA, lsB, lsC])
 (refine held_val 9 (some 73) rfl rfl (by kernel_rfl) (by kernel_rfl) (by kernel_rfl) (fun _ _ _ h => h) (by kernel_rfl) (fun W hW => rfl) hS ?_; simp only [Act.put, lsA, lsB, lsC])
 (refine held_val 10 (some 74) rfl rfl (by kernel_rfl) (by kernel_rfl) (by kernel_rfl) (fun _ _ _ h => h) (by kernel_rfl) (fun W hW => rfl) hS ?_; simp only [Act.put, lsA, lsB, lsC])
 refine ord_two 11 15 (by kernel_rfl) ?_ ?_
 ·
  refine opw_call 11 (some 75) 182 #[.string (bs m), .int .i64 (q : Int), .int .i64 (sz : Int), .int .i64 (ty : Int), .int .i64 (cl : Int)] rfl rfl (by kernel_rfl) (by go_simp) (GC.out _) ?_
  rintro _ w6 ⟨cs, r0, x, rfl, hO6, b6, hx⟩
  have K6 : Below w5.heap.size w5 w6 := below_then (w := (w5.drewN _).drew) ((below_drewN (Below.refl _ w5) _).drew) (Nat.le_refl _) b6
  have R6 : RdX w6 g m (q : Int) 0 := Blk.below R5 K6 (Blk.lt R5)
  have o6 := o5.below K6
  have G6 := grown_below G5 K6
  have N6 := N5.stays (Stays.below K6)
  have hcl := hO6.len
  have hc1 := Hh hO6.one
  refine ⟨_, rfl, R6, ?_⟩
  clear hS
  have hS := R6
  simp only [Act.put, lsA, lsB, lsC]
  (refine held_val 12 (some 63) rfl rfl (by kernel_rfl) (by kernel_rfl) (by kernel_rfl) (fun _ _ _ h => h) (by kernel_rfl) (fun W hW => rfl) hS ?_; simp only [Act.put, lsA, lsB, lsC])
  (refine held_val 13 (some 76) rfl rfl (by kernel_rfl) (by kernel_rfl) (by kernel_rfl) (fun _ _ _ h => h) (by kernel_rfl) (fun W hW => rfl) hS ?_; simp only [Act.put, lsA, lsB, lsC])
  (refine held_val 14 (some 77) rfl rfl (by kernel_rfl) (by kernel_rfl) (by kernel_rfl) (fun _ _ _ h => h) (by kernel_rfl) (fun W hW => rfl) hS ?_; simp only [Act.put, lsA, lsB, lsC])
  have kn : Below w6.heap.size w6 (w6.alloc (.cells rrZ.toArray 119)) := (Below.refl _ _).alloc (Nat.le_refl _) _
  have R7 : RdX (w6.alloc (.cells rrZ.toArray 119)) g m (q : Int) 0 := Blk.alloc R6 _
  refine held_run 15 (some 12) (by kernel_rfl) rfl rfl (by kernel_rfl) (v := .pointer (some ⟨w6.heap.size, 0, none⟩)) (w' := w6.alloc (.cells rrZ.toArray 119)) (by kernel_rfl) R7 ?_
  simp only [Act.put, lsA, lsB, lsC]
  refine held_stB 16 none 119 (.tmp 12) (.tmp 76) (by kernel_rfl) rfl rfl rfl (by kernel_rfl) w6.heap.size 0 rfl cs rfl (Blk.new w6 119 rrZ) (by rw [rrZ_len, hcl]; omega) (by rw [hcl]; exact rrInfo) hc1.out ?_
  intro w8 B8 g8 _
  rw [List.drop_of_length_le (by rw [rrZ_len, hcl]; omega), List.append_nil] at B8
  replace B8 : Blk w8 w6.heap.size 119 cs := B8
  have hg6 : g < w6.heap.size := Blk.lt R6
  have hb8 : w.heap.size ≤ w6.heap.size := G6.size
  have R8 : RdX w8 g m (q : Int) 0 := Blk.grown R7 g8 (by simp; omega)
  have HA := Hh (fun k hk => Nat.ne_of_lt (o6.blt k hk))
  have o8 := (o6.below kn).far g8 HA.out (Stays.blk g8 (Blk.new w6 119 rrZ) (by decide))
  have N8 := (N6.stays (Stays.below kn)).stays (Stays.blk g8 (Blk.new w6 119 rrZ) (by decide))
  have hO8 := (hO6.stays (Stays.below kn)).stays (Stays.blk g8 (Blk.new w6 119 rrZ) (by decide))
  have G8 : w.grownBy w8 (some g) := grown_trans (grown_alloc G6 _) g8 (.inr (fun k hk => by injection hk with hk; omega))
  clear R7 R6 o6 o5 G6 G5 N6 N5 hO6 kn g8 b6 K6 R5 e0 e1 e2 GC hc1
  generalize w6.heap.size = gn at *
  refine ⟨R8, ?_⟩
  clear hS
  have hS := R8
  simp only [Act.put, lsA, lsB, lsC]
  (refine held_val 17 (some 13) rfl rfl (by kernel_rfl) (by kernel_rfl) (by kernel_rfl) (fun _ _ _ h => h) (by kernel_rfl) (fun W hW => rfl) hS ?_; simp only [Act.put, lsA, lsB, lsC])
  refine wpAnyH_done (by kernel_rfl) ?_ _
  clear hS
  obtain ⟨vn, vt, vm, hcs, hwf, -, n2, n3, hraw⟩ := hO8
  have HCS := Hh hcs
  clear hcs
  obtain ⟨An, cn, hvn, -⟩ := N8.form
  subst hvn
  go_wp2_with (refine at_op (.store 26 (.tmp 79) (.tmp 78)) rfl ?_; go_must (refine wpList_stC rfl 26 (.tmp 79) (.tmp 78) rfl gn 0 rfl (.slice An nm.length cn) rfl B8 (by omega) nameInfo1 rfl rfl ?_))
  intro w9 B9 g9 _
  obtain ⟨M9, hM9⟩ : ∃ M, M = cs.set 0 (.slice An nm.length cn) := ⟨_, rfl⟩
  rw [← hM9] at B9
  have lM9 : M9.length = 33 := by rw [hM9, List.length_set]; exact hcl
  have HM9 := Hh hM9
  clear hM9
  have S9 := Stays.blk g9 B8 (by decide)
  have R9 : RdX w9 g m (q : Int) 0 := Blk.grown R8 g9 (by simp; omega)
  have o9 := o8.far g9 HA.out S9
  have N9 := N8.stays S9
  have t9 := n2.stays S9
  have u9 := n3.stays S9
  have G9 : w.grownBy w9 (some g) := grown_trans G8 g9 (.inr (fun k hk => by injection hk with hk; omega))
  clear R8 o8 N8 n2 n3 G8 g9 B8 S9
  go_wp2_with (refine at_op (.store 3 (.tmp 81) (.tmp 80)) rfl ?_; go_must (refine wpList_stC rfl 3 (.tmp 81) (.tmp 80) rfl gn 1 rfl (.int .i64 (ty : Int)) rfl B9 (by omega) intInfo1 rfl rfl ?_))
  intro wa Ba ga _
  obtain ⟨Ma, hMa⟩ : ∃ M, M = M9.set 1 (.int .i64 (ty : Int)) := ⟨_, rfl⟩
  rw [← hMa] at Ba
  have lMa : Ma.length = 33 := by rw [hMa, List.length_set]; exact lM9
  have HMa := Hh hMa
  clear hMa
  have Sa := Stays.blk ga B9 (by decide)
  have Ra : RdX wa g m (q : Int) 0 := Blk.grown R9 ga (by simp; omega)
  have oa := o9.far ga HA.out Sa
  have Na := N9.stays Sa
  have ta := t9.stays Sa
  have ua := u9.stays Sa
  have Ga : w.grownBy wa (some g) := grown_trans G9 ga (.inr (fun k hk => by injection hk with hk; omega))
  clear R9 o9 N9 t9 u9 G9 ga B9 Sa
  go_wp2_with (refine at_op (.store 3 (.tmp 83) (.tmp 82)) rfl ?_; go_must (refine wpList_stC rfl 3 (.tmp 83) (.tmp 82) rfl gn 2 rfl (.int .i64 (cl : Int)) rfl Ba (by omega) intInfo1 rfl rfl ?_))
  intro wb Bb gb _
  obtain ⟨Mb, hMb⟩ : ∃ M, M = Ma.set 2 (.int .i64 (cl : Int)) := ⟨_, rfl⟩
  rw [← hMb] at Bb
  have lMb : Mb.length = 33 := by rw [hMb, List.length_set]; exact lMa
  have HMb := Hh hMb
  clear hMb
  have Sb := Stays.blk gb Ba (by decide)
  have Rb : RdX wb g m (q : Int) 0 := Blk.grown Ra gb (by simp; omega)
  have ob := oa.far gb HA.out Sb
  have Nb := Na.stays Sb
  have tb := ta.stays Sb
  have ub := ua.stays Sb
  have Gb : w.grownBy wb (some g) := grown_trans Ga gb (.inr (fun k hk => by injection hk with hk; omega))
  clear Ra oa Na ta ua Ga gb Ba Sb
  go_wp2_with (refine at_op (.store 3 (.tmp 85) (.tmp 84)) rfl ?_; go_must (refine wpList_stC rfl 3 (.tmp 85) (.tmp 84) rfl gn 3 rfl (.int .i64 (ttl : Int)) rfl Bb (by omega) intInfo1 rfl rfl ?_))
  intro wc Bc gc _
  obtain ⟨Mc, hMc⟩ : ∃ M, M = Mb.set 3 (.int .i64 (ttl : Int)) := ⟨_, rfl⟩
  rw [← hMc] at Bc
  have lMc : Mc.length = 33 := by rw [hMc, List.length_set]; exact lMb
  have HMc := Hh hMc
  clear hMc
  have Sc := Stays.blk gc Bb (by decide)
  have Rc : RdX wc g m (q : Int) 0 := Blk.grown Rb gc (by simp; omega)
  have oc := ob.far gc HA.out Sc
  have Nc := Nb.stays Sc
  have tc := tb.stays Sc
  have uc := ub.stays Sc
  have Gc : w.grownBy wc (some g) := grown_trans Gb gc (.inr (fun k hk => by injection hk with hk; omega))
  have hMz : Mc = rrC (.slice An nm.length cn) vt vm { r0 with name := nm, ty := ty, cl := cl, ttl := ttl } := by rw [HMc.out, HMb.out, HMa.out, HM9.out, HCS.out]; rfl
  have OW : RRown wc Mc { r0 with name := nm, ty := ty, cl := cl, ttl := ttl } := ⟨_, vt, vm, hMz, ⟨hwf.1, hwf.2⟩, Nc, tc, uc, hraw⟩
  clear Rb ob Nb tb ub Gb gc Bb Sc HMc HMb HMa HM9 HCS hMz Nc tc uc lM9 lMa lMb hcl hwf hraw
  have ZS : Hid (SecS m O (acc ++ [{ r0 with name := nm, ty := ty, cl := cl, ttl := ttl }]) (n - (k + 1)) ((q : Int) + sz) x) := Hh ⟨fun h0 => by
   rcases hx with ⟨_, hr⟩ | ⟨hx, _⟩
   ·
    have := HE.out
    rw [hr] at this
    refine ⟨q + sz, by omega, hqs, ?_⟩
    rw [← many_step this]; exact HB.out
   ·
    exact absurd h0 hx, fun h0 => by
   rcases hx with ⟨h1, _⟩ | ⟨_, hr⟩
   ·
    exact absurd h1 h0
   ·
    have := HE.out
    rw [hr] at this
    exact HB.out.symm.trans (many_fail this)⟩
  generalize ({ r0 with name := nm, ty := ty, cl := cl, ttl := ttl } : RR) = r9 at *
  clear HE HB hx
  have c1 := Blk.cell_ Rc 1 rfl
  have hq1 : (q : Int) + sz ≤ 131072 := by omega
  go_wp2_with (refine at_op (.store 3 (.tmp 94) (.tmp 92)) rfl ?_; go_must (refine wpList_stC rfl 3 (.tmp 94) (.tmp 92) rfl g 1 rfl (.int .i64 ((q : Int) + sz)) rfl Rc (by simp) intInfo1 rfl rfl ?_))
  intro wd Bd gd _
  have Sd := Stays.blk gd Rc (by decide)
  have Dd := Bc.grown gd (by simp; omega)
  have od := oc.blk gd Rc (by decide) (by decide)
  have Gd := grown_next Gc gd
  have OWd := OW.stays Sd
  clear c1 Rc oc Gc Bc gd Sd OW hq1
  go_wp2_with (refine at_op (.store 142 (.tmp 98) (.tmp 96)) rfl ?_; go_must (refine wpList_stC rfl 142 (.tmp 98) (.tmp 96) rfl g 2 rfl (.int .i64 x) rfl Bd (by simp) errInfo1 rfl rfl ?_))
  intro we Be ge _
  have Se := Stays.blk ge Bd (by decide)
  have De := Dd.grown ge (by simp; omega)
  have oe := od.blk ge Bd (by decide) (by decide)
  have Ge := grown_next Gd ge
  have OWe := OWd.stays Se
  have Re : RdX we g m ((q : Int) + sz) x := Be
  have o1 := Hh OWe.one
  clear Dd od Gd Bd ge Se OWd Be
  have kn : Below we.heap.size we (we.alloc (.cells Mc.toArray 119)) := (Below.refl _ _).alloc (Nat.le_refl _) _
  obtain ⟨css, ow, hE⟩ := oe
  have ow2 := own_below ow kn
  have Bn := Blk.new we 119 Mc
  have hrg : (we.alloc (.cells Mc.toArray 119)).rangeAt we.heap.size 0 Mc := by
   have := Bn.range 0 33 (by omega)
   rwa [List.drop_zero, List.take_of_length_le (by omega)] at this
  have G2 := grown_alloc Ge (.cells Mc.toArray 119)
  have hs1 := Ge.size
  have R2 := Blk.below Re kn (Blk.lt Re)
  replace hE := hE.mono (fun _ _ x => x.stays (Stays.below kn))
  have OW2 := OWe.stays (Stays.below kn)
  go_wp2_with (first
   | (refine at_op (.load 119 (.tmp 12)) rfl ?_; go_must (refine wpList_ldB rfl _ _ rfl gn 0 rfl De 33 (by omega) _ underlying119 rfl rrInfo Mc (tk0 (by omega)) ?_))
   | (refine at_op (.buildSlice 48 1 #[(0, .tmp 100)]) rfl ?_; go_must (refine wpList_bsR rfl (.tmp 100) rfl Mc rfl lMc ?_))
   | (at_builtin; go_must (refine wpList_appR _ rfl (.tmp 99) (.tmp 101) rfl w.heap.size _ acc.length css.flatten rfl ow2 (by simp; omega) (some ⟨we.heap.size, 0, none⟩) 1 1 Mc rfl (fun _ => ⟨we.heap.size, 0, rfl, hrg⟩) (by omega) o1.out (by omega) (acc.length + 1) rfl ?_)))
  intro A' c' wf of gf
  have S2 := Stays.own ow2 (by decide) gf
  have o3 : RRsOwn wf w.heap.size (.slice A' (acc.length + 1) c') (acc ++ [r9]) := RRsOwn.app (v := .slice none 0 0) hE OW2 S2 of
  have R3 : RdX wf g m ((q : Int) + sz) x := blk_own R2 ow2 (by decide) gf
  have G3 : w.grownBy wf (some g) := grown_trans G2 gf (.inr (fun k hk => own_base ow2 k hk))
  clear Re R2 Ge G2 ow ow2 hE OWe OW2 Bn hrg S2 gf of kn o1 De
  go_wp2_with fail
  go_roundw
  case rel => exact ⟨k + 1, acc ++ [r9], (q : Int) + sz, x, by omega, by go_num, Hh (by simp [HAL.out]), o3, R3, G3, ZS⟩
  case measure => simp [intOf]; omega
 ·
  have Wa : Below w5.heap.size w5 ((w5.drewN nq).drew.alloc (.cells rrZ.toArray 119)) := ((below_drewN (Below.refl _ w5) _).drew).alloc (Nat.le_refl _) _
  have R6 : RdX ((w5.drewN nq).drew.alloc (.cells rrZ.toArray 119)) g m (q : Int) 0 := Blk.alloc ((Blk.drewN R5 _).drew) _
  have Bz : Blk ((w5.drewN nq).drew.alloc (.cells rrZ.toArray 119)) w5.heap.size 119 rrZ := Blk.new' _ 119 rrZ _ rfl
  refine opw_run 15 (some 12) (v := .pointer (some ⟨w5.heap.size, 0, none⟩)) (w' := (w5.drewN nq).drew.alloc (.cells rrZ.toArray 119)) rfl rfl (by kernel_rfl) (by kernel_rfl) ?_
  refine ⟨R6, ?_⟩
  clear hS
  have hS := R6
  simp only [Act.put, lsA, lsB, lsC]
  refine held_call 11 (some 75) 182 #[.string (bs m), .int .i64 (q : Int), .int .i64 (sz : Int), .int .i64 (ty : Int), .int .i64 (cl : Int)] (by kernel_rfl) rfl rfl (by kernel_rfl) (by go_simp) (GC.out _) ?_
  rintro _ w6 ⟨cs, r0, x, rfl, hO6, b6, hx⟩
  have K6 : Below w5.heap.size w5 w6 := below_then Wa Wa.size b6
  have R7 : RdX w6 g m (q : Int) 0 := Blk.below R6 b6 (Blk.lt R6)
  have B7 := Bz.below b6 Bz.lt
  have o6 := o5.below K6
  have G6 := grown_below G5 K6
  have N6 := N5.stays (Stays.below K6)
  have hcl := hO6.len
  have hc1 := Hh hO6.one
  refine ⟨_, rfl, R7, ?_⟩
  clear hS
  have hS := R7
  simp only [Act.put, lsA, lsB, lsC]
  (refine held_val 12 (some 63) rfl rfl (by kernel_rfl) (by kernel_rfl) (by kernel_rfl) (fun _ _ _ h => h) (by kernel_rfl) (fun W hW => rfl) hS ?_; simp only [Act.put, lsA, lsB, lsC])
  (refine held_val 13 (some 76) rfl rfl (by kernel_rfl) (by kernel_rfl) (by kernel_rfl) (fun _ _ _ h => h) (by kernel_rfl) (fun W hW => rfl) hS ?_; simp only [Act.put, lsA, lsB, lsC])
  (refine held_val 14 (some 77) rfl rfl (by kernel_rfl) (by kernel_rfl) (by kernel_rfl) (fun _ _ _ h => h) (by kernel_rfl) (fun W hW => rfl) hS ?_; simp only [Act.put, lsA, lsB, lsC])
  refine held_stB 16 none 119 (.tmp 12) (.tmp 76) (by kernel_rfl) rfl rfl rfl (by kernel_rfl) w5.heap.size 0 rfl cs rfl B7 (by rw [rrZ_len, hcl]; omega) (by rw [hcl]; exact rrInfo) hc1.out ?_
  intro w8 B8 g8 _
  rw [List.drop_of_length_le (by rw [rrZ_len, hcl]; omega), List.append_nil] at B8
  replace B8 : Blk w8 w5.heap.size 119 cs := B8
  have hg6 : g < w5.heap.size := Blk.lt R5
  have hb8 : w.heap.size ≤ w5.heap.size := G5.size
  have R8 : RdX w8 g m (q : Int) 0 := Blk.grown R7 g8 (by simp; omega)
  have HA := Hh (fun k hk => Nat.ne_of_lt (o5.blt k hk))
  have o8 := o6.far g8 HA.out (Stays.blk g8 B7 (by decide))
  have N8 := N6.stays (Stays.blk g8 B7 (by decide))
  have hO8 := hO6.stays (Stays.blk g8 B7 (by decide))
  have G8 : w.grownBy w8 (some g) := grown_trans G6 g8 (.inr (fun k hk => by injection hk with hk; omega))
  clear R7 R6 o6 o5 G6 G5 N6 N5 hO6 Wa Bz B7 g8 b6 K6 R5 e0 e1 e2 GC hc1
  generalize w5.heap.size = gn at *
  refine ⟨R8, ?_⟩
  clear hS
  have hS := R8
  simp only [Act.put, lsA, lsB, lsC]
  (refine held_val 17 (some 13) rfl rfl (by kernel_rfl) (by kernel_rfl) (by kernel_rfl) (fun _ _ _ h => h) (by kernel_rfl) (fun W hW => rfl) hS ?_; simp only [Act.put, lsA, lsB, lsC])
  refine wpAnyH_done (by kernel_rfl) ?_ _
  clear hS
  obtain ⟨vn, vt, vm, hcs, hwf, -, n2, n3, hraw⟩ := hO8
  have HCS := Hh hcs
  clear hcs
  obtain ⟨An, cn, hvn, -⟩ := N8.form
  subst hvn
  go_wp2_with (refine at_op (.store 26 (.tmp 79) (.tmp 78)) rfl ?_; go_must (refine wpList_stC rfl 26 (.tmp 79) (.tmp 78) rfl gn 0 rfl (.slice An nm.length cn) rfl B8 (by omega) nameInfo1 rfl rfl ?_))
  intro w9 B9 g9 _
  obtain ⟨M9, hM9⟩ : ∃ M, M = cs.set 0 (.slice An nm.length cn) := ⟨_, rfl⟩
  rw [← hM9] at B9
  have lM9 : M9.length = 33 := by rw [hM9, List.length_set]; exact hcl
  have HM9 := Hh hM9
  clear hM9
  have S9 := Stays.blk g9 B8 (by decide)
  have R9 : RdX w9 g m (q : Int) 0 := Blk.grown R8 g9 (by simp; omega)
  have o9 := o8.far g9 HA.out S9
  have N9 := N8.stays S9
  have t9 := n2.stays S9
  have u9 := n3.stays S9
  have G9 : w.grownBy w9 (some g) := grown_trans G8 g9 (.inr (fun k hk => by injection hk with hk; omega))
  clear R8 o8 N8 n2 n3 G8 g9 B8 S9
  go_wp2_with (refine at_op (.store 3 (.tmp 81) (.tmp 80)) rfl ?_; go_must (refine wpList_stC rfl 3 (.tmp 81) (.tmp 80) rfl gn 1 rfl (.int .i64 (ty : Int)) rfl B9 (by omega) intInfo1 rfl rfl ?_))
  intro wa Ba ga _
  obtain ⟨Ma, hMa⟩ : ∃ M, M = M9.set 1 (.int .i64 (ty : Int)) := ⟨_, rfl⟩
  rw [← hMa] at Ba
  have lMa : Ma.length = 33 := by rw [hMa, List.length_set]; exact lM9
  have HMa := Hh hMa
  clear hMa
  have Sa := Stays.blk ga B9 (by decide)
  have Ra : RdX wa g m (q : Int) 0 := Blk.grown R9 ga (by simp; omega)
  have oa := o9.far ga HA.out Sa
  have Na := N9.stays Sa
  have ta := t9.stays Sa
  have ua := u9.stays Sa
  have Ga : w.grownBy wa (some g) := grown_trans G9 ga (.inr (fun k hk => by injection hk with hk; omega))
  clear R9 o9 N9 t9 u9 G9 ga B9 Sa
  go_wp2_with (refine at_op (.store 3 (.tmp 83) (.tmp 82)) rfl ?_; go_must (refine wpList_stC rfl 3 (.tmp 83) (.tmp 82) rfl gn 2 rfl (.int .i64 (cl : Int)) rfl Ba (by omega) intInfo1 rfl rfl ?_))
  intro wb Bb gb _
  obtain ⟨Mb, hMb⟩ : ∃ M, M = Ma.set 2 (.int .i64 (cl : Int)) := ⟨_, rfl⟩
  rw [← hMb] at Bb
  have lMb : Mb.length = 33 := by rw [hMb, List.length_set]; exact lMa
  have HMb := Hh hMb
  clear hMb
  have Sb := Stays.blk gb Ba (by decide)
  have Rb : RdX wb g m (q : Int) 0 := Blk.grown Ra gb (by simp; omega)
  have ob := oa.far gb HA.out Sb
  have Nb := Na.stays Sb
  have tb := ta.stays Sb
  have ub := ua.stays Sb
  have Gb : w.grownBy wb (some g) := grown_trans Ga gb (.inr (fun k hk => by injection hk with hk; omega))
  clear Ra oa Na ta ua Ga gb Ba Sb
  go_wp2_with (refine at_op (.store 3 (.tmp 85) (.tmp 84)) rfl ?_; go_must (refine wpList_stC rfl 3 (.tmp 85) (.tmp 84) rfl gn 3 rfl (.int .i64 (ttl : Int)) rfl Bb (by omega) intInfo1 rfl rfl ?_))
  intro wc Bc gc _
  obtain ⟨Mc, hMc⟩ : ∃ M, M = Mb.set 3 (.int .i64 (ttl : Int)) := ⟨_, rfl⟩
  rw [← hMc] at Bc
  have lMc : Mc.length = 33 := by rw [hMc, List.length_set]; exact lMb
  have HMc := Hh hMc
  clear hMc
  have Sc := Stays.blk gc Bb (by decide)
  have Rc : RdX wc g m (q : Int) 0 := Blk.grown Rb gc (by simp; omega)
  have oc := ob.far gc HA.out Sc
  have Nc := Nb.stays Sc
  have tc := tb.stays Sc
  have uc := ub.stays Sc
  have Gc : w.grownBy wc (some g) := grown_trans Gb gc (.inr (fun k hk => by injection hk with hk; omega))
  have hMz : Mc = rrC (.slice An nm.length cn) vt vm { r0 with name := nm, ty := ty, cl := cl, ttl := ttl } := by rw [HMc.out, HMb.out, HMa.out, HM9.out, HCS.out]; rfl
  have OW : RRown wc Mc { r0 with name := nm, ty := ty, cl := cl, ttl := ttl } := ⟨_, vt, vm, hMz, ⟨hwf.1, hwf.2⟩, Nc, tc, uc, hraw⟩
  clear Rb ob Nb tb ub Gb gc Bb Sc HMc HMb HMa HM9 HCS hMz Nc tc uc lM9 lMa lMb hcl hwf hraw
  have ZS : Hid (SecS m O (acc ++ [{ r0 with name := nm, ty := ty, cl := cl, ttl := ttl }]) (n - (k + 1)) ((q : Int) + sz) x) := Hh ⟨fun h0 => by
   rcases hx with ⟨_, hr⟩ | ⟨hx, _⟩
   ·
    have := HE.out
    rw [hr] at this
    refine ⟨q + sz, by omega, hqs, ?_⟩
    rw [← many_step this]; exact HB.out
   ·
    exact absurd h0 hx, fun h0 => by
   rcases hx with ⟨h1, _⟩ | ⟨_, hr⟩
   ·
    exact absurd h1 h0
   ·
    have := HE.out
    rw [hr] at this
    exact HB.out.symm.trans (many_fail this)⟩
  generalize ({ r0 with name := nm, ty := ty, cl := cl, ttl := ttl } : RR) = r9 at *
  clear HE HB hx
  have c1 := Blk.cell_ Rc 1 rfl
  have hq1 : (q : Int) + sz ≤ 131072 := by omega
  go_wp2_with (refine at_op (.store 3 (.tmp 94) (.tmp 92)) rfl ?_; go_must (refine wpList_stC rfl 3 (.tmp 94) (.tmp 92) rfl g 1 rfl (.int .i64 ((q : Int) + sz)) rfl Rc (by simp) intInfo1 rfl rfl ?_))
  intro wd Bd gd _
  have Sd := Stays.blk gd Rc (by decide)
  have Dd := Bc.grown gd (by simp; omega)
  have od := oc.blk gd Rc (by decide) (by decide)
  have Gd := grown_next Gc gd
  have OWd := OW.stays Sd
  clear c1 Rc oc Gc Bc gd Sd OW hq1
  go_wp2_with (refine at_op (.store 142 (.tmp 98) (.tmp 96)) rfl ?_; go_must (refine wpList_stC rfl 142 (.tmp 98) (.tmp 96) rfl g 2 rfl (.int .i64 x) rfl Bd (by simp) errInfo1 rfl rfl ?_))
  intro we Be ge _
  have Se := Stays.blk ge Bd (by decide)
  have De := Dd.grown ge (by simp; omega)
  have oe := od.blk ge Bd (by decide) (by decide)
  have Ge := grown_next Gd ge
  have OWe := OWd.stays Se
  have Re : RdX we g m ((q : Int) + sz) x := Be
  have o1 := Hh OWe.one
  clear Dd od Gd Bd ge Se OWd Be
  have kn : Below we.heap.size we (we.alloc (.cells Mc.toArray 119)) := (Below.refl _ _).alloc (Nat.le_refl _) _
  obtain ⟨css, ow, hE⟩ := oe
  have ow2 := own_below ow kn
  have Bn := Blk.new we 119 Mc
  have hrg : (we.alloc (.cells Mc.toArray 119)).rangeAt we.heap.size 0 Mc := by
   have := Bn.range 0 33 (by omega)
   rwa [List.drop_zero, List.take_of_length_le (by omega)] at this
  have G2 := grown_alloc Ge (.cells Mc.toArray 119)
  have hs1 := Ge.size
  have R2 := Blk.below Re kn (Blk.lt Re)
  replace hE := hE.mono (fun _ _ x => x.stays (Stays.below kn))
  have OW2 := OWe.stays (Stays.below kn)
  go_wp2_with (first
   | (refine at_op (.load 119 (.tmp 12)) rfl ?_; go_must (refine wpList_ldB rfl _ _ rfl gn 0 rfl De 33 (by omega) _ underlying119 rfl rrInfo Mc (tk0 (by omega)) ?_))
   | (refine at_op (.buildSlice 48 1 #[(0, .tmp 100)]) rfl ?_; go_must (refine wpList_bsR rfl (.tmp 100) rfl Mc rfl lMc ?_))
   | (at_builtin; go_must (refine wpList_appR _ rfl (.tmp 99) (.tmp 101) rfl w.heap.size _ acc.length css.flatten rfl ow2 (by simp; omega) (some ⟨we.heap.size, 0, none⟩) 1 1 Mc rfl (fun _ => ⟨we.heap.size, 0, rfl, hrg⟩) (by omega) o1.out (by omega) (acc.length + 1) rfl ?_)))
  intro A' c' wf of gf
  have S2 := Stays.own ow2 (by decide) gf
  have o3 : RRsOwn wf w.heap.size (.slice A' (acc.length + 1) c') (acc ++ [r9]) := RRsOwn.app (v := .slice none 0 0) hE OW2 S2 of
  have R3 : RdX wf g m ((q : Int) + sz) x := blk_own R2 ow2 (by decide) gf
  have G3 : w.grownBy wf (some g) := grown_trans G2 gf (.inr (fun k hk => own_base ow2 k hk))
  clear Re R2 Ge G2 ow ow2 hE OWe OW2 Bn hrg S2 gf of kn o1 De
  go_wp2_with fail
  go_roundw
  case rel => exact ⟨k + 1, acc ++ [r9], (q : Int) + sz, x, by omega, by go_num, Hh (by simp [HAL.out]), o3, R3, G3, ZS⟩
  case measure => simp [intOf]; omega
end Go.Proofs.YthnbcmlnpdabhaaGreat

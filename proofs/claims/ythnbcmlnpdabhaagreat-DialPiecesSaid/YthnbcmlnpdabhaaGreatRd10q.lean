/-
  The reference's layer 13: out, bare, Same.
-/
import Derived.Test.YthnbcmlnpdabhaaGreatHSq
namespace Go.Proofs.YthnbcmlnpdabhaaGreat
open _root_.Go.Proofs.Tryz
open Go.RowKit
set_option maxRecDepth 100000
set_option linter.unusedVariables false
set_option linter.unusedSimpArgs false
theorem refOut13_any (n m : Int) (w : World) : Calls prog 201 #[.int .i64 n, .int .i64 m] w (Ret (.bool (!inB m n)) w) := by
 cases h : inB m n with
 | true =>
  obtain ⟨h1, h2⟩ := (inB_iff _ _).1 h
  have d1 : decide (n < 0) = false := decide_eq_false (by omega)
  have d2 : decide (m < n) = false := decide_eq_false (by omega)
  clear h h1 h2
  go_enter func201, ntmps201
  go_wp2_with fail
  go_ret
  exact Ret.mk rfl rfl
 | false =>
  have h12 := inB_no h
  clear h
  by_cases h1 : n < 0
  ·
   have d1 : decide (n < 0) = true := decide_eq_true h1
   clear h12 h1
   go_enter func201, ntmps201
   go_wp2_with fail
   go_ret
   exact Ret.mk rfl rfl
  ·
   have d1 : decide (n < 0) = false := decide_eq_false h1
   have d2 : decide (m < n) = true := decide_eq_true (by omega)
   clear h12 h1
   go_enter func201, ntmps201
   go_wp2_with fail
   go_ret
   exact Ret.mk rfl rfl
def bareR (r : RR) : RR := { RR.zero with name := r.name, ty := r.ty, cl := r.cl, ttl := r.ttl }
theorem run_bare (A : Option Addr) (n c : Nat) (r : RR) (W : World) : (Instr.build 119 #[(0, .slice A n c), (1, .int .i64 r.ty), (2, .int .i64 r.cl), (3, .int .i64 r.ttl)]).run prog W = .ok (.agg (rrC (.slice A n c) nilS nilS (bareR r)).toArray) W := by
 kernel_rfl
theorem bare_any (A : Option Addr) (n c : Nat) (vt vm : Value) (r : RR) (hr : r.wf) (w : World) :
  Calls prog 202 #[.agg (rrC (.slice A n c) vt vm r).toArray] w (RetB (.agg (rrC (.slice A n c) nilS nilS (bareR r)).toArray) w) := by
 have hl := rrC_len (vn := .slice A n c) (vt := vt) (vm := vm) hr
 have L0 := rrC_0 (vn := .slice A n c) (vt := vt) (vm := vm) (r := r)
 have L1 := rrC_1 (vn := .slice A n c) (vt := vt) (vm := vm) (r := r)
 have L2 := rrC_2 (vn := .slice A n c) (vt := vt) (vm := vm) (r := r)
 have L3 := rrC_3 (vn := .slice A n c) (vt := vt) (vm := vm) (r := r)
 have B0 := (Blk.new w 119 (rrC (.slice A n c) vt vm r)).alloc (.cells rrZ.toArray 119)
 have RL := rrC_len (vn := .slice A n c) (vt := nilS) (vm := nilS) (r := bareR r) ⟨rfl, rfl⟩
 have R1 := Hh (rrC_one (vn := .slice A n c) (r := bareR r) rfl (vt := nilS) (vm := nilS) rfl rfl)
 have RB := run_bare A n c r
 have g0 : ∀ hi : 0 < (rrC (.slice A n c) vt vm r).length, (rrC (.slice A n c) vt vm r)[0]'hi = .slice A n c := at_of L0
 have g1 : ∀ hi : 1 < (rrC (.slice A n c) vt vm r).length, (rrC (.slice A n c) vt vm r)[1]'hi = .int .i64 r.ty := at_of L1
 have g2 : ∀ hi : 2 < (rrC (.slice A n c) vt vm r).length, (rrC (.slice A n c) vt vm r)[2]'hi = .int .i64 r.cl := at_of L2
 have g3 : ∀ hi : 3 < (rrC (.slice A n c) vt vm r).length, (rrC (.slice A n c) vt vm r)[3]'hi = .int .i64 r.ttl := at_of L3
 clear L0 L1 L2 L3 B0
 generalize rrC (.slice A n c) nilS nilS (bareR r) = L4 at *
 generalize rrC (.slice A n c) vt vm r = L at *
 generalize r.ty = ty at *
 generalize r.cl = cl at *
 generalize r.ttl = ttl at *
 go_enter func202, ntmps202
 go_wp2_with (first
  | (refine at_op (.build 119 #[(0, .tmp 4), (1, .tmp 6), (2, .tmp 8), (3, .tmp 10)]) rfl ?_; go_must (refine wpList_bld rfl 119 _ rfl #[(0, .slice A n c), (1, .int .i64 ty), (2, .int .i64 cl), (3, .int .i64 ttl)] (by simp [Act.eval, g0, g1, g2, g3]) (RB _) ?_))
  | (refine at_op (.store 119 (.tmp 2) (.tmp 11)) rfl ?_; go_must (refine wpList_stB rfl _ _ _ rfl (w.heap.size + 1) 0 rfl L4 rfl (Blk.new' _ _ rrZ _ (by simp)) (by rw [rrZ_len]; omega) (by rw [RL]; exact rrInfo) R1.out ?_)))
 intro w3 hb3 hg3 hs3
 have HB : Below w.heap.size w w3 := below_grown (((Below.refl _ _).alloc (Nat.le_refl _) _).alloc (by simp) _) hg3 (by simp; omega) (by omega)
 rw [List.drop_of_length_le (by rw [rrZ_len]; omega), List.append_nil] at hb3
 go_wp2_with fail
 refine ret_cell rfl (w.heap.size + 1) rfl hb3 _ underlying119 rfl (by first | (rw [RL]; exact rrInfo) | (simp [RL]; exact rrInfo)) rfl ?_
 exact RetB.mk rfl HB
theorem rr_eq_split (a b : RR) : decide (a = b) = (decide (a.name = b.name) && ((a.ty == b.ty) && ((a.cl == b.cl) && ((a.ttl == b.ttl) && (decide (a.ad = b.ad) && (decide (a.tg = b.tg) && (decide (a.ml = b.ml) && ((a.pri == b.pri) && ((a.we == b.we) && ((a.po == b.po) && ((a.nums == b.nums) && (a.raw == b.raw)))))))))))) := by
 rw [Bool.eq_iff_iff]
 obtain ⟨a0, a1, a2, a3, a4, a5, a6, a7, a8, a9, a10, a11⟩ := a
 obtain ⟨b0, b1, b2, b3, b4, b5, b6, b7, b8, b9, b10, b11⟩ := b
 simp
theorem run_eqN (a b : List Int) (ha : a.length = 5) (hb : b.length = 5) (w : World) : (Op.equalIn 10000 117 (.agg (ints64 a).toArray) (.agg (ints64 b).toArray)).run prog w = .ok (a == b) w :=
 run_equalIn_ints w 9998 117 3 5 .i64 underlying117 underlying3 size_int a b ha hb
set_option maxHeartbeats 40000000 in
theorem same13_any (cs ds : List Value) (a b : RR) (w : World) (ha : RRis w cs a) (hb : RRis w ds b) : Calls prog 124 #[.agg cs.toArray, .agg ds.toArray] w (RetB (.bool (decide (a = b))) w) := by
 rw [rr_eq_split]
 obtain ⟨An, cn, At, ct, Am, cm, hcs, hr, hN, hT, hM, hraw⟩ := ha
 obtain ⟨Bn, dn, Bt, dt, Bm, dm, hds, hs, kN, kT, kM, kraw⟩ := hb
 have hl : cs.length = 33 := by rw [hcs]; exact rrC_len hr
 have hk : ds.length = 33 := by rw [hds]; exact rrC_len hs
 have A0 : Hid (cs[0]? = some (.slice An a.name.length cn)) := Hh (by rw [hcs]; rfl)
 have A1 : Hid (cs[1]? = some (.int .i64 a.ty)) := Hh (by rw [hcs]; rfl)
 have A2 : Hid (cs[2]? = some (.int .i64 a.cl)) := Hh (by rw [hcs]; rfl)
 have A3 : Hid (cs[3]? = some (.int .i64 a.ttl)) := Hh (by rw [hcs]; rfl)
 have A22 : Hid (cs[22]? = some (.slice At a.tg.length ct)) := Hh (by rw [hcs]; exact rrC_22 hr)
 have A23 : Hid (cs[23]? = some (.slice Am a.ml.length cm)) := Hh (by rw [hcs]; exact rrC_23 hr)
 have A24 : Hid (cs[24]? = some (.int .i64 a.pri)) := Hh (by rw [hcs]; exact rrC_24 hr)
 have A25 : Hid (cs[25]? = some (.int .i64 a.we)) := Hh (by rw [hcs]; exact rrC_25 hr)
 have A26 : Hid (cs[26]? = some (.int .i64 a.po)) := Hh (by rw [hcs]; exact rrC_26 hr)
 have A32 : Hid (cs[32]? = some (.string (bs a.raw))) := Hh (by rw [hcs]; exact rrC_32 hr)
 have LAa : Hid ((cs.drop 4).take 18 = a.ad.cells) := Hh (by rw [hcs]; exact rrC_ad hr)
 have LNa : Hid ((cs.drop 27).take 5 = ints64 a.nums) := Hh (by rw [hcs]; exact rrC_nums hr)
 have E0 : Hid (ds[0]? = some (.slice Bn b.name.length dn)) := Hh (by rw [hds]; rfl)
 have E1 : Hid (ds[1]? = some (.int .i64 b.ty)) := Hh (by rw [hds]; rfl)
 have E2 : Hid (ds[2]? = some (.int .i64 b.cl)) := Hh (by rw [hds]; rfl)
 have E3 : Hid (ds[3]? = some (.int .i64 b.ttl)) := Hh (by rw [hds]; rfl)
 have E22 : Hid (ds[22]? = some (.slice Bt b.tg.length dt)) := Hh (by rw [hds]; exact rrC_22 hs)
 have E23 : Hid (ds[23]? = some (.slice Bm b.ml.length dm)) := Hh (by rw [hds]; exact rrC_23 hs)
 have E24 : Hid (ds[24]? = some (.int .i64 b.pri)) := Hh (by rw [hds]; exact rrC_24 hs)
 have E25 : Hid (ds[25]? = some (.int .i64 b.we)) := Hh (by rw [hds]; exact rrC_25 hs)
 have E26 : Hid (ds[26]? = some (.int .i64 b.po)) := Hh (by rw [hds]; exact rrC_26 hs)
 have E32 : Hid (ds[32]? = some (.string (bs b.raw))) := Hh (by rw [hds]; exact rrC_32 hs)
 have LAb : Hid ((ds.drop 4).take 18 = b.ad.cells) := Hh (by rw [hds]; exact rrC_ad hs)
 have LNb : Hid ((ds.drop 27).take 5 = ints64 b.nums) := Hh (by rw [hds]; exact rrC_nums hs)
 clear hcs hds hraw kraw
 have EA := run_eqA a.ad b.ad hr.1 hs.1
 have EN := run_eqN a.nums b.nums hr.2 hs.2
 have X1 := Hh (fun w' (q : Below w.heap.size w w') => exact_any An Bn a.name b.name cn dn w' (hN.below q).1 (kN.below q).1 (by have := hN.2.2.1; omega) (by have := kN.2.2.1; omega))
 have X2 := Hh (fun w' (q : Below w.heap.size w w') => exact_any At Bt a.tg b.tg ct dt w' (hT.below q).1 (kT.below q).1 (by have := hT.2.2.1; omega) (by have := kT.2.2.1; omega))
 have X3 := Hh (fun w' (q : Below w.heap.size w w') => exact_any Am Bm a.ml b.ml cm dm w' (hM.below q).1 (kM.below q).1 (by have := hM.2.2.1; omega) (by have := kM.2.2.1; omega))
 clear hN hT hM kN kT kM hr hs
 generalize decide (a.name = b.name) = q0 at *
 generalize decide (a.ad = b.ad) = q4 at *
 generalize decide (a.tg = b.tg) = q5 at *
 generalize decide (a.ml = b.ml) = q6 at *
 generalize a.ad.cells = LA1 at *
 generalize b.ad.cells = LA2 at *
 generalize (a.nums == b.nums) = q10 at *
 generalize ints64 a.nums = LN1 at *
 generalize ints64 b.nums = LN2 at *
 generalize a.name.length = n1 at *
 generalize b.name.length = m1 at *
 generalize a.tg.length = n2 at *
 generalize b.tg.length = m2 at *
 generalize a.ml.length = n3 at *
 generalize b.ml.length = m3 at *
 obtain ⟨q1, h1⟩ : ∃ q, Hid ((a.ty == b.ty) = q) := ⟨_, Hh rfl⟩
 obtain ⟨q2, h2⟩ : ∃ q, Hid ((a.cl == b.cl) = q) := ⟨_, Hh rfl⟩
 obtain ⟨q3, h3⟩ : ∃ q, Hid ((a.ttl == b.ttl) = q) := ⟨_, Hh rfl⟩
 obtain ⟨q7, h7⟩ : ∃ q, Hid ((a.pri == b.pri) = q) := ⟨_, Hh rfl⟩
 obtain ⟨q8, h8⟩ : ∃ q, Hid ((a.we == b.we) = q) := ⟨_, Hh rfl⟩
 obtain ⟨q9, h9⟩ : ∃ q, Hid ((a.po == b.po) = q) := ⟨_, Hh rfl⟩
 obtain ⟨q11, h11⟩ : ∃ q, Hid ((a.raw == b.raw) = q) := ⟨_, Hh rfl⟩
 rw [h1.out, h2.out, h3.out, h7.out, h8.out, h9.out, h11.out]
 generalize a.ty = aty at *
 generalize b.ty = bty at *
 generalize a.cl = acl at *
 generalize b.cl = bcl at *
 generalize a.ttl = attl at *
 generalize b.ttl = bttl at *
 generalize a.pri = apri at *
 generalize b.pri = bpri at *
 generalize a.we = awe at *
 generalize b.we = bwe at *
 generalize a.po = apo at *
 generalize b.po = bpo at *
 generalize a.raw = araw at *
 generalize b.raw = braw at *
 have HB0 : Below w.heap.size w ((w.alloc (.cells cs.toArray 119)).alloc (.cells ds.toArray 119)) := ((Below.refl _ _).alloc (Nat.le_refl _) _).alloc (by simp) _
 have B1' := (Blk.new w 119 cs).alloc (.cells ds.toArray 119)
 have B2' := Blk.new' (w.alloc (.cells cs.toArray 119)) 119 ds (w.heap.size + 1) (by simp)
 have u0 := B1'.cell_ 0 A0.out
 have v0 := B2'.cell_ 0 E0.out
 clear A0 E0
 go_enter func124, ntmps124; simp only [List.append]
 go_wp2_with fail
 refine (X1.out _ HB0).mono ?_
 rintro _ w1 ⟨rfl, b1⟩
 have B1 := B1'.below b1 B1'.lt
 have B2 := B2'.below b1 B2'.lt
 have HB := below_then HB0 HB0.size b1
 clear X1 B1' B2' HB0 b1 u0 v0
 cases q0 with
 | false =>
  go_wp2_with fail
  go_ret
  exact RetB.mk rfl HB
 | true =>
 have a1 := B1.cell_ 1 A1.out
 have b1 := B2.cell_ 1 E1.out
 have k1 := h1.out
 cases q1 with
 | false =>
  go_wp2_with fail
  go_ret
  exact RetB.mk rfl HB
 | true =>
 have a2 := B1.cell_ 2 A2.out
 have b2 := B2.cell_ 2 E2.out
 have k2 := h2.out
 cases q2 with
 | false =>
  go_wp2_with fail
  go_ret
  exact RetB.mk rfl HB
 | true =>
 have a3 := B1.cell_ 3 A3.out
 have b3 := B2.cell_ 3 E3.out
 have k3 := h3.out
 cases q3 with
 | false =>
  go_wp2_with fail
  go_ret
  exact RetB.mk rfl HB
 | true =>
 cases q4 with
 | false =>
  go_wp2_with (first
   | (refine at_op (.load 24 (.tmp 32)) rfl ?_; refine wpList_ldBg (by kernel_rfl) 24 (.tmp 32) rfl w.heap.size 4 rfl B1 18 (by omega) _ underlying24 rfl adrInfo LA1 LAa.out ?_)
   | (refine at_op (.load 24 (.tmp 34)) rfl ?_; refine wpList_ldBg (by kernel_rfl) 24 (.tmp 34) rfl (w.heap.size + 1) 4 rfl B2 18 (by omega) _ underlying24 rfl adrInfo LA2 LAb.out ?_))
  go_ret
  exact RetB.mk rfl HB
 | true =>
 have a22 := B1.cell_ 22 A22.out
 have b22 := B2.cell_ 22 E22.out
 go_wp2_with (first
  | (refine at_op (.load 24 (.tmp 32)) rfl ?_; refine wpList_ldBg (by kernel_rfl) 24 (.tmp 32) rfl w.heap.size 4 rfl B1 18 (by omega) _ underlying24 rfl adrInfo LA1 LAa.out ?_)
  | (refine at_op (.load 24 (.tmp 34)) rfl ?_; refine wpList_ldBg (by kernel_rfl) 24 (.tmp 34) rfl (w.heap.size + 1) 4 rfl B2 18 (by omega) _ underlying24 rfl adrInfo LA2 LAb.out ?_))
 refine (X2.out _ HB).mono ?_
 rintro _ w2 ⟨rfl, c2⟩
 clear a1 b1 k1 a2 b2 k2 a3 b3 k3 EA a22 b22 X2
 replace B1 := B1.below c2 B1.lt
 replace B2 := B2.below c2 B2.lt
 replace HB := below_then HB HB.size c2
 clear c2
 cases q5 with
 | false =>
  go_wp2_with fail
  go_ret
  exact RetB.mk rfl HB
 | true =>
 have a23 := B1.cell_ 23 A23.out
 have b23 := B2.cell_ 23 E23.out
 go_wp2_with fail
 refine (X3.out _ HB).mono ?_
 rintro _ w3 ⟨rfl, c3⟩
 clear a23 b23 X3
 replace B1 := B1.below c3 B1.lt
 replace B2 := B2.below c3 B2.lt
 replace HB := below_then HB HB.size c3
 clear c3
 cases q6 with
 | false =>
  go_wp2_with fail
  go_ret
  exact RetB.mk rfl HB
 | true =>
 have a24 := B1.cell_ 24 A24.out
 have b24 := B2.cell_ 24 E24.out
 have k7 := h7.out
 cases q7 with
 | false =>
  go_wp2_with fail
  go_ret
  exact RetB.mk rfl HB
 | true =>
 have a25 := B1.cell_ 25 A25.out
 have b25 := B2.cell_ 25 E25.out
 have k8 := h8.out
 cases q8 with
 | false =>
  go_wp2_with fail
  go_ret
  exact RetB.mk rfl HB
 | true =>
 have a26 := B1.cell_ 26 A26.out
 have b26 := B2.cell_ 26 E26.out
 have k9 := h9.out
 cases q9 with
 | false =>
  go_wp2_with fail
  go_ret
  exact RetB.mk rfl HB
 | true =>
 cases q10 with
 | false =>
  go_wp2_with (first
   | (refine at_op (.load 117 (.tmp 74)) rfl ?_; refine wpList_ldBg (by kernel_rfl) 117 (.tmp 74) rfl w.heap.size 27 rfl B1 5 (by omega) _ underlying117 rfl numsInfo LN1 LNa.out ?_)
   | (refine at_op (.load 117 (.tmp 76)) rfl ?_; refine wpList_ldBg (by kernel_rfl) 117 (.tmp 76) rfl (w.heap.size + 1) 27 rfl B2 5 (by omega) _ underlying117 rfl numsInfo LN2 LNb.out ?_))
  go_ret
  exact RetB.mk rfl HB
 | true =>
 have a32 := B1.cell_ 32 A32.out
 have b32 := B2.cell_ 32 E32.out
 have k11 := h11.out
 cases q11 with
 | false =>
  go_wp2_with (first
   | (refine at_op (.load 117 (.tmp 74)) rfl ?_; refine wpList_ldBg (by kernel_rfl) 117 (.tmp 74) rfl w.heap.size 27 rfl B1 5 (by omega) _ underlying117 rfl numsInfo LN1 LNa.out ?_)
   | (refine at_op (.load 117 (.tmp 76)) rfl ?_; refine wpList_ldBg (by kernel_rfl) 117 (.tmp 76) rfl (w.heap.size + 1) 27 rfl B2 5 (by omega) _ underlying117 rfl numsInfo LN2 LNb.out ?_))
  go_ret
  exact RetB.mk rfl HB
 | true =>
  go_wp2_with (first
   | (refine at_op (.load 117 (.tmp 74)) rfl ?_; refine wpList_ldBg (by kernel_rfl) 117 (.tmp 74) rfl w.heap.size 27 rfl B1 5 (by omega) _ underlying117 rfl numsInfo LN1 LNa.out ?_)
   | (refine at_op (.load 117 (.tmp 76)) rfl ?_; refine wpList_ldBg (by kernel_rfl) 117 (.tmp 76) rfl (w.heap.size + 1) 27 rfl B2 5 (by omega) _ underlying117 rfl numsInfo LN2 LNb.out ?_))
  go_ret
  exact RetB.mk rfl HB
end Go.Proofs.YthnbcmlnpdabhaaGreat

/-
  Layer 11 (head): a head put in octets: the program's Put.
-/
import Derived.Test.YtlmgdogblbigpaaGO
namespace Go.Proofs.Ytlmgdogblbigpaa
open Go.RowKit
set_option maxRecDepth 100000

/-- A head's second number. -/
def Hd.num (h : Hd) : Int := bitw h.qr 32768 + h.op * 2048 + bitw h.aa 1024 + bitw h.tc 512 + bitw h.rd 256 + bitw h.ra 128 + bitw h.ad 32 + bitw h.cd 16 + h.rc
def cok (c : Int) : Prop := 0 ≤ c ∧ c ≤ 65535
/-- A head's octets. -/
def putHead (h : Hd) (c0 c1 c2 c3 : Int) : List UInt8 := putB 2 h.id ++ putB 2 h.num ++ putB 2 c0 ++ putB 2 c1 ++ putB 2 c2 ++ putB 2 c3

theorem headPut_bad (h : Hd) (c0 c1 c2 c3 : Int) (w : World) (hk : h.ok = false) :
    Calls Try.prog 67 #[h.agg, cnts c0 c1 c2 c3] w (RetB (.tuple #[.string (bs []), .int .i64 4]) w) := by
  simp only [Hd.agg, cnts]
  go_enter Try.func67, Try.ntmps67
  go_wp2_with fail
  refine (check_any h _).mono ?_
  rw [hk]
  rintro e w1 ⟨rfl, b1⟩
  go_wp2_with fail
  go_ret2
  exact RetB.mk rfl (below_then (by go_grown) (by simp; omega) b1)

set_option maxHeartbeats 1000000 in
theorem headPut_ok (h : Hd) (c0 c1 c2 c3 : Int) (w : World) (hk : h.ok = true) (g0 : 0 ≤ c0 ∧ c0 ≤ 65535) (g1 : 0 ≤ c1 ∧ c1 ≤ 65535) (g2 : 0 ≤ c2 ∧ c2 ≤ 65535) (g3 : 0 ≤ c3 ∧ c3 ≤ 65535) :
    Calls Try.prog 67 #[h.agg, cnts c0 c1 c2 c3] w (RetB (.tuple #[.string (bs (putHead h c0 c1 c2 c3)), .int .i64 0]) w) := by
  have hr : (0 ≤ h.id ∧ h.id ≤ 65535) ∧ (0 ≤ h.op ∧ h.op ≤ 15) ∧ (0 ≤ h.rc ∧ h.rc ≤ 15) := by simpa [Hd.ok, and_assoc] using hk
  obtain ⟨⟨i0, i1⟩, ⟨o0, o1⟩, ⟨r0, r1⟩⟩ := hr
  have i10 : ∀ w : World, (Instr.index 117 (.agg #[.int .i64 c0, .int .i64 c1, .int .i64 c2, .int .i64 c3]) (.int .i64 0)).run Try.prog w = .ok (.int .i64 c0) w := fun _ => by kernel_rfl
  have i11 : ∀ w : World, (Instr.index 117 (.agg #[.int .i64 c0, .int .i64 c1, .int .i64 c2, .int .i64 c3]) (.int .i64 1)).run Try.prog w = .ok (.int .i64 c1) w := fun _ => by kernel_rfl
  have i12 : ∀ w : World, (Instr.index 117 (.agg #[.int .i64 c0, .int .i64 c1, .int .i64 c2, .int .i64 c3]) (.int .i64 2)).run Try.prog w = .ok (.int .i64 c2) w := fun _ => by kernel_rfl
  have i13 : ∀ w : World, (Instr.index 117 (.agg #[.int .i64 c0, .int .i64 c1, .int .i64 c2, .int .i64 c3]) (.int .i64 3)).run Try.prog w = .ok (.int .i64 c3) w := fun _ => by kernel_rfl
  have HK := Lib.hid hk
  clear hk
  simp only [Hd.agg, cnts]
  go_enter Try.func67, Try.ntmps67
  go_wp2_with fail
  refine (check_any h _).mono ?_
  rw [HK.out]
  rintro e w1 ⟨rfl, b1⟩
  have k0 : Blk w1 w.heap.size 48 h.vals := ((Blk.new w _ h.vals).alloc _).below b1 (by simp; omega)
  have k1 : Blk w1 (w.heap.size + 1) 117 [.int .i64 c0, .int .i64 c1, .int .i64 c2, .int .i64 c3] := (Blk.new' _ _ [.int .i64 c0, .int .i64 c1, .int .i64 c2, .int .i64 c3] _ (by simp)).below b1 (by simp)
  have hB : Below w.heap.size w w1 := below_then (by go_grown) (by simp; omega) b1
  clear b1
  have e0 := k0.cell_ 0 rfl
  have e1 := k0.cell_ 1 rfl
  have e2 := k0.cell_ 2 rfl
  have e3 := k0.cell_ 3 rfl
  have e4 := k0.cell_ 4 rfl
  have e5 := k0.cell_ 5 rfl
  have e6 := k0.cell_ 6 rfl
  have e7 := k0.cell_ 7 rfl
  have e8 := k0.cell_ 8 rfl
  have e9 := k0.cell_ 9 rfl
  obtain ⟨l32768, m32768⟩ := bitw_le h.qr 32768 (by decide)
  obtain ⟨l1024, m1024⟩ := bitw_le h.aa 1024 (by decide)
  obtain ⟨l512, m512⟩ := bitw_le h.tc 512 (by decide)
  obtain ⟨l256, m256⟩ := bitw_le h.rd 256 (by decide)
  obtain ⟨l128, m128⟩ := bitw_le h.ra 128 (by decide)
  obtain ⟨l32, m32⟩ := bitw_le h.ad 32 (by decide)
  obtain ⟨l16, m16⟩ := bitw_le h.cd 16 (by decide)
  go_wp2_with fail
  go_quiet ((go_at_call 107; exact Ret.quiet (bit_any _ _ _)))
  obtain ⟨W, hW⟩ : ∃ W, W = w1.drewN nq := ⟨_, rfl⟩
  rw [← hW]
  have hBW : Below w.heap.size w W := hW ▸ below_drewN hB nq
  have k2 : Blk W (w.heap.size + 1) 117 [.int .i64 c0, .int .i64 c1, .int .i64 c2, .int .i64 c3] := hW ▸ k1.drewN nq
  have k3 : Blk W w.heap.size 48 h.vals := hW ▸ k0.drewN nq
  clear hW k0 k1 hB e0 e1 e2 e3 e4 e5 e6 e7 e8 e9 l32768 l1024 l512 l256 l128 l32 l16 m32768 m1024 m512 m256 m128 m32 m16
  clear w1
  have e0 := k3.cell_ 0 rfl
  rw [show bitw h.qr 32768 + h.op * 2048 + bitw h.aa 1024 + bitw h.tc 512 + bitw h.rd 256 + bitw h.ra 128 + bitw h.ad 32 + bitw h.cd 16 + h.rc = h.num from rfl]
  go_wp2_with fail
  refine (put_any _ _ _).mono ?_
  rintro e w2 ⟨rfl, b2⟩
  rw [show hw 2 = 2 from rfl]
  have hB2 := below_then hBW hBW.size b2
  go_wp2_with fail
  refine (put_any _ _ _).mono ?_
  rintro e w3 ⟨rfl, b3⟩
  rw [show hw 2 = 2 from rfl]
  have hB3 := below_then hB2 hB2.size b3
  have k4 := (k2.below b2 k2.lt)
  have k5 := k4.below b3 k4.lt
  have d0 := k5.cell_ 0 rfl
  have d1 := k5.cell_ 1 rfl
  have d2 := k5.cell_ 2 rfl
  have d3 := k5.cell_ 3 rfl
  have n0 := putB_length 2 h.id
  have n1 := putB_length 2 h.num
  generalize hp : putB 2 h.id = p at *
  generalize hq : putB 2 h.num = q at *
  have Hp := Lib.hid hp
  have Hq := Lib.hid hq
  have pl : p.length ≤ 2 := by omega
  have ql : q.length ≤ 2 := by omega
  clear hp hq n0 n1 k2 k3 k4 k5 e0 hBW hB2 b2 b3
  go_wp2_with fail
  refine wp_loop_rounds 5 ?_
  rw [rounds_succ]
  go_wp2_with fail
  refine (within_yes _ _ _ g0).mono ?_
  rintro e w' ⟨rfl, rfl⟩
  go_wp2_with fail
  refine (put_any _ _ _).mono ?_
  rintro e v0 ⟨rfl, a0⟩
  rw [show hw 2 = 2 from rfl]
  have hC0 := below_then hB3 hB3.size a0
  have z0 := putB_length 2 c0
  generalize hz0 : putB 2 c0 = y0 at *
  have Hz0 := Lib.hid hz0
  have yl0 : y0.length ≤ 2 := by omega
  clear hz0 z0
  go_wp2_with fail
  rw [rounds_succ]
  go_wp2_with fail
  refine (within_yes _ _ _ g1).mono ?_
  rintro e w' ⟨rfl, rfl⟩
  go_wp2_with fail
  refine (put_any _ _ _).mono ?_
  rintro e v1 ⟨rfl, a1⟩
  rw [show hw 2 = 2 from rfl]
  have hC1 := below_then hC0 hC0.size a1
  have z1 := putB_length 2 c1
  generalize hz1 : putB 2 c1 = y1 at *
  have Hz1 := Lib.hid hz1
  have yl1 : y1.length ≤ 2 := by omega
  clear hz1 z1
  go_wp2_with fail
  rw [rounds_succ]
  go_wp2_with fail
  refine (within_yes _ _ _ g2).mono ?_
  rintro e w' ⟨rfl, rfl⟩
  go_wp2_with fail
  refine (put_any _ _ _).mono ?_
  rintro e v2 ⟨rfl, a2⟩
  rw [show hw 2 = 2 from rfl]
  have hC2 := below_then hC1 hC1.size a2
  have z2 := putB_length 2 c2
  generalize hz2 : putB 2 c2 = y2 at *
  have Hz2 := Lib.hid hz2
  have yl2 : y2.length ≤ 2 := by omega
  clear hz2 z2
  go_wp2_with fail
  rw [rounds_succ]
  go_wp2_with fail
  refine (within_yes _ _ _ g3).mono ?_
  rintro e w' ⟨rfl, rfl⟩
  go_wp2_with fail
  refine (put_any _ _ _).mono ?_
  rintro e v3 ⟨rfl, a3⟩
  rw [show hw 2 = 2 from rfl]
  have hC3 := below_then hC2 hC2.size a3
  have z3 := putB_length 2 c3
  generalize hz3 : putB 2 c3 = y3 at *
  have Hz3 := Lib.hid hz3
  have yl3 : y3.length ≤ 2 := by omega
  clear hz3 z3
  go_wp2_with fail
  rw [rounds_succ]
  go_wp2_with fail
  go_ret2
  refine RetB.mk ?_ hC3
  simp only [putHead, Hp.out, Hq.out, Hz0.out, Hz1.out, Hz2.out, Hz3.out, List.append_assoc]
  rfl

set_option maxHeartbeats 1000000 in
theorem headPut_bad0 (h : Hd) (c0 c1 c2 c3 : Int) (w : World) (hk : h.ok = true) (g0 : ¬ (0 ≤ c0 ∧ c0 ≤ 65535)) :
    Calls Try.prog 67 #[h.agg, cnts c0 c1 c2 c3] w (RetB (.tuple #[.string (bs []), .int .i64 4]) w) := by
  have hr : (0 ≤ h.id ∧ h.id ≤ 65535) ∧ (0 ≤ h.op ∧ h.op ≤ 15) ∧ (0 ≤ h.rc ∧ h.rc ≤ 15) := by simpa [Hd.ok, and_assoc] using hk
  obtain ⟨⟨i0, i1⟩, ⟨o0, o1⟩, ⟨r0, r1⟩⟩ := hr
  have i10 : ∀ w : World, (Instr.index 117 (.agg #[.int .i64 c0, .int .i64 c1, .int .i64 c2, .int .i64 c3]) (.int .i64 0)).run Try.prog w = .ok (.int .i64 c0) w := fun _ => by kernel_rfl
  have i11 : ∀ w : World, (Instr.index 117 (.agg #[.int .i64 c0, .int .i64 c1, .int .i64 c2, .int .i64 c3]) (.int .i64 1)).run Try.prog w = .ok (.int .i64 c1) w := fun _ => by kernel_rfl
  have i12 : ∀ w : World, (Instr.index 117 (.agg #[.int .i64 c0, .int .i64 c1, .int .i64 c2, .int .i64 c3]) (.int .i64 2)).run Try.prog w = .ok (.int .i64 c2) w := fun _ => by kernel_rfl
  have i13 : ∀ w : World, (Instr.index 117 (.agg #[.int .i64 c0, .int .i64 c1, .int .i64 c2, .int .i64 c3]) (.int .i64 3)).run Try.prog w = .ok (.int .i64 c3) w := fun _ => by kernel_rfl
  have HK := Lib.hid hk
  clear hk
  simp only [Hd.agg, cnts]
  go_enter Try.func67, Try.ntmps67
  go_wp2_with fail
  refine (check_any h _).mono ?_
  rw [HK.out]
  rintro e w1 ⟨rfl, b1⟩
  have k0 : Blk w1 w.heap.size 48 h.vals := ((Blk.new w _ h.vals).alloc _).below b1 (by simp; omega)
  have k1 : Blk w1 (w.heap.size + 1) 117 [.int .i64 c0, .int .i64 c1, .int .i64 c2, .int .i64 c3] := (Blk.new' _ _ [.int .i64 c0, .int .i64 c1, .int .i64 c2, .int .i64 c3] _ (by simp)).below b1 (by simp)
  have hB : Below w.heap.size w w1 := below_then (by go_grown) (by simp; omega) b1
  clear b1
  have e0 := k0.cell_ 0 rfl
  have e1 := k0.cell_ 1 rfl
  have e2 := k0.cell_ 2 rfl
  have e3 := k0.cell_ 3 rfl
  have e4 := k0.cell_ 4 rfl
  have e5 := k0.cell_ 5 rfl
  have e6 := k0.cell_ 6 rfl
  have e7 := k0.cell_ 7 rfl
  have e8 := k0.cell_ 8 rfl
  have e9 := k0.cell_ 9 rfl
  obtain ⟨l32768, m32768⟩ := bitw_le h.qr 32768 (by decide)
  obtain ⟨l1024, m1024⟩ := bitw_le h.aa 1024 (by decide)
  obtain ⟨l512, m512⟩ := bitw_le h.tc 512 (by decide)
  obtain ⟨l256, m256⟩ := bitw_le h.rd 256 (by decide)
  obtain ⟨l128, m128⟩ := bitw_le h.ra 128 (by decide)
  obtain ⟨l32, m32⟩ := bitw_le h.ad 32 (by decide)
  obtain ⟨l16, m16⟩ := bitw_le h.cd 16 (by decide)
  go_wp2_with fail
  go_quiet ((go_at_call 107; exact Ret.quiet (bit_any _ _ _)))
  obtain ⟨W, hW⟩ : ∃ W, W = w1.drewN nq := ⟨_, rfl⟩
  rw [← hW]
  have hBW : Below w.heap.size w W := hW ▸ below_drewN hB nq
  have k2 : Blk W (w.heap.size + 1) 117 [.int .i64 c0, .int .i64 c1, .int .i64 c2, .int .i64 c3] := hW ▸ k1.drewN nq
  have k3 : Blk W w.heap.size 48 h.vals := hW ▸ k0.drewN nq
  clear hW k0 k1 hB e0 e1 e2 e3 e4 e5 e6 e7 e8 e9 l32768 l1024 l512 l256 l128 l32 l16 m32768 m1024 m512 m256 m128 m32 m16
  clear w1
  have e0 := k3.cell_ 0 rfl
  rw [show bitw h.qr 32768 + h.op * 2048 + bitw h.aa 1024 + bitw h.tc 512 + bitw h.rd 256 + bitw h.ra 128 + bitw h.ad 32 + bitw h.cd 16 + h.rc = h.num from rfl]
  go_wp2_with fail
  refine (put_any _ _ _).mono ?_
  rintro e w2 ⟨rfl, b2⟩
  rw [show hw 2 = 2 from rfl]
  have hB2 := below_then hBW hBW.size b2
  go_wp2_with fail
  refine (put_any _ _ _).mono ?_
  rintro e w3 ⟨rfl, b3⟩
  rw [show hw 2 = 2 from rfl]
  have hB3 := below_then hB2 hB2.size b3
  have k4 := (k2.below b2 k2.lt)
  have k5 := k4.below b3 k4.lt
  have d0 := k5.cell_ 0 rfl
  have d1 := k5.cell_ 1 rfl
  have d2 := k5.cell_ 2 rfl
  have d3 := k5.cell_ 3 rfl
  have n0 := putB_length 2 h.id
  have n1 := putB_length 2 h.num
  generalize hp : putB 2 h.id = p at *
  generalize hq : putB 2 h.num = q at *
  have Hp := Lib.hid hp
  have Hq := Lib.hid hq
  have pl : p.length ≤ 2 := by omega
  have ql : q.length ≤ 2 := by omega
  clear hp hq n0 n1 k2 k3 k4 k5 e0 hBW hB2 b2 b3
  go_wp2_with fail
  refine wp_loop_rounds 5 ?_
  rw [rounds_succ]
  go_wp2_with fail
  refine (within_no _ _ _ g0).mono ?_
  rintro e w' ⟨rfl, rfl⟩
  go_wp2_with fail
  go_ret2
  exact RetB.mk rfl hB3

set_option maxHeartbeats 1000000 in
theorem headPut_bad1 (h : Hd) (c0 c1 c2 c3 : Int) (w : World) (hk : h.ok = true) (g0 : 0 ≤ c0 ∧ c0 ≤ 65535) (g1 : ¬ (0 ≤ c1 ∧ c1 ≤ 65535)) :
    Calls Try.prog 67 #[h.agg, cnts c0 c1 c2 c3] w (RetB (.tuple #[.string (bs []), .int .i64 4]) w) := by
  have hr : (0 ≤ h.id ∧ h.id ≤ 65535) ∧ (0 ≤ h.op ∧ h.op ≤ 15) ∧ (0 ≤ h.rc ∧ h.rc ≤ 15) := by simpa [Hd.ok, and_assoc] using hk
  obtain ⟨⟨i0, i1⟩, ⟨o0, o1⟩, ⟨r0, r1⟩⟩ := hr
  have i10 : ∀ w : World, (Instr.index 117 (.agg #[.int .i64 c0, .int .i64 c1, .int .i64 c2, .int .i64 c3]) (.int .i64 0)).run Try.prog w = .ok (.int .i64 c0) w := fun _ => by kernel_rfl
  have i11 : ∀ w : World, (Instr.index 117 (.agg #[.int .i64 c0, .int .i64 c1, .int .i64 c2, .int .i64 c3]) (.int .i64 1)).run Try.prog w = .ok (.int .i64 c1) w := fun _ => by kernel_rfl
  have i12 : ∀ w : World, (Instr.index 117 (.agg #[.int .i64 c0, .int .i64 c1, .int .i64 c2, .int .i64 c3]) (.int .i64 2)).run Try.prog w = .ok (.int .i64 c2) w := fun _ => by kernel_rfl
  have i13 : ∀ w : World, (Instr.index 117 (.agg #[.int .i64 c0, .int .i64 c1, .int .i64 c2, .int .i64 c3]) (.int .i64 3)).run Try.prog w = .ok (.int .i64 c3) w := fun _ => by kernel_rfl
  have HK := Lib.hid hk
  clear hk
  simp only [Hd.agg, cnts]
  go_enter Try.func67, Try.ntmps67
  go_wp2_with fail
  refine (check_any h _).mono ?_
  rw [HK.out]
  rintro e w1 ⟨rfl, b1⟩
  have k0 : Blk w1 w.heap.size 48 h.vals := ((Blk.new w _ h.vals).alloc _).below b1 (by simp; omega)
  have k1 : Blk w1 (w.heap.size + 1) 117 [.int .i64 c0, .int .i64 c1, .int .i64 c2, .int .i64 c3] := (Blk.new' _ _ [.int .i64 c0, .int .i64 c1, .int .i64 c2, .int .i64 c3] _ (by simp)).below b1 (by simp)
  have hB : Below w.heap.size w w1 := below_then (by go_grown) (by simp; omega) b1
  clear b1
  have e0 := k0.cell_ 0 rfl
  have e1 := k0.cell_ 1 rfl
  have e2 := k0.cell_ 2 rfl
  have e3 := k0.cell_ 3 rfl
  have e4 := k0.cell_ 4 rfl
  have e5 := k0.cell_ 5 rfl
  have e6 := k0.cell_ 6 rfl
  have e7 := k0.cell_ 7 rfl
  have e8 := k0.cell_ 8 rfl
  have e9 := k0.cell_ 9 rfl
  obtain ⟨l32768, m32768⟩ := bitw_le h.qr 32768 (by decide)
  obtain ⟨l1024, m1024⟩ := bitw_le h.aa 1024 (by decide)
  obtain ⟨l512, m512⟩ := bitw_le h.tc 512 (by decide)
  obtain ⟨l256, m256⟩ := bitw_le h.rd 256 (by decide)
  obtain ⟨l128, m128⟩ := bitw_le h.ra 128 (by decide)
  obtain ⟨l32, m32⟩ := bitw_le h.ad 32 (by decide)
  obtain ⟨l16, m16⟩ := bitw_le h.cd 16 (by decide)
  go_wp2_with fail
  go_quiet ((go_at_call 107; exact Ret.quiet (bit_any _ _ _)))
  obtain ⟨W, hW⟩ : ∃ W, W = w1.drewN nq := ⟨_, rfl⟩
  rw [← hW]
  have hBW : Below w.heap.size w W := hW ▸ below_drewN hB nq
  have k2 : Blk W (w.heap.size + 1) 117 [.int .i64 c0, .int .i64 c1, .int .i64 c2, .int .i64 c3] := hW ▸ k1.drewN nq
  have k3 : Blk W w.heap.size 48 h.vals := hW ▸ k0.drewN nq
  clear hW k0 k1 hB e0 e1 e2 e3 e4 e5 e6 e7 e8 e9 l32768 l1024 l512 l256 l128 l32 l16 m32768 m1024 m512 m256 m128 m32 m16
  clear w1
  have e0 := k3.cell_ 0 rfl
  rw [show bitw h.qr 32768 + h.op * 2048 + bitw h.aa 1024 + bitw h.tc 512 + bitw h.rd 256 + bitw h.ra 128 + bitw h.ad 32 + bitw h.cd 16 + h.rc = h.num from rfl]
  go_wp2_with fail
  refine (put_any _ _ _).mono ?_
  rintro e w2 ⟨rfl, b2⟩
  rw [show hw 2 = 2 from rfl]
  have hB2 := below_then hBW hBW.size b2
  go_wp2_with fail
  refine (put_any _ _ _).mono ?_
  rintro e w3 ⟨rfl, b3⟩
  rw [show hw 2 = 2 from rfl]
  have hB3 := below_then hB2 hB2.size b3
  have k4 := (k2.below b2 k2.lt)
  have k5 := k4.below b3 k4.lt
  have d0 := k5.cell_ 0 rfl
  have d1 := k5.cell_ 1 rfl
  have d2 := k5.cell_ 2 rfl
  have d3 := k5.cell_ 3 rfl
  have n0 := putB_length 2 h.id
  have n1 := putB_length 2 h.num
  generalize hp : putB 2 h.id = p at *
  generalize hq : putB 2 h.num = q at *
  have Hp := Lib.hid hp
  have Hq := Lib.hid hq
  have pl : p.length ≤ 2 := by omega
  have ql : q.length ≤ 2 := by omega
  clear hp hq n0 n1 k2 k3 k4 k5 e0 hBW hB2 b2 b3
  go_wp2_with fail
  refine wp_loop_rounds 5 ?_
  rw [rounds_succ]
  go_wp2_with fail
  refine (within_yes _ _ _ g0).mono ?_
  rintro e w' ⟨rfl, rfl⟩
  go_wp2_with fail
  refine (put_any _ _ _).mono ?_
  rintro e v0 ⟨rfl, a0⟩
  rw [show hw 2 = 2 from rfl]
  have hC0 := below_then hB3 hB3.size a0
  have z0 := putB_length 2 c0
  generalize hz0 : putB 2 c0 = y0 at *
  have Hz0 := Lib.hid hz0
  have yl0 : y0.length ≤ 2 := by omega
  clear hz0 z0
  go_wp2_with fail
  rw [rounds_succ]
  go_wp2_with fail
  refine (within_no _ _ _ g1).mono ?_
  rintro e w' ⟨rfl, rfl⟩
  go_wp2_with fail
  go_ret2
  exact RetB.mk rfl hC0

set_option maxHeartbeats 1000000 in
theorem headPut_bad2 (h : Hd) (c0 c1 c2 c3 : Int) (w : World) (hk : h.ok = true) (g0 : 0 ≤ c0 ∧ c0 ≤ 65535) (g1 : 0 ≤ c1 ∧ c1 ≤ 65535) (g2 : ¬ (0 ≤ c2 ∧ c2 ≤ 65535)) :
    Calls Try.prog 67 #[h.agg, cnts c0 c1 c2 c3] w (RetB (.tuple #[.string (bs []), .int .i64 4]) w) := by
  have hr : (0 ≤ h.id ∧ h.id ≤ 65535) ∧ (0 ≤ h.op ∧ h.op ≤ 15) ∧ (0 ≤ h.rc ∧ h.rc ≤ 15) := by simpa [Hd.ok, and_assoc] using hk
  obtain ⟨⟨i0, i1⟩, ⟨o0, o1⟩, ⟨r0, r1⟩⟩ := hr
  have i10 : ∀ w : World, (Instr.index 117 (.agg #[.int .i64 c0, .int .i64 c1, .int .i64 c2, .int .i64 c3]) (.int .i64 0)).run Try.prog w = .ok (.int .i64 c0) w := fun _ => by kernel_rfl
  have i11 : ∀ w : World, (Instr.index 117 (.agg #[.int .i64 c0, .int .i64 c1, .int .i64 c2, .int .i64 c3]) (.int .i64 1)).run Try.prog w = .ok (.int .i64 c1) w := fun _ => by kernel_rfl
  have i12 : ∀ w : World, (Instr.index 117 (.agg #[.int .i64 c0, .int .i64 c1, .int .i64 c2, .int .i64 c3]) (.int .i64 2)).run Try.prog w = .ok (.int .i64 c2) w := fun _ => by kernel_rfl
  have i13 : ∀ w : World, (Instr.index 117 (.agg #[.int .i64 c0, .int .i64 c1, .int .i64 c2, .int .i64 c3]) (.int .i64 3)).run Try.prog w = .ok (.int .i64 c3) w := fun _ => by kernel_rfl
  have HK := Lib.hid hk
  clear hk
  simp only [Hd.agg, cnts]
  go_enter Try.func67, Try.ntmps67
  go_wp2_with fail
  refine (check_any h _).mono ?_
  rw [HK.out]
  rintro e w1 ⟨rfl, b1⟩
  have k0 : Blk w1 w.heap.size 48 h.vals := ((Blk.new w _ h.vals).alloc _).below b1 (by simp; omega)
  have k1 : Blk w1 (w.heap.size + 1) 117 [.int .i64 c0, .int .i64 c1, .int .i64 c2, .int .i64 c3] := (Blk.new' _ _ [.int .i64 c0, .int .i64 c1, .int .i64 c2, .int .i64 c3] _ (by simp)).below b1 (by simp)
  have hB : Below w.heap.size w w1 := below_then (by go_grown) (by simp; omega) b1
  clear b1
  have e0 := k0.cell_ 0 rfl
  have e1 := k0.cell_ 1 rfl
  have e2 := k0.cell_ 2 rfl
  have e3 := k0.cell_ 3 rfl
  have e4 := k0.cell_ 4 rfl
  have e5 := k0.cell_ 5 rfl
  have e6 := k0.cell_ 6 rfl
  have e7 := k0.cell_ 7 rfl
  have e8 := k0.cell_ 8 rfl
  have e9 := k0.cell_ 9 rfl
  obtain ⟨l32768, m32768⟩ := bitw_le h.qr 32768 (by decide)
  obtain ⟨l1024, m1024⟩ := bitw_le h.aa 1024 (by decide)
  obtain ⟨l512, m512⟩ := bitw_le h.tc 512 (by decide)
  obtain ⟨l256, m256⟩ := bitw_le h.rd 256 (by decide)
  obtain ⟨l128, m128⟩ := bitw_le h.ra 128 (by decide)
  obtain ⟨l32, m32⟩ := bitw_le h.ad 32 (by decide)
  obtain ⟨l16, m16⟩ := bitw_le h.cd 16 (by decide)
  go_wp2_with fail
  go_quiet ((go_at_call 107; exact Ret.quiet (bit_any _ _ _)))
  obtain ⟨W, hW⟩ : ∃ W, W = w1.drewN nq := ⟨_, rfl⟩
  rw [← hW]
  have hBW : Below w.heap.size w W := hW ▸ below_drewN hB nq
  have k2 : Blk W (w.heap.size + 1) 117 [.int .i64 c0, .int .i64 c1, .int .i64 c2, .int .i64 c3] := hW ▸ k1.drewN nq
  have k3 : Blk W w.heap.size 48 h.vals := hW ▸ k0.drewN nq
  clear hW k0 k1 hB e0 e1 e2 e3 e4 e5 e6 e7 e8 e9 l32768 l1024 l512 l256 l128 l32 l16 m32768 m1024 m512 m256 m128 m32 m16
  clear w1
  have e0 := k3.cell_ 0 rfl
  rw [show bitw h.qr 32768 + h.op * 2048 + bitw h.aa 1024 + bitw h.tc 512 + bitw h.rd 256 + bitw h.ra 128 + bitw h.ad 32 + bitw h.cd 16 + h.rc = h.num from rfl]
  go_wp2_with fail
  refine (put_any _ _ _).mono ?_
  rintro e w2 ⟨rfl, b2⟩
  rw [show hw 2 = 2 from rfl]
  have hB2 := below_then hBW hBW.size b2
  go_wp2_with fail
  refine (put_any _ _ _).mono ?_
  rintro e w3 ⟨rfl, b3⟩
  rw [show hw 2 = 2 from rfl]
  have hB3 := below_then hB2 hB2.size b3
  have k4 := (k2.below b2 k2.lt)
  have k5 := k4.below b3 k4.lt
  have d0 := k5.cell_ 0 rfl
  have d1 := k5.cell_ 1 rfl
  have d2 := k5.cell_ 2 rfl
  have d3 := k5.cell_ 3 rfl
  have n0 := putB_length 2 h.id
  have n1 := putB_length 2 h.num
  generalize hp : putB 2 h.id = p at *
  generalize hq : putB 2 h.num = q at *
  have Hp := Lib.hid hp
  have Hq := Lib.hid hq
  have pl : p.length ≤ 2 := by omega
  have ql : q.length ≤ 2 := by omega
  clear hp hq n0 n1 k2 k3 k4 k5 e0 hBW hB2 b2 b3
  go_wp2_with fail
  refine wp_loop_rounds 5 ?_
  rw [rounds_succ]
  go_wp2_with fail
  refine (within_yes _ _ _ g0).mono ?_
  rintro e w' ⟨rfl, rfl⟩
  go_wp2_with fail
  refine (put_any _ _ _).mono ?_
  rintro e v0 ⟨rfl, a0⟩
  rw [show hw 2 = 2 from rfl]
  have hC0 := below_then hB3 hB3.size a0
  have z0 := putB_length 2 c0
  generalize hz0 : putB 2 c0 = y0 at *
  have Hz0 := Lib.hid hz0
  have yl0 : y0.length ≤ 2 := by omega
  clear hz0 z0
  go_wp2_with fail
  rw [rounds_succ]
  go_wp2_with fail
  refine (within_yes _ _ _ g1).mono ?_
  rintro e w' ⟨rfl, rfl⟩
  go_wp2_with fail
  refine (put_any _ _ _).mono ?_
  rintro e v1 ⟨rfl, a1⟩
  rw [show hw 2 = 2 from rfl]
  have hC1 := below_then hC0 hC0.size a1
  have z1 := putB_length 2 c1
  generalize hz1 : putB 2 c1 = y1 at *
  have Hz1 := Lib.hid hz1
  have yl1 : y1.length ≤ 2 := by omega
  clear hz1 z1
  go_wp2_with fail
  rw [rounds_succ]
  go_wp2_with fail
  refine (within_no _ _ _ g2).mono ?_
  rintro e w' ⟨rfl, rfl⟩
  go_wp2_with fail
  go_ret2
  exact RetB.mk rfl hC1

set_option maxHeartbeats 1000000 in
theorem headPut_bad3 (h : Hd) (c0 c1 c2 c3 : Int) (w : World) (hk : h.ok = true) (g0 : 0 ≤ c0 ∧ c0 ≤ 65535) (g1 : 0 ≤ c1 ∧ c1 ≤ 65535) (g2 : 0 ≤ c2 ∧ c2 ≤ 65535) (g3 : ¬ (0 ≤ c3 ∧ c3 ≤ 65535)) :
    Calls Try.prog 67 #[h.agg, cnts c0 c1 c2 c3] w (RetB (.tuple #[.string (bs []), .int .i64 4]) w) := by
  have hr : (0 ≤ h.id ∧ h.id ≤ 65535) ∧ (0 ≤ h.op ∧ h.op ≤ 15) ∧ (0 ≤ h.rc ∧ h.rc ≤ 15) := by simpa [Hd.ok, and_assoc] using hk
  obtain ⟨⟨i0, i1⟩, ⟨o0, o1⟩, ⟨r0, r1⟩⟩ := hr
  have i10 : ∀ w : World, (Instr.index 117 (.agg #[.int .i64 c0, .int .i64 c1, .int .i64 c2, .int .i64 c3]) (.int .i64 0)).run Try.prog w = .ok (.int .i64 c0) w := fun _ => by kernel_rfl
  have i11 : ∀ w : World, (Instr.index 117 (.agg #[.int .i64 c0, .int .i64 c1, .int .i64 c2, .int .i64 c3]) (.int .i64 1)).run Try.prog w = .ok (.int .i64 c1) w := fun _ => by kernel_rfl
  have i12 : ∀ w : World, (Instr.index 117 (.agg #[.int .i64 c0, .int .i64 c1, .int .i64 c2, .int .i64 c3]) (.int .i64 2)).run Try.prog w = .ok (.int .i64 c2) w := fun _ => by kernel_rfl
  have i13 : ∀ w : World, (Instr.index 117 (.agg #[.int .i64 c0, .int .i64 c1, .int .i64 c2, .int .i64 c3]) (.int .i64 3)).run Try.prog w = .ok (.int .i64 c3) w := fun _ => by kernel_rfl
  have HK := Lib.hid hk
  clear hk
  simp only [Hd.agg, cnts]
  go_enter Try.func67, Try.ntmps67
  go_wp2_with fail
  refine (check_any h _).mono ?_
  rw [HK.out]
  rintro e w1 ⟨rfl, b1⟩
  have k0 : Blk w1 w.heap.size 48 h.vals := ((Blk.new w _ h.vals).alloc _).below b1 (by simp; omega)
  have k1 : Blk w1 (w.heap.size + 1) 117 [.int .i64 c0, .int .i64 c1, .int .i64 c2, .int .i64 c3] := (Blk.new' _ _ [.int .i64 c0, .int .i64 c1, .int .i64 c2, .int .i64 c3] _ (by simp)).below b1 (by simp)
  have hB : Below w.heap.size w w1 := below_then (by go_grown) (by simp; omega) b1
  clear b1
  have e0 := k0.cell_ 0 rfl
  have e1 := k0.cell_ 1 rfl
  have e2 := k0.cell_ 2 rfl
  have e3 := k0.cell_ 3 rfl
  have e4 := k0.cell_ 4 rfl
  have e5 := k0.cell_ 5 rfl
  have e6 := k0.cell_ 6 rfl
  have e7 := k0.cell_ 7 rfl
  have e8 := k0.cell_ 8 rfl
  have e9 := k0.cell_ 9 rfl
  obtain ⟨l32768, m32768⟩ := bitw_le h.qr 32768 (by decide)
  obtain ⟨l1024, m1024⟩ := bitw_le h.aa 1024 (by decide)
  obtain ⟨l512, m512⟩ := bitw_le h.tc 512 (by decide)
  obtain ⟨l256, m256⟩ := bitw_le h.rd 256 (by decide)
  obtain ⟨l128, m128⟩ := bitw_le h.ra 128 (by decide)
  obtain ⟨l32, m32⟩ := bitw_le h.ad 32 (by decide)
  obtain ⟨l16, m16⟩ := bitw_le h.cd 16 (by decide)
  go_wp2_with fail
  go_quiet ((go_at_call 107; exact Ret.quiet (bit_any _ _ _)))
  obtain ⟨W, hW⟩ : ∃ W, W = w1.drewN nq := ⟨_, rfl⟩
  rw [← hW]
  have hBW : Below w.heap.size w W := hW ▸ below_drewN hB nq
  have k2 : Blk W (w.heap.size + 1) 117 [.int .i64 c0, .int .i64 c1, .int .i64 c2, .int .i64 c3] := hW ▸ k1.drewN nq
  have k3 : Blk W w.heap.size 48 h.vals := hW ▸ k0.drewN nq
  clear hW k0 k1 hB e0 e1 e2 e3 e4 e5 e6 e7 e8 e9 l32768 l1024 l512 l256 l128 l32 l16 m32768 m1024 m512 m256 m128 m32 m16
  clear w1
  have e0 := k3.cell_ 0 rfl
  rw [show bitw h.qr 32768 + h.op * 2048 + bitw h.aa 1024 + bitw h.tc 512 + bitw h.rd 256 + bitw h.ra 128 + bitw h.ad 32 + bitw h.cd 16 + h.rc = h.num from rfl]
  go_wp2_with fail
  refine (put_any _ _ _).mono ?_
  rintro e w2 ⟨rfl, b2⟩
  rw [show hw 2 = 2 from rfl]
  have hB2 := below_then hBW hBW.size b2
  go_wp2_with fail
  refine (put_any _ _ _).mono ?_
  rintro e w3 ⟨rfl, b3⟩
  rw [show hw 2 = 2 from rfl]
  have hB3 := below_then hB2 hB2.size b3
  have k4 := (k2.below b2 k2.lt)
  have k5 := k4.below b3 k4.lt
  have d0 := k5.cell_ 0 rfl
  have d1 := k5.cell_ 1 rfl
  have d2 := k5.cell_ 2 rfl
  have d3 := k5.cell_ 3 rfl
  have n0 := putB_length 2 h.id
  have n1 := putB_length 2 h.num
  generalize hp : putB 2 h.id = p at *
  generalize hq : putB 2 h.num = q at *
  have Hp := Lib.hid hp
  have Hq := Lib.hid hq
  have pl : p.length ≤ 2 := by omega
  have ql : q.length ≤ 2 := by omega
  clear hp hq n0 n1 k2 k3 k4 k5 e0 hBW hB2 b2 b3
  go_wp2_with fail
  refine wp_loop_rounds 5 ?_
  rw [rounds_succ]
  go_wp2_with fail
  refine (within_yes _ _ _ g0).mono ?_
  rintro e w' ⟨rfl, rfl⟩
  go_wp2_with fail
  refine (put_any _ _ _).mono ?_
  rintro e v0 ⟨rfl, a0⟩
  rw [show hw 2 = 2 from rfl]
  have hC0 := below_then hB3 hB3.size a0
  have z0 := putB_length 2 c0
  generalize hz0 : putB 2 c0 = y0 at *
  have Hz0 := Lib.hid hz0
  have yl0 : y0.length ≤ 2 := by omega
  clear hz0 z0
  go_wp2_with fail
  rw [rounds_succ]
  go_wp2_with fail
  refine (within_yes _ _ _ g1).mono ?_
  rintro e w' ⟨rfl, rfl⟩
  go_wp2_with fail
  refine (put_any _ _ _).mono ?_
  rintro e v1 ⟨rfl, a1⟩
  rw [show hw 2 = 2 from rfl]
  have hC1 := below_then hC0 hC0.size a1
  have z1 := putB_length 2 c1
  generalize hz1 : putB 2 c1 = y1 at *
  have Hz1 := Lib.hid hz1
  have yl1 : y1.length ≤ 2 := by omega
  clear hz1 z1
  go_wp2_with fail
  rw [rounds_succ]
  go_wp2_with fail
  refine (within_yes _ _ _ g2).mono ?_
  rintro e w' ⟨rfl, rfl⟩
  go_wp2_with fail
  refine (put_any _ _ _).mono ?_
  rintro e v2 ⟨rfl, a2⟩
  rw [show hw 2 = 2 from rfl]
  have hC2 := below_then hC1 hC1.size a2
  have z2 := putB_length 2 c2
  generalize hz2 : putB 2 c2 = y2 at *
  have Hz2 := Lib.hid hz2
  have yl2 : y2.length ≤ 2 := by omega
  clear hz2 z2
  go_wp2_with fail
  rw [rounds_succ]
  go_wp2_with fail
  refine (within_no _ _ _ g3).mono ?_
  rintro e w' ⟨rfl, rfl⟩
  go_wp2_with fail
  go_ret2
  exact RetB.mk rfl hC2

/-- What Put comes to. -/
def putRes (h : Hd) (c0 c1 c2 c3 : Int) : List UInt8 × Int :=
  if h.ok = true ∧ (0 ≤ c0 ∧ c0 ≤ 65535) ∧ (0 ≤ c1 ∧ c1 ≤ 65535) ∧ (0 ≤ c2 ∧ c2 ≤ 65535) ∧ (0 ≤ c3 ∧ c3 ≤ 65535) then (putHead h c0 c1 c2 c3, 0) else ([], 4)
theorem headPut_any (h : Hd) (c0 c1 c2 c3 : Int) (w : World) :
    Calls Try.prog 67 #[h.agg, cnts c0 c1 c2 c3] w (RetB (.tuple #[.string (bs (putRes h c0 c1 c2 c3).1), .int .i64 (putRes h c0 c1 c2 c3).2]) w) := by
  unfold putRes
  cases hk : h.ok with
  | false => rw [if_neg (by simp)]; exact headPut_bad h c0 c1 c2 c3 w hk
  | true =>
    by_cases g0 : 0 ≤ c0 ∧ c0 ≤ 65535
    · by_cases g1 : 0 ≤ c1 ∧ c1 ≤ 65535
      · by_cases g2 : 0 ≤ c2 ∧ c2 ≤ 65535
        · by_cases g3 : 0 ≤ c3 ∧ c3 ≤ 65535
          · rw [if_pos ⟨rfl, g0, g1, g2, g3⟩]; exact headPut_ok h c0 c1 c2 c3 w hk g0 g1 g2 g3
          · rw [if_neg (fun hh => g3 hh.2.2.2.2)]; exact headPut_bad3 h c0 c1 c2 c3 w hk g0 g1 g2 g3
        · rw [if_neg (fun hh => g2 hh.2.2.2.1)]; exact headPut_bad2 h c0 c1 c2 c3 w hk g0 g1 g2
      · rw [if_neg (fun hh => g1 hh.2.2.1)]; exact headPut_bad1 h c0 c1 c2 c3 w hk g0 g1
    · rw [if_neg (fun hh => g0 hh.2.1)]; exact headPut_bad0 h c0 c1 c2 c3 w hk g0
end Go.Proofs.Ytlmgdogblbigpaa
/-
  Layer 11 (head): a head put in octets: the reference's Put.
-/
namespace Go.Proofs.Ytlmgdogblbigpaa
open Go.RowKit
set_option maxRecDepth 100000

theorem refHeadPut_bad0 (h : Hd) (c0 c1 c2 c3 : Int) (w : World) (g0 : ¬ (0 ≤ c0 ∧ c0 ≤ 65535)) :
    Calls Try.prog 72 #[h.agg, cnts c0 c1 c2 c3] w (RetB (.tuple #[.string (bs []), .int .i64 4]) w) := by
  simp only [Hd.agg, cnts]
  by_cases gz : c0 < 0
  all_goals
    have gy : c0 < 0 ∨ 65535 < c0 := by omega
    go_enter Try.func72, Try.ntmps72
    go_wp2_with fail
    refine wp_loop_rounds 5 ?_
    rw [rounds_succ]
    go_wp2_with fail
    go_ret2
    exact RetB.mk rfl (by go_grown)
theorem refHeadPut_bad1 (h : Hd) (c0 c1 c2 c3 : Int) (w : World) (g0 : 0 ≤ c0 ∧ c0 ≤ 65535) (g1 : ¬ (0 ≤ c1 ∧ c1 ≤ 65535)) :
    Calls Try.prog 72 #[h.agg, cnts c0 c1 c2 c3] w (RetB (.tuple #[.string (bs []), .int .i64 4]) w) := by
  obtain ⟨g0a, g0b⟩ := g0
  simp only [Hd.agg, cnts]
  by_cases gz : c1 < 0
  all_goals
    have gy : c1 < 0 ∨ 65535 < c1 := by omega
    go_enter Try.func72, Try.ntmps72
    go_wp2_with fail
    refine wp_loop_rounds 5 ?_
    rw [rounds_succ]
    go_wp2_with fail
    rw [rounds_succ]
    go_wp2_with fail
    go_ret2
    exact RetB.mk rfl (by go_grown)
theorem refHeadPut_bad2 (h : Hd) (c0 c1 c2 c3 : Int) (w : World) (g0 : 0 ≤ c0 ∧ c0 ≤ 65535) (g1 : 0 ≤ c1 ∧ c1 ≤ 65535) (g2 : ¬ (0 ≤ c2 ∧ c2 ≤ 65535)) :
    Calls Try.prog 72 #[h.agg, cnts c0 c1 c2 c3] w (RetB (.tuple #[.string (bs []), .int .i64 4]) w) := by
  obtain ⟨g0a, g0b⟩ := g0
  obtain ⟨g1a, g1b⟩ := g1
  simp only [Hd.agg, cnts]
  by_cases gz : c2 < 0
  all_goals
    have gy : c2 < 0 ∨ 65535 < c2 := by omega
    go_enter Try.func72, Try.ntmps72
    go_wp2_with fail
    refine wp_loop_rounds 5 ?_
    rw [rounds_succ]
    go_wp2_with fail
    rw [rounds_succ]
    go_wp2_with fail
    rw [rounds_succ]
    go_wp2_with fail
    go_ret2
    exact RetB.mk rfl (by go_grown)
theorem refHeadPut_bad3 (h : Hd) (c0 c1 c2 c3 : Int) (w : World) (g0 : 0 ≤ c0 ∧ c0 ≤ 65535) (g1 : 0 ≤ c1 ∧ c1 ≤ 65535) (g2 : 0 ≤ c2 ∧ c2 ≤ 65535) (g3 : ¬ (0 ≤ c3 ∧ c3 ≤ 65535)) :
    Calls Try.prog 72 #[h.agg, cnts c0 c1 c2 c3] w (RetB (.tuple #[.string (bs []), .int .i64 4]) w) := by
  obtain ⟨g0a, g0b⟩ := g0
  obtain ⟨g1a, g1b⟩ := g1
  obtain ⟨g2a, g2b⟩ := g2
  simp only [Hd.agg, cnts]
  by_cases gz : c3 < 0
  all_goals
    have gy : c3 < 0 ∨ 65535 < c3 := by omega
    go_enter Try.func72, Try.ntmps72
    go_wp2_with fail
    refine wp_loop_rounds 5 ?_
    rw [rounds_succ]
    go_wp2_with fail
    rw [rounds_succ]
    go_wp2_with fail
    rw [rounds_succ]
    go_wp2_with fail
    rw [rounds_succ]
    go_wp2_with fail
    go_ret2
    exact RetB.mk rfl (by go_grown)
theorem refHeadPut_badh (h : Hd) (c0 c1 c2 c3 : Int) (w : World) (hk : h.ok = false) (g0 : 0 ≤ c0 ∧ c0 ≤ 65535) (g1 : 0 ≤ c1 ∧ c1 ≤ 65535) (g2 : 0 ≤ c2 ∧ c2 ≤ 65535) (g3 : 0 ≤ c3 ∧ c3 ≤ 65535) :
    Calls Try.prog 72 #[h.agg, cnts c0 c1 c2 c3] w (RetB (.tuple #[.string (bs []), .int .i64 4]) w) := by
  obtain ⟨g0a, g0b⟩ := g0
  obtain ⟨g1a, g1b⟩ := g1
  obtain ⟨g2a, g2b⟩ := g2
  obtain ⟨g3a, g3b⟩ := g3
  have HK := Lib.hid hk
  clear hk
  simp only [Hd.agg, cnts]
  go_enter Try.func72, Try.ntmps72
  go_wp2_with fail
  refine wp_loop_rounds 5 ?_
  rw [rounds_succ]
  go_wp2_with fail
  rw [rounds_succ]
  go_wp2_with fail
  rw [rounds_succ]
  go_wp2_with fail
  rw [rounds_succ]
  go_wp2_with fail
  rw [rounds_succ]
  go_wp2_with fail
  refine (refCheck_any h _).mono ?_
  rw [HK.out]
  rintro e w1 ⟨rfl, b1⟩
  go_wp2_with fail
  go_ret2
  exact RetB.mk rfl (below_then (by go_grown) (by simp; omega) b1)

set_option maxHeartbeats 1000000 in
theorem refHeadPut_ok (h : Hd) (c0 c1 c2 c3 : Int) (w : World) (hk : h.ok = true) (g0 : 0 ≤ c0 ∧ c0 ≤ 65535) (g1 : 0 ≤ c1 ∧ c1 ≤ 65535) (g2 : 0 ≤ c2 ∧ c2 ≤ 65535) (g3 : 0 ≤ c3 ∧ c3 ≤ 65535) :
    Calls Try.prog 72 #[h.agg, cnts c0 c1 c2 c3] w (RetB (.tuple #[.string (bs (putHead h c0 c1 c2 c3)), .int .i64 0]) w) := by
  have hr : (0 ≤ h.id ∧ h.id ≤ 65535) ∧ (0 ≤ h.op ∧ h.op ≤ 15) ∧ (0 ≤ h.rc ∧ h.rc ≤ 15) := by simpa [Hd.ok, and_assoc] using hk
  obtain ⟨⟨i0, i1⟩, ⟨o0, o1⟩, ⟨r0, r1⟩⟩ := hr
  obtain ⟨g0a, g0b⟩ := g0
  obtain ⟨g1a, g1b⟩ := g1
  obtain ⟨g2a, g2b⟩ := g2
  obtain ⟨g3a, g3b⟩ := g3
  have HK := Lib.hid hk
  clear hk
  simp only [Hd.agg, cnts]
  go_enter Try.func72, Try.ntmps72
  go_wp2_with fail
  refine wp_loop_rounds 5 ?_
  rw [rounds_succ]
  go_wp2_with fail
  rw [rounds_succ]
  go_wp2_with fail
  rw [rounds_succ]
  go_wp2_with fail
  rw [rounds_succ]
  go_wp2_with fail
  rw [rounds_succ]
  go_wp2_with fail
  refine (refCheck_any h _).mono ?_
  rw [HK.out]
  rintro e w1 ⟨rfl, b1⟩
  have k0 : Blk w1 w.heap.size 48 h.vals := ((Blk.new w _ h.vals).alloc _).below b1 (by simp; omega)
  have k1 : Blk w1 (w.heap.size + 1) 117 [.int .i64 c0, .int .i64 c1, .int .i64 c2, .int .i64 c3] := (Blk.new' _ _ [.int .i64 c0, .int .i64 c1, .int .i64 c2, .int .i64 c3] _ (by simp)).below b1 (by simp)
  have hB : Below w.heap.size w w1 := below_then (by go_grown) (by simp; omega) b1
  clear b1
  have e0 := k0.cell_ 0 rfl
  have e1 := k0.cell_ 1 rfl
  have e2 := k0.cell_ 2 rfl
  have e3 := k0.cell_ 3 rfl
  have e4 := k0.cell_ 4 rfl
  have e5 := k0.cell_ 5 rfl
  have e6 := k0.cell_ 6 rfl
  have e7 := k0.cell_ 7 rfl
  have e8 := k0.cell_ 8 rfl
  have e9 := k0.cell_ 9 rfl
  obtain ⟨l32768, m32768⟩ := bitw_le h.qr 32768 (by decide)
  obtain ⟨l1024, m1024⟩ := bitw_le h.aa 1024 (by decide)
  obtain ⟨l512, m512⟩ := bitw_le h.tc 512 (by decide)
  obtain ⟨l256, m256⟩ := bitw_le h.rd 256 (by decide)
  obtain ⟨l128, m128⟩ := bitw_le h.ra 128 (by decide)
  obtain ⟨l32, m32⟩ := bitw_le h.ad 32 (by decide)
  obtain ⟨l16, m16⟩ := bitw_le h.cd 16 (by decide)
  go_wp2_with fail
  go_quiet ((go_at_call 111; exact Ret.quiet (flag_any _ _ _)))
  obtain ⟨W, hW⟩ : ∃ W, W = w1.drewN nq := ⟨_, rfl⟩
  rw [← hW]
  have hBW : Below w.heap.size w W := hW ▸ below_drewN hB nq
  have k2 : Blk W (w.heap.size + 1) 117 [.int .i64 c0, .int .i64 c1, .int .i64 c2, .int .i64 c3] := hW ▸ k1.drewN nq
  have k3 : Blk W w.heap.size 48 h.vals := hW ▸ k0.drewN nq
  clear hW k0 k1 hB e0 e1 e2 e3 e4 e5 e6 e7 e8 e9 l32768 l1024 l512 l256 l128 l32 l16 m32768 m1024 m512 m256 m128 m32 m16
  clear w1
  have e0 := k3.cell_ 0 rfl
  rw [show bitw h.qr 32768 + h.op * 2048 + bitw h.aa 1024 + bitw h.tc 512 + bitw h.rd 256 + bitw h.ra 128 + bitw h.ad 32 + bitw h.cd 16 + h.rc = h.num from rfl]
  go_wp2_with fail
  refine (refPut_any _ _ _).mono ?_
  rintro e w2 ⟨rfl, b2⟩
  rw [show hw 2 = 2 from rfl]
  have hB2 := below_then hBW hBW.size b2
  go_wp2_with fail
  refine (refPut_any _ _ _).mono ?_
  rintro e w3 ⟨rfl, b3⟩
  rw [show hw 2 = 2 from rfl]
  have hB3 := below_then hB2 hB2.size b3
  have k4 := (k2.below b2 k2.lt)
  have k5 := k4.below b3 k4.lt
  have n0 := putB_length 2 h.id
  have n1 := putB_length 2 h.num
  generalize hp : putB 2 h.id = p at *
  generalize hq : putB 2 h.num = q at *
  have Hp := Lib.hid hp
  have Hq := Lib.hid hq
  have pl : p.length ≤ 2 := by omega
  have ql : q.length ≤ 2 := by omega
  clear hp hq n0 n1 k2 k3 k4 e0 hBW hB2 b2 b3
  go_wp2_with fail
  refine wp_loop_rounds 5 ?_
  rw [rounds_succ]
  have d0 := k5.cell_ 0 rfl
  go_wp2_with fail
  refine (refPut_any _ _ _).mono ?_
  rintro e v0 ⟨rfl, a0⟩
  rw [show hw 2 = 2 from rfl]
  have hC0 := below_then hB3 hB3.size a0
  have x0 := k5.below a0 k5.lt
  have z0 := putB_length 2 c0
  generalize hz0 : putB 2 c0 = y0 at *
  have Hz0 := Lib.hid hz0
  have yl0 : y0.length ≤ 2 := by omega
  clear hz0 z0 d0 a0
  go_wp2_with fail
  rw [rounds_succ]
  have d1 := x0.cell_ 1 rfl
  go_wp2_with fail
  refine (refPut_any _ _ _).mono ?_
  rintro e v1 ⟨rfl, a1⟩
  rw [show hw 2 = 2 from rfl]
  have hC1 := below_then hC0 hC0.size a1
  have x1 := x0.below a1 x0.lt
  have z1 := putB_length 2 c1
  generalize hz1 : putB 2 c1 = y1 at *
  have Hz1 := Lib.hid hz1
  have yl1 : y1.length ≤ 2 := by omega
  clear hz1 z1 d1 a1
  go_wp2_with fail
  rw [rounds_succ]
  have d2 := x1.cell_ 2 rfl
  go_wp2_with fail
  refine (refPut_any _ _ _).mono ?_
  rintro e v2 ⟨rfl, a2⟩
  rw [show hw 2 = 2 from rfl]
  have hC2 := below_then hC1 hC1.size a2
  have x2 := x1.below a2 x1.lt
  have z2 := putB_length 2 c2
  generalize hz2 : putB 2 c2 = y2 at *
  have Hz2 := Lib.hid hz2
  have yl2 : y2.length ≤ 2 := by omega
  clear hz2 z2 d2 a2
  go_wp2_with fail
  rw [rounds_succ]
  have d3 := x2.cell_ 3 rfl
  go_wp2_with fail
  refine (refPut_any _ _ _).mono ?_
  rintro e v3 ⟨rfl, a3⟩
  rw [show hw 2 = 2 from rfl]
  have hC3 := below_then hC2 hC2.size a3
  have x3 := x2.below a3 x2.lt
  have z3 := putB_length 2 c3
  generalize hz3 : putB 2 c3 = y3 at *
  have Hz3 := Lib.hid hz3
  have yl3 : y3.length ≤ 2 := by omega
  clear hz3 z3 d3 a3
  go_wp2_with fail
  rw [rounds_succ]
  go_wp2_with fail
  go_ret2
  refine RetB.mk ?_ hC3
  simp only [putHead, Hp.out, Hq.out, Hz0.out, Hz1.out, Hz2.out, Hz3.out, List.append_assoc]
  rfl

theorem refHeadPut_any (h : Hd) (c0 c1 c2 c3 : Int) (w : World) :
    Calls Try.prog 72 #[h.agg, cnts c0 c1 c2 c3] w (RetB (.tuple #[.string (bs (putRes h c0 c1 c2 c3).1), .int .i64 (putRes h c0 c1 c2 c3).2]) w) := by
  unfold putRes
  by_cases g0 : 0 ≤ c0 ∧ c0 ≤ 65535
  · by_cases g1 : 0 ≤ c1 ∧ c1 ≤ 65535
    · by_cases g2 : 0 ≤ c2 ∧ c2 ≤ 65535
      · by_cases g3 : 0 ≤ c3 ∧ c3 ≤ 65535
        · cases hk : h.ok with
          | false => rw [if_neg (by simp)]; exact refHeadPut_badh h c0 c1 c2 c3 w hk g0 g1 g2 g3
          | true => rw [if_pos ⟨rfl, g0, g1, g2, g3⟩]; exact refHeadPut_ok h c0 c1 c2 c3 w hk g0 g1 g2 g3
        · rw [if_neg (fun hh => g3 hh.2.2.2.2)]; exact refHeadPut_bad3 h c0 c1 c2 c3 w g0 g1 g2 g3
      · rw [if_neg (fun hh => g2 hh.2.2.2.1)]; exact refHeadPut_bad2 h c0 c1 c2 c3 w g0 g1 g2
    · rw [if_neg (fun hh => g1 hh.2.2.1)]; exact refHeadPut_bad1 h c0 c1 c2 c3 w g0 g1
  · rw [if_neg (fun hh => g0 hh.2.1)]; exact refHeadPut_bad0 h c0 c1 c2 c3 w g0
end Go.Proofs.Ytlmgdogblbigpaa

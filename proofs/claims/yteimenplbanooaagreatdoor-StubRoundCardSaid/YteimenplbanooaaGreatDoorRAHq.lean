/-
  Layer 11 (head): a head and its counts, read.
-/
import Derived.Test.YteimenplbanooaaGreatDoorGAq
namespace Go.Proofs.YteimenplbanooaaGreatDoor
open _root_.Go.Proofs.Tryz
open Go.RowKit
set_option maxRecDepth 100000
structure Hd where
 id : Int
 qr : Bool
 op : Int
 aa : Bool
 tc : Bool
 rd : Bool
 ra : Bool
 ad : Bool
 cd : Bool
 rc : Int
deriving DecidableEq
def Hd.vals (h : Hd) : List Value := [.int .i64 h.id, .bool h.qr, .int .i64 h.op, .bool h.aa, .bool h.tc, .bool h.rd, .bool h.ra, .bool h.ad, .bool h.cd, .int .i64 h.rc]
def Hd.agg (h : Hd) : Value := .agg #[.int .i64 h.id, .bool h.qr, .int .i64 h.op, .bool h.aa, .bool h.tc, .bool h.rd, .bool h.ra, .bool h.ad, .bool h.cd, .int .i64 h.rc]
def Hd.zero : Hd := ⟨0, false, 0, false, false, false, false, false, false, 0⟩
def cnts (a b c d : Int) : Value := .agg #[.int .i64 a, .int .i64 b, .int .i64 c, .int .i64 d]
def at2 (l : List UInt8) (k : Nat) : Nat := numB ((l.drop k).take 2)
def bitv (n : Nat) (k : Nat) : Bool := n / k % 2 == 1
def hdOf (id n : Nat) : Hd := ⟨id, bitv n 32768, (n : Int) / 2048 % 16, bitv n 1024, bitv n 512, bitv n 256, bitv n 128, bitv n 32, bitv n 16, (n : Int) % 16⟩
theorem bitvI (n k : Nat) : ((n : Int) / (k : Int) % 2 == 1) = bitv n k := by
 unfold bitv
 rw [Bool.eq_iff_iff]
 simp only [beq_iff_eq]
 constructor <;> intro h <;> omega
theorem within_any (n m : Int) (w : World) : Calls prog 321 #[.int .i64 n, .int .i64 m] w (Ret (.bool (decide (0 ≤ n ∧ n ≤ m))) w) := by
 by_cases h0 : 0 ≤ n
 ·
  by_cases h1 : n ≤ m
  all_goals
   go_enter func321, ntmps321
   go_wp2
   go_ret
   exact Ret.mk (ret_bool (by simp [h0, h1])) rfl
 ·
  go_enter func321, ntmps321
  go_wp2
  go_ret
  exact Ret.mk (ret_bool (by simp; omega)) rfl
theorem within_yes (n m : Int) (w : World) (h : 0 ≤ n ∧ n ≤ m) : Calls prog 321 #[.int .i64 n, .int .i64 m] w (Ret (.bool true) w) := by
 have := within_any n m w; rwa [decide_eq_true h] at this
theorem within_no (n m : Int) (w : World) (h : ¬ (0 ≤ n ∧ n ≤ m)) : Calls prog 321 #[.int .i64 n, .int .i64 m] w (Ret (.bool false) w) := by
 have := within_any n m w; rwa [decide_eq_false h] at this
def Hd.ok (h : Hd) : Bool := decide (0 ≤ h.id ∧ h.id ≤ 65535) && decide (0 ≤ h.op ∧ h.op ≤ 15) && decide (0 ≤ h.rc ∧ h.rc ≤ 15)
def bitw (b : Bool) (n : Int) : Int := if b then n else 0
theorem bitw_le (b : Bool) (n : Int) (h : 0 ≤ n) : 0 ≤ bitw b n ∧ bitw b n ≤ n := by cases b <;> simp [bitw] <;> omega
theorem bit_any (b : Bool) (n : Int) (w : World) : Calls prog 319 #[.bool b, .int .i64 n] w (Ret (.int .i64 (bitw b n)) w) := by
 cases b
 all_goals
  go_enter func319, ntmps319
  go_wp2
  go_ret
  exact Ret.mk rfl rfl
theorem check_any (h : Hd) (w : World) : Calls prog 316 #[h.agg] w (RetB (.int .i64 (if h.ok then 0 else 4)) w) := by
 obtain ⟨id, qr, op, aa, tc, rd, ra, ad, cd, rc⟩ := h
 simp only [Hd.agg]
 by_cases h1 : 0 ≤ id ∧ id ≤ 65535
 ·
  by_cases h2 : 0 ≤ op ∧ op ≤ 15
  ·
   by_cases h3 : 0 ≤ rc ∧ rc ≤ 15
   ·
    rw [show Hd.ok _ = true by simp [Hd.ok, h1, h2, h3]]
    go_enter func316, ntmps316
    go_wp2_with (go_at_call 321; refine (within_yes _ _ _ (by assumption)).mono ?_; rintro e w' ⟨rfl, rfl⟩)
    go_ret
    exact RetB.mk rfl (by go_grown)
   ·
    rw [show Hd.ok _ = false by simp [Hd.ok, h1, h2, h3]]
    go_enter func316, ntmps316
    go_wp2_with (go_at_call 321; first | (refine (within_yes _ _ _ (by assumption)).mono ?_; rintro e w' ⟨rfl, rfl⟩) | (refine (within_no _ _ _ (by assumption)).mono ?_; rintro e w' ⟨rfl, rfl⟩))
    go_ret
    exact RetB.mk rfl (by go_grown)
  ·
   rw [show Hd.ok _ = false by simp [Hd.ok, h1, h2]]
   go_enter func316, ntmps316
   go_wp2_with (go_at_call 321; first | (refine (within_yes _ _ _ (by assumption)).mono ?_; rintro e w' ⟨rfl, rfl⟩) | (refine (within_no _ _ _ (by assumption)).mono ?_; rintro e w' ⟨rfl, rfl⟩))
   go_ret
   exact RetB.mk rfl (by go_grown)
 ·
  rw [show Hd.ok _ = false by simp [Hd.ok, h1]]
  go_enter func316, ntmps316
  go_wp2_with (go_at_call 321; refine (within_no _ _ _ (by assumption)).mono ?_; rintro e w' ⟨rfl, rfl⟩)
  go_ret
  exact RetB.mk rfl (by go_grown)
def Hd.num (h : Hd) : Int := bitw h.qr 32768 + h.op * 2048 + bitw h.aa 1024 + bitw h.tc 512 + bitw h.rd 256 + bitw h.ra 128 + bitw h.ad 32 + bitw h.cd 16 + h.rc
def putHead (h : Hd) (c0 c1 c2 c3 : Int) : List UInt8 := putB 2 h.id ++ putB 2 h.num ++ putB 2 c0 ++ putB 2 c1 ++ putB 2 c2 ++ putB 2 c3
theorem headPut_bad (h : Hd) (c0 c1 c2 c3 : Int) (w : World) (hk : h.ok = false) :
  Calls prog 295 #[h.agg, cnts c0 c1 c2 c3] w (RetB (.tuple #[.string (bs []), .int .i64 4]) w) := by
 simp only [Hd.agg, cnts]
 go_enter func295, ntmps295
 go_wp2_with fail
 refine (check_any h _).mono ?_
 rw [hk]
 rintro e w1 ⟨rfl, b1⟩
 go_wp2_with fail
 go_ret2
 exact RetB.mk rfl (below_then (by go_grown) (by simp; omega) b1)
set_option maxHeartbeats 1000000 in
theorem headPut_ok (h : Hd) (c0 c1 c2 c3 : Int) (w : World) (hk : h.ok = true) (g0 : 0 ≤ c0 ∧ c0 ≤ 65535) (g1 : 0 ≤ c1 ∧ c1 ≤ 65535) (g2 : 0 ≤ c2 ∧ c2 ≤ 65535) (g3 : 0 ≤ c3 ∧ c3 ≤ 65535) :
  Calls prog 295 #[h.agg, cnts c0 c1 c2 c3] w (RetB (.tuple #[.string (bs (putHead h c0 c1 c2 c3)), .int .i64 0]) w) := by
 have hr : (0 ≤ h.id ∧ h.id ≤ 65535) ∧ (0 ≤ h.op ∧ h.op ≤ 15) ∧ (0 ≤ h.rc ∧ h.rc ≤ 15) := by simpa [Hd.ok, and_assoc] using hk
 obtain ⟨⟨i0, i1⟩, ⟨o0, o1⟩, ⟨r0, r1⟩⟩ := hr
 have i10 : ∀ w : World, (Instr.index 399 (.agg #[.int .i64 c0, .int .i64 c1, .int .i64 c2, .int .i64 c3]) (.int .i64 0)).run prog w = .ok (.int .i64 c0) w := fun _ => by kernel_rfl
 have i11 : ∀ w : World, (Instr.index 399 (.agg #[.int .i64 c0, .int .i64 c1, .int .i64 c2, .int .i64 c3]) (.int .i64 1)).run prog w = .ok (.int .i64 c1) w := fun _ => by kernel_rfl
 have i12 : ∀ w : World, (Instr.index 399 (.agg #[.int .i64 c0, .int .i64 c1, .int .i64 c2, .int .i64 c3]) (.int .i64 2)).run prog w = .ok (.int .i64 c2) w := fun _ => by kernel_rfl
 have i13 : ∀ w : World, (Instr.index 399 (.agg #[.int .i64 c0, .int .i64 c1, .int .i64 c2, .int .i64 c3]) (.int .i64 3)).run prog w = .ok (.int .i64 c3) w := fun _ => by kernel_rfl
 have HK := Hh hk
 clear hk
 simp only [Hd.agg, cnts]
 go_enter func295, ntmps295
 go_wp2_with fail
 refine (check_any h _).mono ?_
 rw [HK.out]
 rintro e w1 ⟨rfl, b1⟩
 have k0 : Blk w1 w.heap.size 277 h.vals := ((Blk.new w _ h.vals).alloc _).below b1 (by simp; omega)
 have k1 : Blk w1 (w.heap.size + 1) 399 [.int .i64 c0, .int .i64 c1, .int .i64 c2, .int .i64 c3] := (Blk.new' _ _ [.int .i64 c0, .int .i64 c1, .int .i64 c2, .int .i64 c3] _ (by simp)).below b1 (by simp)
 have hB : Below w.heap.size w w1 := below_then (by go_grown) (by simp; omega) b1
 clear b1
 have e0 := k0.cell_ 0 rfl
 have e1 := k0.cell_ 1 rfl
 have e2 := k0.cell_ 2 rfl
 have e3 := k0.cell_ 3 rfl
 have e4 := k0.cell_ 4 rfl
 have e5 := k0.cell_ 5 rfl
 have e6 := k0.cell_ 6 rfl
 have e7 := k0.cell_ 7 rfl
 have e8 := k0.cell_ 8 rfl
 have e9 := k0.cell_ 9 rfl
 obtain ⟨l32768, m32768⟩ := bitw_le h.qr 32768 (by decide)
 obtain ⟨l1024, m1024⟩ := bitw_le h.aa 1024 (by decide)
 obtain ⟨l512, m512⟩ := bitw_le h.tc 512 (by decide)
 obtain ⟨l256, m256⟩ := bitw_le h.rd 256 (by decide)
 obtain ⟨l128, m128⟩ := bitw_le h.ra 128 (by decide)
 obtain ⟨l32, m32⟩ := bitw_le h.ad 32 (by decide)
 obtain ⟨l16, m16⟩ := bitw_le h.cd 16 (by decide)
 go_wp2_with fail
 go_quiet ((go_at_call 319; exact Ret.quiet (bit_any _ _ _)))
 obtain ⟨W, hW⟩ : ∃ W, W = w1.drewN nq := ⟨_, rfl⟩
 rw [← hW]
 have hBW : Below w.heap.size w W := hW ▸ below_drewN hB nq
 have k2 : Blk W (w.heap.size + 1) 399 [.int .i64 c0, .int .i64 c1, .int .i64 c2, .int .i64 c3] := hW ▸ k1.drewN nq
 have k3 : Blk W w.heap.size 277 h.vals := hW ▸ k0.drewN nq
 clear hW k0 k1 hB e0 e1 e2 e3 e4 e5 e6 e7 e8 e9 l32768 l1024 l512 l256 l128 l32 l16 m32768 m1024 m512 m256 m128 m32 m16
 clear w1
 have e0 := k3.cell_ 0 rfl
 rw [show bitw h.qr 32768 + h.op * 2048 + bitw h.aa 1024 + bitw h.tc 512 + bitw h.rd 256 + bitw h.ra 128 + bitw h.ad 32 + bitw h.cd 16 + h.rc = h.num from rfl]
 go_wp2_with fail
 refine (put_any _ _ _).mono ?_
 rintro e w2 ⟨rfl, b2⟩
 rw [show hw 2 = 2 from rfl]
 have hB2 := below_then hBW hBW.size b2
 go_wp2_with fail
 refine (put_any _ _ _).mono ?_
 rintro e w3 ⟨rfl, b3⟩
 rw [show hw 2 = 2 from rfl]
 have hB3 := below_then hB2 hB2.size b3
 have k4 := (k2.below b2 k2.lt)
 have k5 := k4.below b3 k4.lt
 have d0 := k5.cell_ 0 rfl
 have d1 := k5.cell_ 1 rfl
 have d2 := k5.cell_ 2 rfl
 have d3 := k5.cell_ 3 rfl
 have n0 := putB_length 2 h.id
 have n1 := putB_length 2 h.num
 generalize hp : putB 2 h.id = p at *
 generalize hq : putB 2 h.num = q at *
 have Hp := Hh hp
 have Hq := Hh hq
 have pl : p.length ≤ 2 := by omega
 have ql : q.length ≤ 2 := by omega
 clear hp hq n0 n1 k2 k3 k4 k5 e0 hBW hB2 b2 b3
 go_wp2_with fail
 refine wp_loop_rounds 5 ?_
 rw [rounds_succ]
 go_wp2_with fail
 refine (within_yes _ _ _ g0).mono ?_
 rintro e w' ⟨rfl, rfl⟩
 go_wp2_with fail
 refine (put_any _ _ _).mono ?_
 rintro e v0 ⟨rfl, a0⟩
 rw [show hw 2 = 2 from rfl]
 have hC0 := below_then hB3 hB3.size a0
 have z0 := putB_length 2 c0
 generalize hz0 : putB 2 c0 = y0 at *
 have Hz0 := Hh hz0
 have yl0 : y0.length ≤ 2 := by omega
 clear hz0 z0
 go_wp2_with fail
 rw [rounds_succ]
 go_wp2_with fail
 refine (within_yes _ _ _ g1).mono ?_
 rintro e w' ⟨rfl, rfl⟩
 go_wp2_with fail
 refine (put_any _ _ _).mono ?_
 rintro e v1 ⟨rfl, a1⟩
 rw [show hw 2 = 2 from rfl]
 have hC1 := below_then hC0 hC0.size a1
 have z1 := putB_length 2 c1
 generalize hz1 : putB 2 c1 = y1 at *
 have Hz1 := Hh hz1
 have yl1 : y1.length ≤ 2 := by omega
 clear hz1 z1
 go_wp2_with fail
 rw [rounds_succ]
 go_wp2_with fail
 refine (within_yes _ _ _ g2).mono ?_
 rintro e w' ⟨rfl, rfl⟩
 go_wp2_with fail
 refine (put_any _ _ _).mono ?_
 rintro e v2 ⟨rfl, a2⟩
 rw [show hw 2 = 2 from rfl]
 have hC2 := below_then hC1 hC1.size a2
 have z2 := putB_length 2 c2
 generalize hz2 : putB 2 c2 = y2 at *
 have Hz2 := Hh hz2
 have yl2 : y2.length ≤ 2 := by omega
 clear hz2 z2
 go_wp2_with fail
 rw [rounds_succ]
 go_wp2_with fail
 refine (within_yes _ _ _ g3).mono ?_
 rintro e w' ⟨rfl, rfl⟩
 go_wp2_with fail
 refine (put_any _ _ _).mono ?_
 rintro e v3 ⟨rfl, a3⟩
 rw [show hw 2 = 2 from rfl]
 have hC3 := below_then hC2 hC2.size a3
 have z3 := putB_length 2 c3
 generalize hz3 : putB 2 c3 = y3 at *
 have Hz3 := Hh hz3
 have yl3 : y3.length ≤ 2 := by omega
 clear hz3 z3
 go_wp2_with fail
 rw [rounds_succ]
 go_wp2_with fail
 go_ret2
 refine RetB.mk ?_ hC3
 simp only [putHead, Hp.out, Hq.out, Hz0.out, Hz1.out, Hz2.out, Hz3.out, List.append_assoc]
 rfl
set_option maxHeartbeats 1000000 in
theorem headPut_bad0 (h : Hd) (c0 c1 c2 c3 : Int) (w : World) (hk : h.ok = true) (g0 : ¬ (0 ≤ c0 ∧ c0 ≤ 65535)) :
  Calls prog 295 #[h.agg, cnts c0 c1 c2 c3] w (RetB (.tuple #[.string (bs []), .int .i64 4]) w) := by
 have hr : (0 ≤ h.id ∧ h.id ≤ 65535) ∧ (0 ≤ h.op ∧ h.op ≤ 15) ∧ (0 ≤ h.rc ∧ h.rc ≤ 15) := by simpa [Hd.ok, and_assoc] using hk
 obtain ⟨⟨i0, i1⟩, ⟨o0, o1⟩, ⟨r0, r1⟩⟩ := hr
 have i10 : ∀ w : World, (Instr.index 399 (.agg #[.int .i64 c0, .int .i64 c1, .int .i64 c2, .int .i64 c3]) (.int .i64 0)).run prog w = .ok (.int .i64 c0) w := fun _ => by kernel_rfl
 have i11 : ∀ w : World, (Instr.index 399 (.agg #[.int .i64 c0, .int .i64 c1, .int .i64 c2, .int .i64 c3]) (.int .i64 1)).run prog w = .ok (.int .i64 c1) w := fun _ => by kernel_rfl
 have i12 : ∀ w : World, (Instr.index 399 (.agg #[.int .i64 c0, .int .i64 c1, .int .i64 c2, .int .i64 c3]) (.int .i64 2)).run prog w = .ok (.int .i64 c2) w := fun _ => by kernel_rfl
 have i13 : ∀ w : World, (Instr.index 399 (.agg #[.int .i64 c0, .int .i64 c1, .int .i64 c2, .int .i64 c3]) (.int .i64 3)).run prog w = .ok (.int .i64 c3) w := fun _ => by kernel_rfl
 have HK := Hh hk
 clear hk
 simp only [Hd.agg, cnts]
 go_enter func295, ntmps295
 go_wp2_with fail
 refine (check_any h _).mono ?_
 rw [HK.out]
 rintro e w1 ⟨rfl, b1⟩
 have k0 : Blk w1 w.heap.size 277 h.vals := ((Blk.new w _ h.vals).alloc _).below b1 (by simp; omega)
 have k1 : Blk w1 (w.heap.size + 1) 399 [.int .i64 c0, .int .i64 c1, .int .i64 c2, .int .i64 c3] := (Blk.new' _ _ [.int .i64 c0, .int .i64 c1, .int .i64 c2, .int .i64 c3] _ (by simp)).below b1 (by simp)
 have hB : Below w.heap.size w w1 := below_then (by go_grown) (by simp; omega) b1
 clear b1
 have e0 := k0.cell_ 0 rfl
 have e1 := k0.cell_ 1 rfl
 have e2 := k0.cell_ 2 rfl
 have e3 := k0.cell_ 3 rfl
 have e4 := k0.cell_ 4 rfl
 have e5 := k0.cell_ 5 rfl
 have e6 := k0.cell_ 6 rfl
 have e7 := k0.cell_ 7 rfl
 have e8 := k0.cell_ 8 rfl
 have e9 := k0.cell_ 9 rfl
 obtain ⟨l32768, m32768⟩ := bitw_le h.qr 32768 (by decide)
 obtain ⟨l1024, m1024⟩ := bitw_le h.aa 1024 (by decide)
 obtain ⟨l512, m512⟩ := bitw_le h.tc 512 (by decide)
 obtain ⟨l256, m256⟩ := bitw_le h.rd 256 (by decide)
 obtain ⟨l128, m128⟩ := bitw_le h.ra 128 (by decide)
 obtain ⟨l32, m32⟩ := bitw_le h.ad 32 (by decide)
 obtain ⟨l16, m16⟩ := bitw_le h.cd 16 (by decide)
 go_wp2_with fail
 go_quiet ((go_at_call 319; exact Ret.quiet (bit_any _ _ _)))
 obtain ⟨W, hW⟩ : ∃ W, W = w1.drewN nq := ⟨_, rfl⟩
 rw [← hW]
 have hBW : Below w.heap.size w W := hW ▸ below_drewN hB nq
 have k2 : Blk W (w.heap.size + 1) 399 [.int .i64 c0, .int .i64 c1, .int .i64 c2, .int .i64 c3] := hW ▸ k1.drewN nq
 have k3 : Blk W w.heap.size 277 h.vals := hW ▸ k0.drewN nq
 clear hW k0 k1 hB e0 e1 e2 e3 e4 e5 e6 e7 e8 e9 l32768 l1024 l512 l256 l128 l32 l16 m32768 m1024 m512 m256 m128 m32 m16
 clear w1
 have e0 := k3.cell_ 0 rfl
 rw [show bitw h.qr 32768 + h.op * 2048 + bitw h.aa 1024 + bitw h.tc 512 + bitw h.rd 256 + bitw h.ra 128 + bitw h.ad 32 + bitw h.cd 16 + h.rc = h.num from rfl]
 go_wp2_with fail
 refine (put_any _ _ _).mono ?_
 rintro e w2 ⟨rfl, b2⟩
 rw [show hw 2 = 2 from rfl]
 have hB2 := below_then hBW hBW.size b2
 go_wp2_with fail
 refine (put_any _ _ _).mono ?_
 rintro e w3 ⟨rfl, b3⟩
 rw [show hw 2 = 2 from rfl]
 have hB3 := below_then hB2 hB2.size b3
 have k4 := (k2.below b2 k2.lt)
 have k5 := k4.below b3 k4.lt
 have d0 := k5.cell_ 0 rfl
 have d1 := k5.cell_ 1 rfl
 have d2 := k5.cell_ 2 rfl
 have d3 := k5.cell_ 3 rfl
 have n0 := putB_length 2 h.id
 have n1 := putB_length 2 h.num
 generalize hp : putB 2 h.id = p at *
 generalize hq : putB 2 h.num = q at *
 have Hp := Hh hp
 have Hq := Hh hq
 have pl : p.length ≤ 2 := by omega
 have ql : q.length ≤ 2 := by omega
 clear hp hq n0 n1 k2 k3 k4 k5 e0 hBW hB2 b2 b3
 go_wp2_with fail
 refine wp_loop_rounds 5 ?_
 rw [rounds_succ]
 go_wp2_with fail
 refine (within_no _ _ _ g0).mono ?_
 rintro e w' ⟨rfl, rfl⟩
 go_wp2_with fail
 go_ret2
 exact RetB.mk rfl hB3
set_option maxHeartbeats 1000000 in
theorem headPut_bad1 (h : Hd) (c0 c1 c2 c3 : Int) (w : World) (hk : h.ok = true) (g0 : 0 ≤ c0 ∧ c0 ≤ 65535) (g1 : ¬ (0 ≤ c1 ∧ c1 ≤ 65535)) :
  Calls prog 295 #[h.agg, cnts c0 c1 c2 c3] w (RetB (.tuple #[.string (bs []), .int .i64 4]) w) := by
 have hr : (0 ≤ h.id ∧ h.id ≤ 65535) ∧ (0 ≤ h.op ∧ h.op ≤ 15) ∧ (0 ≤ h.rc ∧ h.rc ≤ 15) := by simpa [Hd.ok, and_assoc] using hk
 obtain ⟨⟨i0, i1⟩, ⟨o0, o1⟩, ⟨r0, r1⟩⟩ := hr
 have i10 : ∀ w : World, (Instr.index 399 (.agg #[.int .i64 c0, .int .i64 c1, .int .i64 c2, .int .i64 c3]) (.int .i64 0)).run prog w = .ok (.int .i64 c0) w := fun _ => by kernel_rfl
 have i11 : ∀ w : World, (Instr.index 399 (.agg #[.int .i64 c0, .int .i64 c1, .int .i64 c2, .int .i64 c3]) (.int .i64 1)).run prog w = .ok (.int .i64 c1) w := fun _ => by kernel_rfl
 have i12 : ∀ w : World, (Instr.index 399 (.agg #[.int .i64 c0, .int .i64 c1, .int .i64 c2, .int .i64 c3]) (.int .i64 2)).run prog w = .ok (.int .i64 c2) w := fun _ => by kernel_rfl
 have i13 : ∀ w : World, (Instr.index 399 (.agg #[.int .i64 c0, .int .i64 c1, .int .i64 c2, .int .i64 c3]) (.int .i64 3)).run prog w = .ok (.int .i64 c3) w := fun _ => by kernel_rfl
 have HK := Hh hk
 clear hk
 simp only [Hd.agg, cnts]
 go_enter func295, ntmps295
 go_wp2_with fail
 refine (check_any h _).mono ?_
 rw [HK.out]
 rintro e w1 ⟨rfl, b1⟩
 have k0 : Blk w1 w.heap.size 277 h.vals := ((Blk.new w _ h.vals).alloc _).below b1 (by simp; omega)
 have k1 : Blk w1 (w.heap.size + 1) 399 [.int .i64 c0, .int .i64 c1, .int .i64 c2, .int .i64 c3] := (Blk.new' _ _ [.int .i64 c0, .int .i64 c1, .int .i64 c2, .int .i64 c3] _ (by simp)).below b1 (by simp)
 have hB : Below w.heap.size w w1 := below_then (by go_grown) (by simp; omega) b1
 clear b1
 have e0 := k0.cell_ 0 rfl
 have e1 := k0.cell_ 1 rfl
 have e2 := k0.cell_ 2 rfl
 have e3 := k0.cell_ 3 rfl
 have e4 := k0.cell_ 4 rfl
 have e5 := k0.cell_ 5 rfl
 have e6 := k0.cell_ 6 rfl
 have e7 := k0.cell_ 7 rfl
 have e8 := k0.cell_ 8 rfl
 have e9 := k0.cell_ 9 rfl
 obtain ⟨l32768, m32768⟩ := bitw_le h.qr 32768 (by decide)
 obtain ⟨l1024, m1024⟩ := bitw_le h.aa 1024 (by decide)
 obtain ⟨l512, m512⟩ := bitw_le h.tc 512 (by decide)
 obtain ⟨l256, m256⟩ := bitw_le h.rd 256 (by decide)
 obtain ⟨l128, m128⟩ := bitw_le h.ra 128 (by decide)
 obtain ⟨l32, m32⟩ := bitw_le h.ad 32 (by decide)
 obtain ⟨l16, m16⟩ := bitw_le h.cd 16 (by decide)
 go_wp2_with fail
 go_quiet ((go_at_call 319; exact Ret.quiet (bit_any _ _ _)))
 obtain ⟨W, hW⟩ : ∃ W, W = w1.drewN nq := ⟨_, rfl⟩
 rw [← hW]
 have hBW : Below w.heap.size w W := hW ▸ below_drewN hB nq
 have k2 : Blk W (w.heap.size + 1) 399 [.int .i64 c0, .int .i64 c1, .int .i64 c2, .int .i64 c3] := hW ▸ k1.drewN nq
 have k3 : Blk W w.heap.size 277 h.vals := hW ▸ k0.drewN nq
 clear hW k0 k1 hB e0 e1 e2 e3 e4 e5 e6 e7 e8 e9 l32768 l1024 l512 l256 l128 l32 l16 m32768 m1024 m512 m256 m128 m32 m16
 clear w1
 have e0 := k3.cell_ 0 rfl
 rw [show bitw h.qr 32768 + h.op * 2048 + bitw h.aa 1024 + bitw h.tc 512 + bitw h.rd 256 + bitw h.ra 128 + bitw h.ad 32 + bitw h.cd 16 + h.rc = h.num from rfl]
 go_wp2_with fail
 refine (put_any _ _ _).mono ?_
 rintro e w2 ⟨rfl, b2⟩
 rw [show hw 2 = 2 from rfl]
 have hB2 := below_then hBW hBW.size b2
 go_wp2_with fail
 refine (put_any _ _ _).mono ?_
 rintro e w3 ⟨rfl, b3⟩
 rw [show hw 2 = 2 from rfl]
 have hB3 := below_then hB2 hB2.size b3
 have k4 := (k2.below b2 k2.lt)
 have k5 := k4.below b3 k4.lt
 have d0 := k5.cell_ 0 rfl
 have d1 := k5.cell_ 1 rfl
 have d2 := k5.cell_ 2 rfl
 have d3 := k5.cell_ 3 rfl
 have n0 := putB_length 2 h.id
 have n1 := putB_length 2 h.num
 generalize hp : putB 2 h.id = p at *
 generalize hq : putB 2 h.num = q at *
 have Hp := Hh hp
 have Hq := Hh hq
 have pl : p.length ≤ 2 := by omega
 have ql : q.length ≤ 2 := by omega
 clear hp hq n0 n1 k2 k3 k4 k5 e0 hBW hB2 b2 b3
 go_wp2_with fail
 refine wp_loop_rounds 5 ?_
 rw [rounds_succ]
 go_wp2_with fail
 refine (within_yes _ _ _ g0).mono ?_
 rintro e w' ⟨rfl, rfl⟩
 go_wp2_with fail
 refine (put_any _ _ _).mono ?_
 rintro e v0 ⟨rfl, a0⟩
 rw [show hw 2 = 2 from rfl]
 have hC0 := below_then hB3 hB3.size a0
 have z0 := putB_length 2 c0
 generalize hz0 : putB 2 c0 = y0 at *
 have Hz0 := Hh hz0
 have yl0 : y0.length ≤ 2 := by omega
 clear hz0 z0
 go_wp2_with fail
 rw [rounds_succ]
 go_wp2_with fail
 refine (within_no _ _ _ g1).mono ?_
 rintro e w' ⟨rfl, rfl⟩
 go_wp2_with fail
 go_ret2
 exact RetB.mk rfl hC0
set_option maxHeartbeats 1000000 in
theorem headPut_bad2 (h : Hd) (c0 c1 c2 c3 : Int) (w : World) (hk : h.ok = true) (g0 : 0 ≤ c0 ∧ c0 ≤ 65535) (g1 : 0 ≤ c1 ∧ c1 ≤ 65535) (g2 : ¬ (0 ≤ c2 ∧ c2 ≤ 65535)) :
  Calls prog 295 #[h.agg, cnts c0 c1 c2 c3] w (RetB (.tuple #[.string (bs []), .int .i64 4]) w) := by
 have hr : (0 ≤ h.id ∧ h.id ≤ 65535) ∧ (0 ≤ h.op ∧ h.op ≤ 15) ∧ (0 ≤ h.rc ∧ h.rc ≤ 15) := by simpa [Hd.ok, and_assoc] using hk
 obtain ⟨⟨i0, i1⟩, ⟨o0, o1⟩, ⟨r0, r1⟩⟩ := hr
 have i10 : ∀ w : World, (Instr.index 399 (.agg #[.int .i64 c0, .int .i64 c1, .int .i64 c2, .int .i64 c3]) (.int .i64 0)).run prog w = .ok (.int .i64 c0) w := fun _ => by kernel_rfl
 have i11 : ∀ w : World, (Instr.index 399 (.agg #[.int .i64 c0, .int .i64 c1, .int .i64 c2, .int .i64 c3]) (.int .i64 1)).run prog w = .ok (.int .i64 c1) w := fun _ => by kernel_rfl
 have i12 : ∀ w : World, (Instr.index 399 (.agg #[.int .i64 c0, .int .i64 c1, .int .i64 c2, .int .i64 c3]) (.int .i64 2)).run prog w = .ok (.int .i64 c2) w := fun _ => by kernel_rfl
 have i13 : ∀ w : World, (Instr.index 399 (.agg #[.int .i64 c0, .int .i64 c1, .int .i64 c2, .int .i64 c3]) (.int .i64 3)).run prog w = .ok (.int .i64 c3) w := fun _ => by kernel_rfl
 have HK := Hh hk
 clear hk
 simp only [Hd.agg, cnts]
 go_enter func295, ntmps295
 go_wp2_with fail
 refine (check_any h _).mono ?_
 rw [HK.out]
 rintro e w1 ⟨rfl, b1⟩
 have k0 : Blk w1 w.heap.size 277 h.vals := ((Blk.new w _ h.vals).alloc _).below b1 (by simp; omega)
 have k1 : Blk w1 (w.heap.size + 1) 399 [.int .i64 c0, .int .i64 c1, .int .i64 c2, .int .i64 c3] := (Blk.new' _ _ [.int .i64 c0, .int .i64 c1, .int .i64 c2, .int .i64 c3] _ (by simp)).below b1 (by simp)
 have hB : Below w.heap.size w w1 := below_then (by go_grown) (by simp; omega) b1
 clear b1
 have e0 := k0.cell_ 0 rfl
 have e1 := k0.cell_ 1 rfl
 have e2 := k0.cell_ 2 rfl
 have e3 := k0.cell_ 3 rfl
 have e4 := k0.cell_ 4 rfl
 have e5 := k0.cell_ 5 rfl
 have e6 := k0.cell_ 6 rfl
 have e7 := k0.cell_ 7 rfl
 have e8 := k0.cell_ 8 rfl
 have e9 := k0.cell_ 9 rfl
 obtain ⟨l32768, m32768⟩ := bitw_le h.qr 32768 (by decide)
 obtain ⟨l1024, m1024⟩ := bitw_le h.aa 1024 (by decide)
 obtain ⟨l512, m512⟩ := bitw_le h.tc 512 (by decide)
 obtain ⟨l256, m256⟩ := bitw_le h.rd 256 (by decide)
 obtain ⟨l128, m128⟩ := bitw_le h.ra 128 (by decide)
 obtain ⟨l32, m32⟩ := bitw_le h.ad 32 (by decide)
 obtain ⟨l16, m16⟩ := bitw_le h.cd 16 (by decide)
 go_wp2_with fail
 go_quiet ((go_at_call 319; exact Ret.quiet (bit_any _ _ _)))
 obtain ⟨W, hW⟩ : ∃ W, W = w1.drewN nq := ⟨_, rfl⟩
 rw [← hW]
 have hBW : Below w.heap.size w W := hW ▸ below_drewN hB nq
 have k2 : Blk W (w.heap.size + 1) 399 [.int .i64 c0, .int .i64 c1, .int .i64 c2, .int .i64 c3] := hW ▸ k1.drewN nq
 have k3 : Blk W w.heap.size 277 h.vals := hW ▸ k0.drewN nq
 clear hW k0 k1 hB e0 e1 e2 e3 e4 e5 e6 e7 e8 e9 l32768 l1024 l512 l256 l128 l32 l16 m32768 m1024 m512 m256 m128 m32 m16
 clear w1
 have e0 := k3.cell_ 0 rfl
 rw [show bitw h.qr 32768 + h.op * 2048 + bitw h.aa 1024 + bitw h.tc 512 + bitw h.rd 256 + bitw h.ra 128 + bitw h.ad 32 + bitw h.cd 16 + h.rc = h.num from rfl]
 go_wp2_with fail
 refine (put_any _ _ _).mono ?_
 rintro e w2 ⟨rfl, b2⟩
 rw [show hw 2 = 2 from rfl]
 have hB2 := below_then hBW hBW.size b2
 go_wp2_with fail
 refine (put_any _ _ _).mono ?_
 rintro e w3 ⟨rfl, b3⟩
 rw [show hw 2 = 2 from rfl]
 have hB3 := below_then hB2 hB2.size b3
 have k4 := (k2.below b2 k2.lt)
 have k5 := k4.below b3 k4.lt
 have d0 := k5.cell_ 0 rfl
 have d1 := k5.cell_ 1 rfl
 have d2 := k5.cell_ 2 rfl
 have d3 := k5.cell_ 3 rfl
 have n0 := putB_length 2 h.id
 have n1 := putB_length 2 h.num
 generalize hp : putB 2 h.id = p at *
 generalize hq : putB 2 h.num = q at *
 have Hp := Hh hp
 have Hq := Hh hq
 have pl : p.length ≤ 2 := by omega
 have ql : q.length ≤ 2 := by omega
 clear hp hq n0 n1 k2 k3 k4 k5 e0 hBW hB2 b2 b3
 go_wp2_with fail
 refine wp_loop_rounds 5 ?_
 rw [rounds_succ]
 go_wp2_with fail
 refine (within_yes _ _ _ g0).mono ?_
 rintro e w' ⟨rfl, rfl⟩
 go_wp2_with fail
 refine (put_any _ _ _).mono ?_
 rintro e v0 ⟨rfl, a0⟩
 rw [show hw 2 = 2 from rfl]
 have hC0 := below_then hB3 hB3.size a0
 have z0 := putB_length 2 c0
 generalize hz0 : putB 2 c0 = y0 at *
 have Hz0 := Hh hz0
 have yl0 : y0.length ≤ 2 := by omega
 clear hz0 z0
 go_wp2_with fail
 rw [rounds_succ]
 go_wp2_with fail
 refine (within_yes _ _ _ g1).mono ?_
 rintro e w' ⟨rfl, rfl⟩
 go_wp2_with fail
 refine (put_any _ _ _).mono ?_
 rintro e v1 ⟨rfl, a1⟩
 rw [show hw 2 = 2 from rfl]
 have hC1 := below_then hC0 hC0.size a1
 have z1 := putB_length 2 c1
 generalize hz1 : putB 2 c1 = y1 at *
 have Hz1 := Hh hz1
 have yl1 : y1.length ≤ 2 := by omega
 clear hz1 z1
 go_wp2_with fail
 rw [rounds_succ]
 go_wp2_with fail
 refine (within_no _ _ _ g2).mono ?_
 rintro e w' ⟨rfl, rfl⟩
 go_wp2_with fail
 go_ret2
 exact RetB.mk rfl hC1
set_option maxHeartbeats 1000000 in
theorem headPut_bad3 (h : Hd) (c0 c1 c2 c3 : Int) (w : World) (hk : h.ok = true) (g0 : 0 ≤ c0 ∧ c0 ≤ 65535) (g1 : 0 ≤ c1 ∧ c1 ≤ 65535) (g2 : 0 ≤ c2 ∧ c2 ≤ 65535) (g3 : ¬ (0 ≤ c3 ∧ c3 ≤ 65535)) :
  Calls prog 295 #[h.agg, cnts c0 c1 c2 c3] w (RetB (.tuple #[.string (bs []), .int .i64 4]) w) := by
 have hr : (0 ≤ h.id ∧ h.id ≤ 65535) ∧ (0 ≤ h.op ∧ h.op ≤ 15) ∧ (0 ≤ h.rc ∧ h.rc ≤ 15) := by simpa [Hd.ok, and_assoc] using hk
 obtain ⟨⟨i0, i1⟩, ⟨o0, o1⟩, ⟨r0, r1⟩⟩ := hr
 have i10 : ∀ w : World, (Instr.index 399 (.agg #[.int .i64 c0, .int .i64 c1, .int .i64 c2, .int .i64 c3]) (.int .i64 0)).run prog w = .ok (.int .i64 c0) w := fun _ => by kernel_rfl
 have i11 : ∀ w : World, (Instr.index 399 (.agg #[.int .i64 c0, .int .i64 c1, .int .i64 c2, .int .i64 c3]) (.int .i64 1)).run prog w = .ok (.int .i64 c1) w := fun _ => by kernel_rfl
 have i12 : ∀ w : World, (Instr.index 399 (.agg #[.int .i64 c0, .int .i64 c1, .int .i64 c2, .int .i64 c3]) (.int .i64 2)).run prog w = .ok (.int .i64 c2) w := fun _ => by kernel_rfl
 have i13 : ∀ w : World, (Instr.index 399 (.agg #[.int .i64 c0, .int .i64 c1, .int .i64 c2, .int .i64 c3]) (.int .i64 3)).run prog w = .ok (.int .i64 c3) w := fun _ => by kernel_rfl
 have HK := Hh hk
 clear hk
 simp only [Hd.agg, cnts]
 go_enter func295, ntmps295
 go_wp2_with fail
 refine (check_any h _).mono ?_
 rw [HK.out]
 rintro e w1 ⟨rfl, b1⟩
 have k0 : Blk w1 w.heap.size 277 h.vals := ((Blk.new w _ h.vals).alloc _).below b1 (by simp; omega)
 have k1 : Blk w1 (w.heap.size + 1) 399 [.int .i64 c0, .int .i64 c1, .int .i64 c2, .int .i64 c3] := (Blk.new' _ _ [.int .i64 c0, .int .i64 c1, .int .i64 c2, .int .i64 c3] _ (by simp)).below b1 (by simp)
 have hB : Below w.heap.size w w1 := below_then (by go_grown) (by simp; omega) b1
 clear b1
 have e0 := k0.cell_ 0 rfl
 have e1 := k0.cell_ 1 rfl
 have e2 := k0.cell_ 2 rfl
 have e3 := k0.cell_ 3 rfl
 have e4 := k0.cell_ 4 rfl
 have e5 := k0.cell_ 5 rfl
 have e6 := k0.cell_ 6 rfl
 have e7 := k0.cell_ 7 rfl
 have e8 := k0.cell_ 8 rfl
 have e9 := k0.cell_ 9 rfl
 obtain ⟨l32768, m32768⟩ := bitw_le h.qr 32768 (by decide)
 obtain ⟨l1024, m1024⟩ := bitw_le h.aa 1024 (by decide)
 obtain ⟨l512, m512⟩ := bitw_le h.tc 512 (by decide)
 obtain ⟨l256, m256⟩ := bitw_le h.rd 256 (by decide)
 obtain ⟨l128, m128⟩ := bitw_le h.ra 128 (by decide)
 obtain ⟨l32, m32⟩ := bitw_le h.ad 32 (by decide)
 obtain ⟨l16, m16⟩ := bitw_le h.cd 16 (by decide)
 go_wp2_with fail
 go_quiet ((go_at_call 319; exact Ret.quiet (bit_any _ _ _)))
 obtain ⟨W, hW⟩ : ∃ W, W = w1.drewN nq := ⟨_, rfl⟩
 rw [← hW]
 have hBW : Below w.heap.size w W := hW ▸ below_drewN hB nq
 have k2 : Blk W (w.heap.size + 1) 399 [.int .i64 c0, .int .i64 c1, .int .i64 c2, .int .i64 c3] := hW ▸ k1.drewN nq
 have k3 : Blk W w.heap.size 277 h.vals := hW ▸ k0.drewN nq
 clear hW k0 k1 hB e0 e1 e2 e3 e4 e5 e6 e7 e8 e9 l32768 l1024 l512 l256 l128 l32 l16 m32768 m1024 m512 m256 m128 m32 m16
 clear w1
 have e0 := k3.cell_ 0 rfl
 rw [show bitw h.qr 32768 + h.op * 2048 + bitw h.aa 1024 + bitw h.tc 512 + bitw h.rd 256 + bitw h.ra 128 + bitw h.ad 32 + bitw h.cd 16 + h.rc = h.num from rfl]
 go_wp2_with fail
 refine (put_any _ _ _).mono ?_
 rintro e w2 ⟨rfl, b2⟩
 rw [show hw 2 = 2 from rfl]
 have hB2 := below_then hBW hBW.size b2
 go_wp2_with fail
 refine (put_any _ _ _).mono ?_
 rintro e w3 ⟨rfl, b3⟩
 rw [show hw 2 = 2 from rfl]
 have hB3 := below_then hB2 hB2.size b3
 have k4 := (k2.below b2 k2.lt)
 have k5 := k4.below b3 k4.lt
 have d0 := k5.cell_ 0 rfl
 have d1 := k5.cell_ 1 rfl
 have d2 := k5.cell_ 2 rfl
 have d3 := k5.cell_ 3 rfl
 have n0 := putB_length 2 h.id
 have n1 := putB_length 2 h.num
 generalize hp : putB 2 h.id = p at *
 generalize hq : putB 2 h.num = q at *
 have Hp := Hh hp
 have Hq := Hh hq
 have pl : p.length ≤ 2 := by omega
 have ql : q.length ≤ 2 := by omega
 clear hp hq n0 n1 k2 k3 k4 k5 e0 hBW hB2 b2 b3
 go_wp2_with fail
 refine wp_loop_rounds 5 ?_
 rw [rounds_succ]
 go_wp2_with fail
 refine (within_yes _ _ _ g0).mono ?_
 rintro e w' ⟨rfl, rfl⟩
 go_wp2_with fail
 refine (put_any _ _ _).mono ?_
 rintro e v0 ⟨rfl, a0⟩
 rw [show hw 2 = 2 from rfl]
 have hC0 := below_then hB3 hB3.size a0
 have z0 := putB_length 2 c0
 generalize hz0 : putB 2 c0 = y0 at *
 have Hz0 := Hh hz0
 have yl0 : y0.length ≤ 2 := by omega
 clear hz0 z0
 go_wp2_with fail
 rw [rounds_succ]
 go_wp2_with fail
 refine (within_yes _ _ _ g1).mono ?_
 rintro e w' ⟨rfl, rfl⟩
 go_wp2_with fail
 refine (put_any _ _ _).mono ?_
 rintro e v1 ⟨rfl, a1⟩
 rw [show hw 2 = 2 from rfl]
 have hC1 := below_then hC0 hC0.size a1
 have z1 := putB_length 2 c1
 generalize hz1 : putB 2 c1 = y1 at *
 have Hz1 := Hh hz1
 have yl1 : y1.length ≤ 2 := by omega
 clear hz1 z1
 go_wp2_with fail
 rw [rounds_succ]
 go_wp2_with fail
 refine (within_yes _ _ _ g2).mono ?_
 rintro e w' ⟨rfl, rfl⟩
 go_wp2_with fail
 refine (put_any _ _ _).mono ?_
 rintro e v2 ⟨rfl, a2⟩
 rw [show hw 2 = 2 from rfl]
 have hC2 := below_then hC1 hC1.size a2
 have z2 := putB_length 2 c2
 generalize hz2 : putB 2 c2 = y2 at *
 have Hz2 := Hh hz2
 have yl2 : y2.length ≤ 2 := by omega
 clear hz2 z2
 go_wp2_with fail
 rw [rounds_succ]
 go_wp2_with fail
 refine (within_no _ _ _ g3).mono ?_
 rintro e w' ⟨rfl, rfl⟩
 go_wp2_with fail
 go_ret2
 exact RetB.mk rfl hC2
def putRes (h : Hd) (c0 c1 c2 c3 : Int) : List UInt8 × Int :=
 if h.ok = true ∧ (0 ≤ c0 ∧ c0 ≤ 65535) ∧ (0 ≤ c1 ∧ c1 ≤ 65535) ∧ (0 ≤ c2 ∧ c2 ≤ 65535) ∧ (0 ≤ c3 ∧ c3 ≤ 65535) then (putHead h c0 c1 c2 c3, 0) else ([], 4)
theorem headPut_any (h : Hd) (c0 c1 c2 c3 : Int) (w : World) :
  Calls prog 295 #[h.agg, cnts c0 c1 c2 c3] w (RetB (.tuple #[.string (bs (putRes h c0 c1 c2 c3).1), .int .i64 (putRes h c0 c1 c2 c3).2]) w) := by
 unfold putRes
 cases hk : h.ok with
 | false => rw [if_neg (by simp)]; exact headPut_bad h c0 c1 c2 c3 w hk
 | true =>
  by_cases g0 : 0 ≤ c0 ∧ c0 ≤ 65535
  ·
   by_cases g1 : 0 ≤ c1 ∧ c1 ≤ 65535
   ·
    by_cases g2 : 0 ≤ c2 ∧ c2 ≤ 65535
    ·
     by_cases g3 : 0 ≤ c3 ∧ c3 ≤ 65535
     ·
      rw [if_pos ⟨rfl, g0, g1, g2, g3⟩]; exact headPut_ok h c0 c1 c2 c3 w hk g0 g1 g2 g3
     ·
      rw [if_neg (fun hh => g3 hh.2.2.2.2)]; exact headPut_bad3 h c0 c1 c2 c3 w hk g0 g1 g2 g3
    ·
     rw [if_neg (fun hh => g2 hh.2.2.2.1)]; exact headPut_bad2 h c0 c1 c2 c3 w hk g0 g1 g2
   ·
    rw [if_neg (fun hh => g1 hh.2.2.1)]; exact headPut_bad1 h c0 c1 c2 c3 w hk g0 g1
  ·
   rw [if_neg (fun hh => g0 hh.2.1)]; exact headPut_bad0 h c0 c1 c2 c3 w hk g0
end Go.Proofs.YteimenplbanooaaGreatDoor

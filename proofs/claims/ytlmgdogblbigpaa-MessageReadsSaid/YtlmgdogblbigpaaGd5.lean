/-
  Layer 13 (rdata): Get, of names, SRV, SOA; any.
-/
import Derived.Test.YtlmgdogblbigpaaGd4
namespace Go.Proofs.Ytlmgdogblbigpaa
open Go.RowKit
set_option maxRecDepth 100000
set_option linter.unusedVariables false
set_option linter.unusedSimpArgs false

def mapE {α β : Type} (f : α → β) (o : Except Int α) : Except Int β := match o with
  | .error e => .error e
  | .ok x => .ok (f x)
set_option maxHeartbeats 1000000 in
theorem rget_adr_no (k : Nat) (hkf : k = 1 ∨ k = 28) (m : List UInt8) (a n : Nat) (ty cl : Int) (w : World) (hm : a + n ≤ m.length) (hl : m.length ≤ 4000000) (hk : kindR ty cl = k) (hn : n ≠ if k = 1 then 4 else 16) :
    Calls Try.prog 52 #[.string (bs m), .int .i64 a, .int .i64 n, .int .i64 ty, .int .i64 cl] w (GetR (.error 5) w) := by
  have K := Lib.hid (fun w => kindOf_any ty cl w)
  rw [hk] at K
  clear hk
  have hd : ((m.take (a + n)).drop a).length = n := by simp; omega
  have hl33 : rrZ.length = 33 := rrZ_len
  have hx : (5 : Int) ≠ 0 := by decide
  rcases hkf with rfl | rfl
  case inl =>
    have GA := Lib.hid (fun g w => getAddr_no g ((m.take (a + n)).drop a) 4 4 w (by rw [hd]; simpa using hn))
    clear hn hd
    have k1 : (0 : Int) ≤ a := by omega
    have k2 : (0 : Int) ≤ n := by omega
    have k3 : (a : Int) ≤ m.length := by omega
    have k4 : (n : Int) ≤ (m.length : Int) - a := by omega
    have k5 : (a : Int) + n ≤ m.length := by omega
    have hs0 : ((a : Int) + n).toNat = a + n := by omega
    obtain ⟨z1, hz1⟩ : ∃ z1, z1 = w.alloc (.cells rrZ.toArray 86) := ⟨_, rfl⟩
    obtain ⟨W, hW⟩ : ∃ W, W = z1.alloc (.cells rrZ.toArray 86) := ⟨_, rfl⟩
    have B10 : Blk W w.heap.size 86 rrZ := by rw [hW, hz1]; exact (Blk.new w 86 rrZ).alloc _
    have B12 : Blk W (w.heap.size + 1) 86 rrZ := by rw [hW, hz1]; exact Blk.new' _ _ rrZ _ (by simp)
    have HB : Below w.heap.size w W := by rw [hW, hz1]; exact ((Below.refl _ _).alloc (Nat.le_refl _) _).alloc (by simp) _
    have HW : Hid ((w.alloc (.cells #[.slice none 0 0, .int .i64 0, .int .i64 0, .int .i64 0, .int .i64 0, .int .u8 0, .int .u8 0, .int .u8 0, .int .u8 0, .int .u8 0, .int .u8 0, .int .u8 0, .int .u8 0, .int .u8 0, .int .u8 0, .int .u8 0, .int .u8 0, .int .u8 0, .int .u8 0, .int .u8 0, .int .u8 0, .int .i64 0, .slice none 0 0, .slice none 0 0, .int .i64 0, .int .i64 0, .int .i64 0, .int .i64 0, .int .i64 0, .int .i64 0, .int .i64 0, .int .i64 0, .string ⟨#[]⟩] 86)).alloc (.cells #[.slice none 0 0, .int .i64 0, .int .i64 0, .int .i64 0, .int .i64 0, .int .u8 0, .int .u8 0, .int .u8 0, .int .u8 0, .int .u8 0, .int .u8 0, .int .u8 0, .int .u8 0, .int .u8 0, .int .u8 0, .int .u8 0, .int .u8 0, .int .u8 0, .int .u8 0, .int .u8 0, .int .u8 0, .int .i64 0, .slice none 0 0, .slice none 0 0, .int .i64 0, .int .i64 0, .int .i64 0, .int .i64 0, .int .i64 0, .int .i64 0, .int .i64 0, .int .i64 0, .string ⟨#[]⟩] 86) = W) := Lib.hid (by rw [hW, hz1, rrZ_lit])
    have hWs : W.heap.size = w.heap.size + 1 + 1 := by rw [hW, hz1]; simp
    clear hW hz1
    go_enter Try.func52, Try.ntmps52
    go_wp2_with fail
    rw [HW.out]
    refine (K.out W).mono ?_
    rintro _ w1 ⟨rfl, rfl⟩
    clear K HW
    go_wp2_with fail
    rw [List.take_take, Nat.min_self]
    refine (GA.out (w.heap.size + 1) W).mono ?_
    rintro _ w2 ⟨rfl, rfl⟩
    have A2 := B10
    have HB2 := HB
    clear B12 B10 HB GA
    go_wp2_with (refine at_op (.store 86 (.tmp 10) (.tmp 77)) rfl ?_; go_must (refine wpList_stB rfl 86 (.tmp 10) (.tmp 77) rfl w.heap.size 0 rfl rrZ rfl A2 (by rw [rrZ_len]; omega) (by rw [rrZ_len]; exact rrInfo) rrZ_one ?_))
    intro w3 hb3 hg3 _
    rw [List.drop_of_length_le (by rw [rrZ_len]; omega), List.append_nil] at hb3
    have HB3 := below_grown HB2 hg3 HB2.size (Nat.le_refl _)
    clear hg3 A2 HB2
    go_wp2_with fail
    refine ret_cell_tmp rfl w.heap.size rfl hb3 _ Try.underlying86 rfl (by rw [rrZ_len]; exact rrInfo) rfl (.int .i64 5) rfl ?_
    exact ⟨hx, rfl, HB3⟩
  case inr =>
    have GA := Lib.hid (fun g w => getAddr_no g ((m.take (a + n)).drop a) 16 6 w (by rw [hd]; simpa using hn))
    clear hn hd
    have k1 : (0 : Int) ≤ a := by omega
    have k2 : (0 : Int) ≤ n := by omega
    have k3 : (a : Int) ≤ m.length := by omega
    have k4 : (n : Int) ≤ (m.length : Int) - a := by omega
    have k5 : (a : Int) + n ≤ m.length := by omega
    have hs0 : ((a : Int) + n).toNat = a + n := by omega
    obtain ⟨z1, hz1⟩ : ∃ z1, z1 = w.alloc (.cells rrZ.toArray 86) := ⟨_, rfl⟩
    obtain ⟨W, hW⟩ : ∃ W, W = z1.alloc (.cells rrZ.toArray 86) := ⟨_, rfl⟩
    have B10 : Blk W w.heap.size 86 rrZ := by rw [hW, hz1]; exact (Blk.new w 86 rrZ).alloc _
    have B12 : Blk W (w.heap.size + 1) 86 rrZ := by rw [hW, hz1]; exact Blk.new' _ _ rrZ _ (by simp)
    have HB : Below w.heap.size w W := by rw [hW, hz1]; exact ((Below.refl _ _).alloc (Nat.le_refl _) _).alloc (by simp) _
    have HW : Hid ((w.alloc (.cells #[.slice none 0 0, .int .i64 0, .int .i64 0, .int .i64 0, .int .i64 0, .int .u8 0, .int .u8 0, .int .u8 0, .int .u8 0, .int .u8 0, .int .u8 0, .int .u8 0, .int .u8 0, .int .u8 0, .int .u8 0, .int .u8 0, .int .u8 0, .int .u8 0, .int .u8 0, .int .u8 0, .int .u8 0, .int .i64 0, .slice none 0 0, .slice none 0 0, .int .i64 0, .int .i64 0, .int .i64 0, .int .i64 0, .int .i64 0, .int .i64 0, .int .i64 0, .int .i64 0, .string ⟨#[]⟩] 86)).alloc (.cells #[.slice none 0 0, .int .i64 0, .int .i64 0, .int .i64 0, .int .i64 0, .int .u8 0, .int .u8 0, .int .u8 0, .int .u8 0, .int .u8 0, .int .u8 0, .int .u8 0, .int .u8 0, .int .u8 0, .int .u8 0, .int .u8 0, .int .u8 0, .int .u8 0, .int .u8 0, .int .u8 0, .int .u8 0, .int .i64 0, .slice none 0 0, .slice none 0 0, .int .i64 0, .int .i64 0, .int .i64 0, .int .i64 0, .int .i64 0, .int .i64 0, .int .i64 0, .int .i64 0, .string ⟨#[]⟩] 86) = W) := Lib.hid (by rw [hW, hz1, rrZ_lit])
    have hWs : W.heap.size = w.heap.size + 1 + 1 := by rw [hW, hz1]; simp
    clear hW hz1
    go_enter Try.func52, Try.ntmps52
    go_wp2_with fail
    rw [HW.out]
    refine (K.out W).mono ?_
    rintro _ w1 ⟨rfl, rfl⟩
    clear K HW
    go_wp2_with fail
    rw [List.take_take, Nat.min_self]
    refine (GA.out (w.heap.size + 1) W).mono ?_
    rintro _ w2 ⟨rfl, rfl⟩
    have A2 := B10
    have HB2 := HB
    clear B12 B10 HB GA
    go_wp2_with (refine at_op (.store 86 (.tmp 10) (.tmp 77)) rfl ?_; go_must (refine wpList_stB rfl 86 (.tmp 10) (.tmp 77) rfl w.heap.size 0 rfl rrZ rfl A2 (by rw [rrZ_len]; omega) (by rw [rrZ_len]; exact rrInfo) rrZ_one ?_))
    intro w3 hb3 hg3 _
    rw [List.drop_of_length_le (by rw [rrZ_len]; omega), List.append_nil] at hb3
    have HB3 := below_grown HB2 hg3 HB2.size (Nat.le_refl _)
    clear hg3 A2 HB2
    go_wp2_with fail
    refine ret_cell_tmp rfl w.heap.size rfl hb3 _ Try.underlying86 rfl (by rw [rrZ_len]; exact rrInfo) rfl (.int .i64 5) rfl ?_
    exact ⟨hx, rfl, HB3⟩
set_option maxHeartbeats 1000000 in
theorem rget_name (k : Nat) (hkf : k = 5 ∨ k = 12) (m : List UInt8) (a n : Nat) (ty cl : Int) (w : World) (hm : a + n ≤ m.length) (hl : m.length ≤ 4000000) (hk : kindR ty cl = k) (o : Except Int (List (List UInt8))) (ho : targAt (m.take (a + n)) a = o) :
    Calls Try.prog 52 #[.string (bs m), .int .i64 a, .int .i64 n, .int .i64 ty, .int .i64 cl] w (GetR (mapE (fun l => { RR.zero with tg := l }) o) w) := by
  have K := Lib.hid (fun w => kindOf_any ty cl w)
  rw [hk] at K
  clear hk
  have hl33 : rrZ.length = 33 := rrZ_len
  have TG := Lib.hid (fun g w hb => getTarget_any g rrZ (m.take (a + n)) a w hb hl33 (by simp; omega))
  rw [ho] at TG
  clear ho
  cases o with
  | error x =>
    simp only [mapE]
    rcases hkf with rfl | rfl
    case inl =>
      have k1 : (0 : Int) ≤ a := by omega
      have k2 : (0 : Int) ≤ n := by omega
      have k3 : (a : Int) ≤ m.length := by omega
      have k4 : (n : Int) ≤ (m.length : Int) - a := by omega
      have k5 : (a : Int) + n ≤ m.length := by omega
      have hs0 : ((a : Int) + n).toNat = a + n := by omega
      obtain ⟨z1, hz1⟩ : ∃ z1, z1 = w.alloc (.cells rrZ.toArray 86) := ⟨_, rfl⟩
      obtain ⟨W, hW⟩ : ∃ W, W = z1.alloc (.cells rrZ.toArray 86) := ⟨_, rfl⟩
      have B10 : Blk W w.heap.size 86 rrZ := by rw [hW, hz1]; exact (Blk.new w 86 rrZ).alloc _
      have B12 : Blk W (w.heap.size + 1) 86 rrZ := by rw [hW, hz1]; exact Blk.new' _ _ rrZ _ (by simp)
      have HB : Below w.heap.size w W := by rw [hW, hz1]; exact ((Below.refl _ _).alloc (Nat.le_refl _) _).alloc (by simp) _
      have HW : Hid ((w.alloc (.cells #[.slice none 0 0, .int .i64 0, .int .i64 0, .int .i64 0, .int .i64 0, .int .u8 0, .int .u8 0, .int .u8 0, .int .u8 0, .int .u8 0, .int .u8 0, .int .u8 0, .int .u8 0, .int .u8 0, .int .u8 0, .int .u8 0, .int .u8 0, .int .u8 0, .int .u8 0, .int .u8 0, .int .u8 0, .int .i64 0, .slice none 0 0, .slice none 0 0, .int .i64 0, .int .i64 0, .int .i64 0, .int .i64 0, .int .i64 0, .int .i64 0, .int .i64 0, .int .i64 0, .string ⟨#[]⟩] 86)).alloc (.cells #[.slice none 0 0, .int .i64 0, .int .i64 0, .int .i64 0, .int .i64 0, .int .u8 0, .int .u8 0, .int .u8 0, .int .u8 0, .int .u8 0, .int .u8 0, .int .u8 0, .int .u8 0, .int .u8 0, .int .u8 0, .int .u8 0, .int .u8 0, .int .u8 0, .int .u8 0, .int .u8 0, .int .u8 0, .int .i64 0, .slice none 0 0, .slice none 0 0, .int .i64 0, .int .i64 0, .int .i64 0, .int .i64 0, .int .i64 0, .int .i64 0, .int .i64 0, .int .i64 0, .string ⟨#[]⟩] 86) = W) := Lib.hid (by rw [hW, hz1, rrZ_lit])
      have hWs : W.heap.size = w.heap.size + 1 + 1 := by rw [hW, hz1]; simp
      clear hW hz1
      go_enter Try.func52, Try.ntmps52
      go_wp2_with fail
      rw [HW.out]
      refine (K.out W).mono ?_
      rintro _ w1 ⟨rfl, rfl⟩
      clear K HW
      go_wp2_with fail
      refine (TG.out (w.heap.size + 1) W B12).mono ?_
      rintro _ w2 ⟨hx, rfl, B2, g2⟩
      have hxz : (x != 0) = true := by simpa using hx
      have A2 := B10.grown g2 (by simp)
      have HB2 := below_grown HB g2 HB.size (by omega)
      clear B12 B10 HB TG g2
      go_wp2_with (refine at_op (.store 86 (.tmp 10) (.tmp 77)) rfl ?_; go_must (refine wpList_stB rfl 86 (.tmp 10) (.tmp 77) rfl w.heap.size 0 rfl rrZ rfl A2 (by rw [rrZ_len]; omega) (by rw [rrZ_len]; exact rrInfo) rrZ_one ?_))
      intro w3 hb3 hg3 _
      rw [List.drop_of_length_le (by rw [rrZ_len]; omega), List.append_nil] at hb3
      have HB3 := below_grown HB2 hg3 HB2.size (Nat.le_refl _)
      clear hg3 A2 HB2
      go_wp2_with fail
      refine ret_cell_tmp rfl w.heap.size rfl hb3 _ Try.underlying86 rfl (by rw [rrZ_len]; exact rrInfo) rfl (.int .i64 x) rfl ?_
      exact ⟨hx, rfl, HB3⟩
    case inr =>
      have k1 : (0 : Int) ≤ a := by omega
      have k2 : (0 : Int) ≤ n := by omega
      have k3 : (a : Int) ≤ m.length := by omega
      have k4 : (n : Int) ≤ (m.length : Int) - a := by omega
      have k5 : (a : Int) + n ≤ m.length := by omega
      have hs0 : ((a : Int) + n).toNat = a + n := by omega
      obtain ⟨z1, hz1⟩ : ∃ z1, z1 = w.alloc (.cells rrZ.toArray 86) := ⟨_, rfl⟩
      obtain ⟨W, hW⟩ : ∃ W, W = z1.alloc (.cells rrZ.toArray 86) := ⟨_, rfl⟩
      have B10 : Blk W w.heap.size 86 rrZ := by rw [hW, hz1]; exact (Blk.new w 86 rrZ).alloc _
      have B12 : Blk W (w.heap.size + 1) 86 rrZ := by rw [hW, hz1]; exact Blk.new' _ _ rrZ _ (by simp)
      have HB : Below w.heap.size w W := by rw [hW, hz1]; exact ((Below.refl _ _).alloc (Nat.le_refl _) _).alloc (by simp) _
      have HW : Hid ((w.alloc (.cells #[.slice none 0 0, .int .i64 0, .int .i64 0, .int .i64 0, .int .i64 0, .int .u8 0, .int .u8 0, .int .u8 0, .int .u8 0, .int .u8 0, .int .u8 0, .int .u8 0, .int .u8 0, .int .u8 0, .int .u8 0, .int .u8 0, .int .u8 0, .int .u8 0, .int .u8 0, .int .u8 0, .int .u8 0, .int .i64 0, .slice none 0 0, .slice none 0 0, .int .i64 0, .int .i64 0, .int .i64 0, .int .i64 0, .int .i64 0, .int .i64 0, .int .i64 0, .int .i64 0, .string ⟨#[]⟩] 86)).alloc (.cells #[.slice none 0 0, .int .i64 0, .int .i64 0, .int .i64 0, .int .i64 0, .int .u8 0, .int .u8 0, .int .u8 0, .int .u8 0, .int .u8 0, .int .u8 0, .int .u8 0, .int .u8 0, .int .u8 0, .int .u8 0, .int .u8 0, .int .u8 0, .int .u8 0, .int .u8 0, .int .u8 0, .int .u8 0, .int .i64 0, .slice none 0 0, .slice none 0 0, .int .i64 0, .int .i64 0, .int .i64 0, .int .i64 0, .int .i64 0, .int .i64 0, .int .i64 0, .int .i64 0, .string ⟨#[]⟩] 86) = W) := Lib.hid (by rw [hW, hz1, rrZ_lit])
      have hWs : W.heap.size = w.heap.size + 1 + 1 := by rw [hW, hz1]; simp
      clear hW hz1
      go_enter Try.func52, Try.ntmps52
      go_wp2_with fail
      rw [HW.out]
      refine (K.out W).mono ?_
      rintro _ w1 ⟨rfl, rfl⟩
      clear K HW
      go_wp2_with fail
      refine (TG.out (w.heap.size + 1) W B12).mono ?_
      rintro _ w2 ⟨hx, rfl, B2, g2⟩
      have hxz : (x != 0) = true := by simpa using hx
      have A2 := B10.grown g2 (by simp)
      have HB2 := below_grown HB g2 HB.size (by omega)
      clear B12 B10 HB TG g2
      go_wp2_with (refine at_op (.store 86 (.tmp 10) (.tmp 77)) rfl ?_; go_must (refine wpList_stB rfl 86 (.tmp 10) (.tmp 77) rfl w.heap.size 0 rfl rrZ rfl A2 (by rw [rrZ_len]; omega) (by rw [rrZ_len]; exact rrInfo) rrZ_one ?_))
      intro w3 hb3 hg3 _
      rw [List.drop_of_length_le (by rw [rrZ_len]; omega), List.append_nil] at hb3
      have HB3 := below_grown HB2 hg3 HB2.size (Nat.le_refl _)
      clear hg3 A2 HB2
      go_wp2_with fail
      refine ret_cell_tmp rfl w.heap.size rfl hb3 _ Try.underlying86 rfl (by rw [rrZ_len]; exact rrInfo) rfl (.int .i64 x) rfl ?_
      exact ⟨hx, rfl, HB3⟩
  | ok l =>
    simp only [mapE]
    obtain ⟨r, hr⟩ : ∃ r : RR, r = { RR.zero with tg := l } := ⟨_, rfl⟩
    rw [← hr]
    rcases hkf with rfl | rfl
    case inl =>
      have k1 : (0 : Int) ≤ a := by omega
      have k2 : (0 : Int) ≤ n := by omega
      have k3 : (a : Int) ≤ m.length := by omega
      have k4 : (n : Int) ≤ (m.length : Int) - a := by omega
      have k5 : (a : Int) + n ≤ m.length := by omega
      have hs0 : ((a : Int) + n).toNat = a + n := by omega
      obtain ⟨z1, hz1⟩ : ∃ z1, z1 = w.alloc (.cells rrZ.toArray 86) := ⟨_, rfl⟩
      obtain ⟨W, hW⟩ : ∃ W, W = z1.alloc (.cells rrZ.toArray 86) := ⟨_, rfl⟩
      have B10 : Blk W w.heap.size 86 rrZ := by rw [hW, hz1]; exact (Blk.new w 86 rrZ).alloc _
      have B12 : Blk W (w.heap.size + 1) 86 rrZ := by rw [hW, hz1]; exact Blk.new' _ _ rrZ _ (by simp)
      have HB : Below w.heap.size w W := by rw [hW, hz1]; exact ((Below.refl _ _).alloc (Nat.le_refl _) _).alloc (by simp) _
      have HW : Hid ((w.alloc (.cells #[.slice none 0 0, .int .i64 0, .int .i64 0, .int .i64 0, .int .i64 0, .int .u8 0, .int .u8 0, .int .u8 0, .int .u8 0, .int .u8 0, .int .u8 0, .int .u8 0, .int .u8 0, .int .u8 0, .int .u8 0, .int .u8 0, .int .u8 0, .int .u8 0, .int .u8 0, .int .u8 0, .int .u8 0, .int .i64 0, .slice none 0 0, .slice none 0 0, .int .i64 0, .int .i64 0, .int .i64 0, .int .i64 0, .int .i64 0, .int .i64 0, .int .i64 0, .int .i64 0, .string ⟨#[]⟩] 86)).alloc (.cells #[.slice none 0 0, .int .i64 0, .int .i64 0, .int .i64 0, .int .i64 0, .int .u8 0, .int .u8 0, .int .u8 0, .int .u8 0, .int .u8 0, .int .u8 0, .int .u8 0, .int .u8 0, .int .u8 0, .int .u8 0, .int .u8 0, .int .u8 0, .int .u8 0, .int .u8 0, .int .u8 0, .int .u8 0, .int .i64 0, .slice none 0 0, .slice none 0 0, .int .i64 0, .int .i64 0, .int .i64 0, .int .i64 0, .int .i64 0, .int .i64 0, .int .i64 0, .int .i64 0, .string ⟨#[]⟩] 86) = W) := Lib.hid (by rw [hW, hz1, rrZ_lit])
      have hWs : W.heap.size = w.heap.size + 1 + 1 := by rw [hW, hz1]; simp
      clear hW hz1
      go_enter Try.func52, Try.ntmps52
      go_wp2_with fail
      rw [HW.out]
      refine (K.out W).mono ?_
      rintro _ w1 ⟨rfl, rfl⟩
      clear K HW
      go_wp2_with fail
      refine (TG.out (w.heap.size + 1) W B12).mono ?_
      rintro _ w2 ⟨v, rfl, B2, nv, g2⟩
      have A2 := B10.grown g2 (by simp)
      have HB2 := below_grown HB g2 HB.size (by omega)
      obtain ⟨L, hL⟩ : ∃ L, L = rrZ.set 22 v := ⟨_, rfl⟩
      rw [← hL] at B2
      replace hL : L = rrC nilS v nilS r := by rw [hL, hr]; rfl
      have hwf : r.wf := by rw [hr]; exact ⟨rfl, rfl⟩
      have ll : L.length = 33 := rget_len hL hwf
      have l1 : Hid (∀ v ∈ L, v.oneCell' = true) := Lib.hid (by rw [hL]; exact rrC_one rfl nv.one rfl)
      have OW : Hid (∀ w', Stays w2 w' → RRown w' L r) := Lib.hid (fun w' hS => ⟨nilS, v, nilS, hL, hwf, by rw [hr]; exact NmO.nil _, by rw [hr]; exact nv.stays hS, by rw [hr]; exact NmO.nil _, by rw [hr]; simp [RR.zero]⟩)
      clear hL B12 B10 HB g2 TG nv hr hwf
      go_wp2_with (first
        | (refine at_op (.load 86 (.tmp 12)) rfl ?_; go_must (refine wpList_ldB rfl 86 (.tmp 12) rfl (w.heap.size + 1) 0 rfl B2 33 (by omega) _ Try.underlying86 rfl rrInfo L (by rw [List.drop_zero, List.take_of_length_le (by omega)]) ?_))
        | (refine at_op (.store 86 (.tmp 10) (.tmp 79)) rfl ?_; go_must (refine wpList_stB rfl 86 (.tmp 10) (.tmp 79) rfl w.heap.size 0 rfl L rfl A2 (by rw [rrZ_len]; omega) (by rw [ll]; exact rrInfo) l1.out ?_)))
      intro w3 hb3 hg3 _
      rw [List.drop_of_length_le (by rw [rrZ_len]; omega), List.append_nil] at hb3
      have S3 := Stays.blk hg3 A2 (by decide)
      have HB3 := below_grown HB2 hg3 HB2.size (Nat.le_refl _)
      clear hg3 A2 B2 HB2
      go_wp2_with fail
      refine ret_cell_tmp rfl w.heap.size rfl hb3 _ Try.underlying86 rfl (by rw [ll]; exact rrInfo) rfl (.int .i64 0) rfl ?_
      exact ⟨L, rfl, OW.out _ S3, HB3⟩
    case inr =>
      have k1 : (0 : Int) ≤ a := by omega
      have k2 : (0 : Int) ≤ n := by omega
      have k3 : (a : Int) ≤ m.length := by omega
      have k4 : (n : Int) ≤ (m.length : Int) - a := by omega
      have k5 : (a : Int) + n ≤ m.length := by omega
      have hs0 : ((a : Int) + n).toNat = a + n := by omega
      obtain ⟨z1, hz1⟩ : ∃ z1, z1 = w.alloc (.cells rrZ.toArray 86) := ⟨_, rfl⟩
      obtain ⟨W, hW⟩ : ∃ W, W = z1.alloc (.cells rrZ.toArray 86) := ⟨_, rfl⟩
      have B10 : Blk W w.heap.size 86 rrZ := by rw [hW, hz1]; exact (Blk.new w 86 rrZ).alloc _
      have B12 : Blk W (w.heap.size + 1) 86 rrZ := by rw [hW, hz1]; exact Blk.new' _ _ rrZ _ (by simp)
      have HB : Below w.heap.size w W := by rw [hW, hz1]; exact ((Below.refl _ _).alloc (Nat.le_refl _) _).alloc (by simp) _
      have HW : Hid ((w.alloc (.cells #[.slice none 0 0, .int .i64 0, .int .i64 0, .int .i64 0, .int .i64 0, .int .u8 0, .int .u8 0, .int .u8 0, .int .u8 0, .int .u8 0, .int .u8 0, .int .u8 0, .int .u8 0, .int .u8 0, .int .u8 0, .int .u8 0, .int .u8 0, .int .u8 0, .int .u8 0, .int .u8 0, .int .u8 0, .int .i64 0, .slice none 0 0, .slice none 0 0, .int .i64 0, .int .i64 0, .int .i64 0, .int .i64 0, .int .i64 0, .int .i64 0, .int .i64 0, .int .i64 0, .string ⟨#[]⟩] 86)).alloc (.cells #[.slice none 0 0, .int .i64 0, .int .i64 0, .int .i64 0, .int .i64 0, .int .u8 0, .int .u8 0, .int .u8 0, .int .u8 0, .int .u8 0, .int .u8 0, .int .u8 0, .int .u8 0, .int .u8 0, .int .u8 0, .int .u8 0, .int .u8 0, .int .u8 0, .int .u8 0, .int .u8 0, .int .u8 0, .int .i64 0, .slice none 0 0, .slice none 0 0, .int .i64 0, .int .i64 0, .int .i64 0, .int .i64 0, .int .i64 0, .int .i64 0, .int .i64 0, .int .i64 0, .string ⟨#[]⟩] 86) = W) := Lib.hid (by rw [hW, hz1, rrZ_lit])
      have hWs : W.heap.size = w.heap.size + 1 + 1 := by rw [hW, hz1]; simp
      clear hW hz1
      go_enter Try.func52, Try.ntmps52
      go_wp2_with fail
      rw [HW.out]
      refine (K.out W).mono ?_
      rintro _ w1 ⟨rfl, rfl⟩
      clear K HW
      go_wp2_with fail
      refine (TG.out (w.heap.size + 1) W B12).mono ?_
      rintro _ w2 ⟨v, rfl, B2, nv, g2⟩
      have A2 := B10.grown g2 (by simp)
      have HB2 := below_grown HB g2 HB.size (by omega)
      obtain ⟨L, hL⟩ : ∃ L, L = rrZ.set 22 v := ⟨_, rfl⟩
      rw [← hL] at B2
      replace hL : L = rrC nilS v nilS r := by rw [hL, hr]; rfl
      have hwf : r.wf := by rw [hr]; exact ⟨rfl, rfl⟩
      have ll : L.length = 33 := rget_len hL hwf
      have l1 : Hid (∀ v ∈ L, v.oneCell' = true) := Lib.hid (by rw [hL]; exact rrC_one rfl nv.one rfl)
      have OW : Hid (∀ w', Stays w2 w' → RRown w' L r) := Lib.hid (fun w' hS => ⟨nilS, v, nilS, hL, hwf, by rw [hr]; exact NmO.nil _, by rw [hr]; exact nv.stays hS, by rw [hr]; exact NmO.nil _, by rw [hr]; simp [RR.zero]⟩)
      clear hL B12 B10 HB g2 TG nv hr hwf
      go_wp2_with (first
        | (refine at_op (.load 86 (.tmp 12)) rfl ?_; go_must (refine wpList_ldB rfl 86 (.tmp 12) rfl (w.heap.size + 1) 0 rfl B2 33 (by omega) _ Try.underlying86 rfl rrInfo L (by rw [List.drop_zero, List.take_of_length_le (by omega)]) ?_))
        | (refine at_op (.store 86 (.tmp 10) (.tmp 79)) rfl ?_; go_must (refine wpList_stB rfl 86 (.tmp 10) (.tmp 79) rfl w.heap.size 0 rfl L rfl A2 (by rw [rrZ_len]; omega) (by rw [ll]; exact rrInfo) l1.out ?_)))
      intro w3 hb3 hg3 _
      rw [List.drop_of_length_le (by rw [rrZ_len]; omega), List.append_nil] at hb3
      have S3 := Stays.blk hg3 A2 (by decide)
      have HB3 := below_grown HB2 hg3 HB2.size (Nat.le_refl _)
      clear hg3 A2 B2 HB2
      go_wp2_with fail
      refine ret_cell_tmp rfl w.heap.size rfl hb3 _ Try.underlying86 rfl (by rw [ll]; exact rrInfo) rfl (.int .i64 0) rfl ?_
      exact ⟨L, rfl, OW.out _ S3, HB3⟩
set_option maxHeartbeats 1000000 in
theorem rget_srv (m : List UInt8) (a n : Nat) (ty cl : Int) (w : World) (hm : a + n ≤ m.length) (hl : m.length ≤ 4000000) (hk : kindR ty cl = 33) (hn : 6 ≤ n) (o : Except Int (List (List UInt8))) (ho : targAt (m.take (a + n)) (a + 6) = o) :
    Calls Try.prog 52 #[.string (bs m), .int .i64 a, .int .i64 n, .int .i64 ty, .int .i64 cl] w (GetR (mapE (fun l => { RR.zero with pri := numB (((m.take (a + n)).drop a).take 2), we := numB ((((m.take (a + n)).drop a).drop 2).take 2), po := numB ((((m.take (a + n)).drop a).drop 4).take 2), tg := l }) o) w) := by
  have K := Lib.hid (fun w => kindOf_any ty cl w)
  rw [hk] at K
  clear hk
  have hl33 : rrZ.length = 33 := rrZ_len
  have TG := Lib.hid (fun g w hb => getSRV_long g rrZ (m.take (a + n)) a w hb hl33 (by simp; omega) (by simp; omega) (by simp; omega))
  rw [ho] at TG
  clear ho
  generalize numB (((m.take (a + n)).drop a).take 2) = n1 at *
  generalize numB ((((m.take (a + n)).drop a).drop 2).take 2) = n2 at *
  generalize numB ((((m.take (a + n)).drop a).drop 4).take 2) = n3 at *
  cases o with
  | error x =>
    simp only [mapE]
    have k1 : (0 : Int) ≤ a := by omega
    have k2 : (0 : Int) ≤ n := by omega
    have k3 : (a : Int) ≤ m.length := by omega
    have k4 : (n : Int) ≤ (m.length : Int) - a := by omega
    have k5 : (a : Int) + n ≤ m.length := by omega
    have hs0 : ((a : Int) + n).toNat = a + n := by omega
    obtain ⟨z1, hz1⟩ : ∃ z1, z1 = w.alloc (.cells rrZ.toArray 86) := ⟨_, rfl⟩
    obtain ⟨W, hW⟩ : ∃ W, W = z1.alloc (.cells rrZ.toArray 86) := ⟨_, rfl⟩
    have B10 : Blk W w.heap.size 86 rrZ := by rw [hW, hz1]; exact (Blk.new w 86 rrZ).alloc _
    have B12 : Blk W (w.heap.size + 1) 86 rrZ := by rw [hW, hz1]; exact Blk.new' _ _ rrZ _ (by simp)
    have HB : Below w.heap.size w W := by rw [hW, hz1]; exact ((Below.refl _ _).alloc (Nat.le_refl _) _).alloc (by simp) _
    have HW : Hid ((w.alloc (.cells #[.slice none 0 0, .int .i64 0, .int .i64 0, .int .i64 0, .int .i64 0, .int .u8 0, .int .u8 0, .int .u8 0, .int .u8 0, .int .u8 0, .int .u8 0, .int .u8 0, .int .u8 0, .int .u8 0, .int .u8 0, .int .u8 0, .int .u8 0, .int .u8 0, .int .u8 0, .int .u8 0, .int .u8 0, .int .i64 0, .slice none 0 0, .slice none 0 0, .int .i64 0, .int .i64 0, .int .i64 0, .int .i64 0, .int .i64 0, .int .i64 0, .int .i64 0, .int .i64 0, .string ⟨#[]⟩] 86)).alloc (.cells #[.slice none 0 0, .int .i64 0, .int .i64 0, .int .i64 0, .int .i64 0, .int .u8 0, .int .u8 0, .int .u8 0, .int .u8 0, .int .u8 0, .int .u8 0, .int .u8 0, .int .u8 0, .int .u8 0, .int .u8 0, .int .u8 0, .int .u8 0, .int .u8 0, .int .u8 0, .int .u8 0, .int .u8 0, .int .i64 0, .slice none 0 0, .slice none 0 0, .int .i64 0, .int .i64 0, .int .i64 0, .int .i64 0, .int .i64 0, .int .i64 0, .int .i64 0, .int .i64 0, .string ⟨#[]⟩] 86) = W) := Lib.hid (by rw [hW, hz1, rrZ_lit])
    have hWs : W.heap.size = w.heap.size + 1 + 1 := by rw [hW, hz1]; simp
    clear hW hz1
    go_enter Try.func52, Try.ntmps52
    go_wp2_with fail
    rw [HW.out]
    refine (K.out W).mono ?_
    rintro _ w1 ⟨rfl, rfl⟩
    clear K HW
    go_wp2_with fail
    refine (TG.out (w.heap.size + 1) W B12).mono ?_
    rintro _ w2 ⟨wx, gx, hx, rfl, B2, g2'⟩
    have g2 := grown_trans gx g2' (.inl rfl)
    have hxz : (x != 0) = true := by simpa using hx
    have A2 := B10.grown g2 (by simp)
    have HB2 := below_grown HB g2 HB.size (by omega)
    clear B12 B10 HB TG g2 gx g2'
    go_wp2_with (refine at_op (.store 86 (.tmp 10) (.tmp 77)) rfl ?_; go_must (refine wpList_stB rfl 86 (.tmp 10) (.tmp 77) rfl w.heap.size 0 rfl rrZ rfl A2 (by rw [rrZ_len]; omega) (by rw [rrZ_len]; exact rrInfo) rrZ_one ?_))
    intro w3 hb3 hg3 _
    rw [List.drop_of_length_le (by rw [rrZ_len]; omega), List.append_nil] at hb3
    have HB3 := below_grown HB2 hg3 HB2.size (Nat.le_refl _)
    clear hg3 A2 HB2
    go_wp2_with fail
    refine ret_cell_tmp rfl w.heap.size rfl hb3 _ Try.underlying86 rfl (by rw [rrZ_len]; exact rrInfo) rfl (.int .i64 x) rfl ?_
    exact ⟨hx, rfl, HB3⟩
  | ok l =>
    simp only [mapE]
    obtain ⟨r, hr⟩ : ∃ r : RR, r = { RR.zero with pri := n1, we := n2, po := n3, tg := l } := ⟨_, rfl⟩
    rw [← hr]
    have k1 : (0 : Int) ≤ a := by omega
    have k2 : (0 : Int) ≤ n := by omega
    have k3 : (a : Int) ≤ m.length := by omega
    have k4 : (n : Int) ≤ (m.length : Int) - a := by omega
    have k5 : (a : Int) + n ≤ m.length := by omega
    have hs0 : ((a : Int) + n).toNat = a + n := by omega
    obtain ⟨z1, hz1⟩ : ∃ z1, z1 = w.alloc (.cells rrZ.toArray 86) := ⟨_, rfl⟩
    obtain ⟨W, hW⟩ : ∃ W, W = z1.alloc (.cells rrZ.toArray 86) := ⟨_, rfl⟩
    have B10 : Blk W w.heap.size 86 rrZ := by rw [hW, hz1]; exact (Blk.new w 86 rrZ).alloc _
    have B12 : Blk W (w.heap.size + 1) 86 rrZ := by rw [hW, hz1]; exact Blk.new' _ _ rrZ _ (by simp)
    have HB : Below w.heap.size w W := by rw [hW, hz1]; exact ((Below.refl _ _).alloc (Nat.le_refl _) _).alloc (by simp) _
    have HW : Hid ((w.alloc (.cells #[.slice none 0 0, .int .i64 0, .int .i64 0, .int .i64 0, .int .i64 0, .int .u8 0, .int .u8 0, .int .u8 0, .int .u8 0, .int .u8 0, .int .u8 0, .int .u8 0, .int .u8 0, .int .u8 0, .int .u8 0, .int .u8 0, .int .u8 0, .int .u8 0, .int .u8 0, .int .u8 0, .int .u8 0, .int .i64 0, .slice none 0 0, .slice none 0 0, .int .i64 0, .int .i64 0, .int .i64 0, .int .i64 0, .int .i64 0, .int .i64 0, .int .i64 0, .int .i64 0, .string ⟨#[]⟩] 86)).alloc (.cells #[.slice none 0 0, .int .i64 0, .int .i64 0, .int .i64 0, .int .i64 0, .int .u8 0, .int .u8 0, .int .u8 0, .int .u8 0, .int .u8 0, .int .u8 0, .int .u8 0, .int .u8 0, .int .u8 0, .int .u8 0, .int .u8 0, .int .u8 0, .int .u8 0, .int .u8 0, .int .u8 0, .int .u8 0, .int .i64 0, .slice none 0 0, .slice none 0 0, .int .i64 0, .int .i64 0, .int .i64 0, .int .i64 0, .int .i64 0, .int .i64 0, .int .i64 0, .int .i64 0, .string ⟨#[]⟩] 86) = W) := Lib.hid (by rw [hW, hz1, rrZ_lit])
    have hWs : W.heap.size = w.heap.size + 1 + 1 := by rw [hW, hz1]; simp
    clear hW hz1
    go_enter Try.func52, Try.ntmps52
    go_wp2_with fail
    rw [HW.out]
    refine (K.out W).mono ?_
    rintro _ w1 ⟨rfl, rfl⟩
    clear K HW
    go_wp2_with fail
    refine (TG.out (w.heap.size + 1) W B12).mono ?_
    rintro _ w2 ⟨wx, gx, v, rfl, B2, nv, g2'⟩
    have g2 := grown_trans gx g2' (.inl rfl)
    have A2 := B10.grown g2 (by simp)
    have HB2 := below_grown HB g2 HB.size (by omega)
    obtain ⟨L, hL⟩ : ∃ L, L = (srvL rrZ n1 n2 n3).set 22 v := ⟨_, rfl⟩
    rw [← hL] at B2
    replace hL : L = rrC nilS v nilS r := by rw [hL, hr]; rfl
    have hwf : r.wf := by rw [hr]; exact ⟨rfl, rfl⟩
    have ll : L.length = 33 := rget_len hL hwf
    have l1 : Hid (∀ v ∈ L, v.oneCell' = true) := Lib.hid (by rw [hL]; exact rrC_one rfl nv.one rfl)
    have OW : Hid (∀ w', Stays w2 w' → RRown w' L r) := Lib.hid (fun w' hS => ⟨nilS, v, nilS, hL, hwf, by rw [hr]; exact NmO.nil _, by rw [hr]; exact nv.stays hS, by rw [hr]; exact NmO.nil _, by rw [hr]; simp [RR.zero]⟩)
    clear hL B12 B10 HB g2 gx g2' TG nv hr
    go_wp2_with (first
      | (refine at_op (.load 86 (.tmp 12)) rfl ?_; go_must (refine wpList_ldB rfl 86 (.tmp 12) rfl (w.heap.size + 1) 0 rfl B2 33 (by omega) _ Try.underlying86 rfl rrInfo L (by rw [List.drop_zero, List.take_of_length_le (by omega)]) ?_))
      | (refine at_op (.store 86 (.tmp 10) (.tmp 79)) rfl ?_; go_must (refine wpList_stB rfl 86 (.tmp 10) (.tmp 79) rfl w.heap.size 0 rfl L rfl A2 (by rw [rrZ_len]; omega) (by rw [ll]; exact rrInfo) l1.out ?_)))
    intro w3 hb3 hg3 _
    rw [List.drop_of_length_le (by rw [rrZ_len]; omega), List.append_nil] at hb3
    have S3 := Stays.blk hg3 A2 (by decide)
    have HB3 := below_grown HB2 hg3 HB2.size (Nat.le_refl _)
    clear hg3 A2 B2 HB2
    go_wp2_with fail
    refine ret_cell_tmp rfl w.heap.size rfl hb3 _ Try.underlying86 rfl (by rw [ll]; exact rrInfo) rfl (.int .i64 0) rfl ?_
    exact ⟨L, rfl, OW.out _ S3, HB3⟩
set_option maxHeartbeats 1000000 in
theorem rget_srv_no (m : List UInt8) (a n : Nat) (ty cl : Int) (w : World) (hm : a + n ≤ m.length) (hl : m.length ≤ 4000000) (hk : kindR ty cl = 33) (hn : n < 6) :
    Calls Try.prog 52 #[.string (bs m), .int .i64 a, .int .i64 n, .int .i64 ty, .int .i64 cl] w (GetR (.error 5) w) := by
  have K := Lib.hid (fun w => kindOf_any ty cl w)
  rw [hk] at K
  clear hk
  have hl33 : rrZ.length = 33 := rrZ_len
  have TG := Lib.hid (fun g w hb => getSRV_short g rrZ (m.take (a + n)) a w hb hl33 (by simp; omega) (by simp; omega) (by simp; omega))
  have hx : (5 : Int) ≠ 0 := by decide
  clear hn
  have k1 : (0 : Int) ≤ a := by omega
  have k2 : (0 : Int) ≤ n := by omega
  have k3 : (a : Int) ≤ m.length := by omega
  have k4 : (n : Int) ≤ (m.length : Int) - a := by omega
  have k5 : (a : Int) + n ≤ m.length := by omega
  have hs0 : ((a : Int) + n).toNat = a + n := by omega
  obtain ⟨z1, hz1⟩ : ∃ z1, z1 = w.alloc (.cells rrZ.toArray 86) := ⟨_, rfl⟩
  obtain ⟨W, hW⟩ : ∃ W, W = z1.alloc (.cells rrZ.toArray 86) := ⟨_, rfl⟩
  have B10 : Blk W w.heap.size 86 rrZ := by rw [hW, hz1]; exact (Blk.new w 86 rrZ).alloc _
  have B12 : Blk W (w.heap.size + 1) 86 rrZ := by rw [hW, hz1]; exact Blk.new' _ _ rrZ _ (by simp)
  have HB : Below w.heap.size w W := by rw [hW, hz1]; exact ((Below.refl _ _).alloc (Nat.le_refl _) _).alloc (by simp) _
  have HW : Hid ((w.alloc (.cells #[.slice none 0 0, .int .i64 0, .int .i64 0, .int .i64 0, .int .i64 0, .int .u8 0, .int .u8 0, .int .u8 0, .int .u8 0, .int .u8 0, .int .u8 0, .int .u8 0, .int .u8 0, .int .u8 0, .int .u8 0, .int .u8 0, .int .u8 0, .int .u8 0, .int .u8 0, .int .u8 0, .int .u8 0, .int .i64 0, .slice none 0 0, .slice none 0 0, .int .i64 0, .int .i64 0, .int .i64 0, .int .i64 0, .int .i64 0, .int .i64 0, .int .i64 0, .int .i64 0, .string ⟨#[]⟩] 86)).alloc (.cells #[.slice none 0 0, .int .i64 0, .int .i64 0, .int .i64 0, .int .i64 0, .int .u8 0, .int .u8 0, .int .u8 0, .int .u8 0, .int .u8 0, .int .u8 0, .int .u8 0, .int .u8 0, .int .u8 0, .int .u8 0, .int .u8 0, .int .u8 0, .int .u8 0, .int .u8 0, .int .u8 0, .int .u8 0, .int .i64 0, .slice none 0 0, .slice none 0 0, .int .i64 0, .int .i64 0, .int .i64 0, .int .i64 0, .int .i64 0, .int .i64 0, .int .i64 0, .int .i64 0, .string ⟨#[]⟩] 86) = W) := Lib.hid (by rw [hW, hz1, rrZ_lit])
  have hWs : W.heap.size = w.heap.size + 1 + 1 := by rw [hW, hz1]; simp
  clear hW hz1
  go_enter Try.func52, Try.ntmps52
  go_wp2_with fail
  rw [HW.out]
  refine (K.out W).mono ?_
  rintro _ w1 ⟨rfl, rfl⟩
  clear K HW
  go_wp2_with fail
  refine (TG.out (w.heap.size + 1) W B12).mono ?_
  rintro _ w2 ⟨rfl, g2⟩
  have A2 := B10.grown g2 (by simp)
  have HB2 := below_grown HB g2 HB.size (by omega)
  clear B12 B10 HB TG g2
  go_wp2_with (refine at_op (.store 86 (.tmp 10) (.tmp 77)) rfl ?_; go_must (refine wpList_stB rfl 86 (.tmp 10) (.tmp 77) rfl w.heap.size 0 rfl rrZ rfl A2 (by rw [rrZ_len]; omega) (by rw [rrZ_len]; exact rrInfo) rrZ_one ?_))
  intro w3 hb3 hg3 _
  rw [List.drop_of_length_le (by rw [rrZ_len]; omega), List.append_nil] at hb3
  have HB3 := below_grown HB2 hg3 HB2.size (Nat.le_refl _)
  clear hg3 A2 HB2
  go_wp2_with fail
  refine ret_cell_tmp rfl w.heap.size rfl hb3 _ Try.underlying86 rfl (by rw [rrZ_len]; exact rrInfo) rfl (.int .i64 5) rfl ?_
  exact ⟨hx, rfl, HB3⟩
/-- What getSOA comes to, as a record. -/
def soaO (s : List UInt8) (a : Nat) : Except Int RR := match nameE s a with
  | .error e => .error e
  | .ok (l, p) => match nameE s p with
    | .error e => .error e
    | .ok (l', q) => if q + 20 = s.length then .ok { RR.zero with tg := l, ml := l', nums := numsAt s q } else .error 5
theorem soaO_ret {g : Nat} {s : List UInt8} {a : Nat} {w w' : World} {e : Ending} (h : SoaRet g s a w e w') : match soaO s a with
    | .error x => x ≠ 0 ∧ e = .returned (.int .i64 x) ∧ w.grownBy w' (some g)
    | .ok r => ∃ v v', e = .returned (.int .i64 0) ∧ Blk w' g 86 (rrC nilS v v' r) ∧ r.wf ∧ r.name = [] ∧ r.raw = [] ∧ NmO w' v r.tg ∧ NmO w' v' r.ml ∧ w.grownBy w' (some g) := by
  unfold SoaRet at h
  unfold soaO
  cases h1 : nameE s a with
  | error x => rw [h1] at h; exact h
  | ok y =>
    obtain ⟨l, p⟩ := y
    rw [h1] at h
    simp only at h ⊢
    cases h2 : nameE s p with
    | error x => rw [h2] at h; exact h
    | ok y =>
      obtain ⟨l', q⟩ := y
      rw [h2] at h
      simp only at h ⊢
      by_cases hq : q + 20 = s.length
      · rw [if_pos hq] at h ⊢
        obtain ⟨v, v', h1, h2, h3, h4, h5⟩ := h
        exact ⟨v, v', h1, h2, ⟨rfl, rfl⟩, rfl, rfl, h3, h4, h5⟩
      · rw [if_neg hq] at h ⊢
        exact ⟨by decide, h.1, h.2⟩
set_option maxHeartbeats 1000000 in
theorem rget_soa (m : List UInt8) (a n : Nat) (ty cl : Int) (w : World) (hm : a + n ≤ m.length) (hl : m.length ≤ 4000000) (hk : kindR ty cl = 6) :
    Calls Try.prog 52 #[.string (bs m), .int .i64 a, .int .i64 n, .int .i64 ty, .int .i64 cl] w (GetR (soaO (m.take (a + n)) a) w) := by
  have K := Lib.hid (fun w => kindOf_any ty cl w)
  rw [hk] at K
  clear hk
  have hl33 : rrZ.length = 33 := rrZ_len
  have TG := Lib.hid (fun g w hb => (getSOA_any g (m.take (a + n)) a w hb (by simp; omega) (by simp; omega)).mono (fun e w' h => soaO_ret h))
  cases ho : soaO (m.take (a + n)) a with
  | error x =>
    rw [ho] at TG
    clear ho
    have k1 : (0 : Int) ≤ a := by omega
    have k2 : (0 : Int) ≤ n := by omega
    have k3 : (a : Int) ≤ m.length := by omega
    have k4 : (n : Int) ≤ (m.length : Int) - a := by omega
    have k5 : (a : Int) + n ≤ m.length := by omega
    have hs0 : ((a : Int) + n).toNat = a + n := by omega
    obtain ⟨z1, hz1⟩ : ∃ z1, z1 = w.alloc (.cells rrZ.toArray 86) := ⟨_, rfl⟩
    obtain ⟨W, hW⟩ : ∃ W, W = z1.alloc (.cells rrZ.toArray 86) := ⟨_, rfl⟩
    have B10 : Blk W w.heap.size 86 rrZ := by rw [hW, hz1]; exact (Blk.new w 86 rrZ).alloc _
    have B12 : Blk W (w.heap.size + 1) 86 rrZ := by rw [hW, hz1]; exact Blk.new' _ _ rrZ _ (by simp)
    have HB : Below w.heap.size w W := by rw [hW, hz1]; exact ((Below.refl _ _).alloc (Nat.le_refl _) _).alloc (by simp) _
    have HW : Hid ((w.alloc (.cells #[.slice none 0 0, .int .i64 0, .int .i64 0, .int .i64 0, .int .i64 0, .int .u8 0, .int .u8 0, .int .u8 0, .int .u8 0, .int .u8 0, .int .u8 0, .int .u8 0, .int .u8 0, .int .u8 0, .int .u8 0, .int .u8 0, .int .u8 0, .int .u8 0, .int .u8 0, .int .u8 0, .int .u8 0, .int .i64 0, .slice none 0 0, .slice none 0 0, .int .i64 0, .int .i64 0, .int .i64 0, .int .i64 0, .int .i64 0, .int .i64 0, .int .i64 0, .int .i64 0, .string ⟨#[]⟩] 86)).alloc (.cells #[.slice none 0 0, .int .i64 0, .int .i64 0, .int .i64 0, .int .i64 0, .int .u8 0, .int .u8 0, .int .u8 0, .int .u8 0, .int .u8 0, .int .u8 0, .int .u8 0, .int .u8 0, .int .u8 0, .int .u8 0, .int .u8 0, .int .u8 0, .int .u8 0, .int .u8 0, .int .u8 0, .int .u8 0, .int .i64 0, .slice none 0 0, .slice none 0 0, .int .i64 0, .int .i64 0, .int .i64 0, .int .i64 0, .int .i64 0, .int .i64 0, .int .i64 0, .int .i64 0, .string ⟨#[]⟩] 86) = W) := Lib.hid (by rw [hW, hz1, rrZ_lit])
    have hWs : W.heap.size = w.heap.size + 1 + 1 := by rw [hW, hz1]; simp
    clear hW hz1
    go_enter Try.func52, Try.ntmps52
    go_wp2_with fail
    rw [HW.out]
    refine (K.out W).mono ?_
    rintro _ w1 ⟨rfl, rfl⟩
    clear K HW
    go_wp2_with fail
    refine (TG.out (w.heap.size + 1) W B12).mono ?_
    rintro _ w2 ⟨hx, rfl, g2⟩
    have hxz : (x != 0) = true := by simpa using hx
    have A2 := B10.grown g2 (by simp)
    have HB2 := below_grown HB g2 HB.size (by omega)
    clear B12 B10 HB TG g2
    go_wp2_with (refine at_op (.store 86 (.tmp 10) (.tmp 77)) rfl ?_; go_must (refine wpList_stB rfl 86 (.tmp 10) (.tmp 77) rfl w.heap.size 0 rfl rrZ rfl A2 (by rw [rrZ_len]; omega) (by rw [rrZ_len]; exact rrInfo) rrZ_one ?_))
    intro w3 hb3 hg3 _
    rw [List.drop_of_length_le (by rw [rrZ_len]; omega), List.append_nil] at hb3
    have HB3 := below_grown HB2 hg3 HB2.size (Nat.le_refl _)
    clear hg3 A2 HB2
    go_wp2_with fail
    refine ret_cell_tmp rfl w.heap.size rfl hb3 _ Try.underlying86 rfl (by rw [rrZ_len]; exact rrInfo) rfl (.int .i64 x) rfl ?_
    exact ⟨hx, rfl, HB3⟩
  | ok r =>
    rw [ho] at TG
    clear ho
    have k1 : (0 : Int) ≤ a := by omega
    have k2 : (0 : Int) ≤ n := by omega
    have k3 : (a : Int) ≤ m.length := by omega
    have k4 : (n : Int) ≤ (m.length : Int) - a := by omega
    have k5 : (a : Int) + n ≤ m.length := by omega
    have hs0 : ((a : Int) + n).toNat = a + n := by omega
    obtain ⟨z1, hz1⟩ : ∃ z1, z1 = w.alloc (.cells rrZ.toArray 86) := ⟨_, rfl⟩
    obtain ⟨W, hW⟩ : ∃ W, W = z1.alloc (.cells rrZ.toArray 86) := ⟨_, rfl⟩
    have B10 : Blk W w.heap.size 86 rrZ := by rw [hW, hz1]; exact (Blk.new w 86 rrZ).alloc _
    have B12 : Blk W (w.heap.size + 1) 86 rrZ := by rw [hW, hz1]; exact Blk.new' _ _ rrZ _ (by simp)
    have HB : Below w.heap.size w W := by rw [hW, hz1]; exact ((Below.refl _ _).alloc (Nat.le_refl _) _).alloc (by simp) _
    have HW : Hid ((w.alloc (.cells #[.slice none 0 0, .int .i64 0, .int .i64 0, .int .i64 0, .int .i64 0, .int .u8 0, .int .u8 0, .int .u8 0, .int .u8 0, .int .u8 0, .int .u8 0, .int .u8 0, .int .u8 0, .int .u8 0, .int .u8 0, .int .u8 0, .int .u8 0, .int .u8 0, .int .u8 0, .int .u8 0, .int .u8 0, .int .i64 0, .slice none 0 0, .slice none 0 0, .int .i64 0, .int .i64 0, .int .i64 0, .int .i64 0, .int .i64 0, .int .i64 0, .int .i64 0, .int .i64 0, .string ⟨#[]⟩] 86)).alloc (.cells #[.slice none 0 0, .int .i64 0, .int .i64 0, .int .i64 0, .int .i64 0, .int .u8 0, .int .u8 0, .int .u8 0, .int .u8 0, .int .u8 0, .int .u8 0, .int .u8 0, .int .u8 0, .int .u8 0, .int .u8 0, .int .u8 0, .int .u8 0, .int .u8 0, .int .u8 0, .int .u8 0, .int .u8 0, .int .i64 0, .slice none 0 0, .slice none 0 0, .int .i64 0, .int .i64 0, .int .i64 0, .int .i64 0, .int .i64 0, .int .i64 0, .int .i64 0, .int .i64 0, .string ⟨#[]⟩] 86) = W) := Lib.hid (by rw [hW, hz1, rrZ_lit])
    have hWs : W.heap.size = w.heap.size + 1 + 1 := by rw [hW, hz1]; simp
    clear hW hz1
    go_enter Try.func52, Try.ntmps52
    go_wp2_with fail
    rw [HW.out]
    refine (K.out W).mono ?_
    rintro _ w1 ⟨rfl, rfl⟩
    clear K HW
    go_wp2_with fail
    refine (TG.out (w.heap.size + 1) W B12).mono ?_
    rintro _ w2 ⟨v, v', rfl, B2, hwf, hrn, hrr, nv, nv', g2⟩
    have A2 := B10.grown g2 (by simp)
    have HB2 := below_grown HB g2 HB.size (by omega)
    obtain ⟨L, hL⟩ : ∃ L, L = rrC nilS v v' r := ⟨_, rfl⟩
    rw [← hL] at B2
    have ll : L.length = 33 := rget_len hL hwf
    have l1 : Hid (∀ v ∈ L, v.oneCell' = true) := Lib.hid (by rw [hL]; exact rrC_one rfl nv.one nv'.one)
    have OW : Hid (∀ w', Stays w2 w' → RRown w' L r) := Lib.hid (fun w' hS => ⟨nilS, v, v', hL, hwf, by rw [hrn]; exact NmO.nil _, nv.stays hS, nv'.stays hS, by rw [hrr]; simp⟩)
    clear hL B12 B10 HB g2 TG nv nv' hwf hrn hrr
    go_wp2_with (first
      | (refine at_op (.load 86 (.tmp 12)) rfl ?_; go_must (refine wpList_ldB rfl 86 (.tmp 12) rfl (w.heap.size + 1) 0 rfl B2 33 (by omega) _ Try.underlying86 rfl rrInfo L (by rw [List.drop_zero, List.take_of_length_le (by omega)]) ?_))
      | (refine at_op (.store 86 (.tmp 10) (.tmp 79)) rfl ?_; go_must (refine wpList_stB rfl 86 (.tmp 10) (.tmp 79) rfl w.heap.size 0 rfl L rfl A2 (by rw [rrZ_len]; omega) (by rw [ll]; exact rrInfo) l1.out ?_)))
    intro w3 hb3 hg3 _
    rw [List.drop_of_length_le (by rw [rrZ_len]; omega), List.append_nil] at hb3
    have S3 := Stays.blk hg3 A2 (by decide)
    have HB3 := below_grown HB2 hg3 HB2.size (Nat.le_refl _)
    clear hg3 A2 B2 HB2
    go_wp2_with fail
    refine ret_cell_tmp rfl w.heap.size rfl hb3 _ Try.underlying86 rfl (by rw [ll]; exact rrInfo) rfl (.int .i64 0) rfl ?_
    exact ⟨L, rfl, OW.out _ S3, HB3⟩
theorem kindR_seven (ty cl : Int) : kindR ty cl = 1 ∨ kindR ty cl = 28 ∨ kindR ty cl = 5 ∨ kindR ty cl = 12 ∨ kindR ty cl = 33 ∨ kindR ty cl = 6 ∨ kindR ty cl = 0 := by
  unfold kindR
  split
  · rename_i h; omega
  · simp
theorem rget_any (m : List UInt8) (a n : Nat) (ty cl : Int) (w : World) (hm : a + n ≤ m.length) (hl : m.length ≤ 4000000) :
    Calls Try.prog 52 #[.string (bs m), .int .i64 a, .int .i64 n, .int .i64 ty, .int .i64 cl] w (GetR (getR m a n ty cl) w) := by
  have hd : ((m.take (a + n)).drop a).length = n := by simp; omega
  rcases kindR_seven ty cl with h | h | h | h | h | h | h
  · by_cases hn : n = 4
    · have := rget_adr 1 4 (.inl ⟨rfl, rfl⟩) m a n ty cl w hm hl h (by rw [hn]; rfl)
      have e : getR m a n ty cl = .ok (adR 4 ((m.take (a + n)).drop a)) := by
        unfold getR adR; rw [if_pos h, if_pos hn, hd, hn]
      rw [e]; exact this
    · have := rget_adr_no 1 (.inl rfl) m a n ty cl w hm hl h (by simpa using hn)
      have e : getR m a n ty cl = .error 5 := by unfold getR; rw [if_pos h, if_neg hn]
      rw [e]; exact this
  · have h1 : ¬ kindR ty cl = 1 := by omega
    by_cases hn : n = 16
    · have := rget_adr 28 6 (.inr ⟨rfl, rfl⟩) m a n ty cl w hm hl h (by rw [hn]; rfl)
      have e : getR m a n ty cl = .ok (adR 6 ((m.take (a + n)).drop a)) := by
        unfold getR adR; rw [if_neg h1, if_pos h, if_pos hn, hd, hn, Nat.sub_self, List.replicate_zero, List.append_nil]
      rw [e]; exact this
    · have := rget_adr_no 28 (.inr rfl) m a n ty cl w hm hl h (by simpa using hn)
      have e : getR m a n ty cl = .error 5 := by unfold getR; rw [if_neg h1, if_pos h, if_neg hn]
      rw [e]; exact this
  · have := rget_name 5 (.inl rfl) m a n ty cl w hm hl h _ rfl
    have e : getR m a n ty cl = mapE (fun l => { RR.zero with tg := l }) (targAt (m.take (a + n)) a) := by
      unfold getR; rw [if_neg (by omega), if_neg (by omega), if_pos (.inl h)]; cases targAt (m.take (a + n)) a <;> rfl
    rw [e]; exact this
  · have := rget_name 12 (.inr rfl) m a n ty cl w hm hl h _ rfl
    have e : getR m a n ty cl = mapE (fun l => { RR.zero with tg := l }) (targAt (m.take (a + n)) a) := by
      unfold getR; rw [if_neg (by omega), if_neg (by omega), if_pos (.inr h)]; cases targAt (m.take (a + n)) a <;> rfl
    rw [e]; exact this
  · by_cases hn : n < 6
    · have := rget_srv_no m a n ty cl w hm hl h hn
      have e : getR m a n ty cl = .error 5 := by unfold getR; rw [if_neg (by omega), if_neg (by omega), if_neg (by omega), if_pos h, if_pos hn]
      rw [e]; exact this
    · have := rget_srv m a n ty cl w hm hl h (by omega) _ rfl
      have e : getR m a n ty cl = mapE (fun l => { RR.zero with pri := numB (((m.take (a + n)).drop a).take 2), we := numB ((((m.take (a + n)).drop a).drop 2).take 2), po := numB ((((m.take (a + n)).drop a).drop 4).take 2), tg := l }) (targAt (m.take (a + n)) (a + 6)) := by
        unfold getR; rw [if_neg (by omega), if_neg (by omega), if_neg (by omega), if_pos h, if_neg hn]; cases targAt (m.take (a + n)) (a + 6) <;> rfl
      rw [e]; exact this
  · have := rget_soa m a n ty cl w hm hl h
    have e : getR m a n ty cl = soaO (m.take (a + n)) a := by
      unfold getR; rw [if_neg (by omega), if_neg (by omega), if_neg (by omega), if_neg (by omega), if_pos h]; rfl
    rw [e]; exact this
  · have := rget_raw m a n ty cl w hm hl h
    have e : getR m a n ty cl = .ok { RR.zero with raw := (m.take (a + n)).drop a } := by
      unfold getR; rw [if_neg (by omega), if_neg (by omega), if_neg (by omega), if_neg (by omega), if_neg (by omega)]
    rw [e]; exact this
end Go.Proofs.Ytlmgdogblbigpaa

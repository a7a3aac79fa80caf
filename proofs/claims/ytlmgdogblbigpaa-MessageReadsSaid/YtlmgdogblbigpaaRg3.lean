/-
  Layer 13, the reference: Get of names, and of SRV.
-/
import Derived.Test.YtlmgdogblbigpaaRg1
namespace Go.Proofs.Ytlmgdogblbigpaa
open Go.RowKit
set_option maxRecDepth 100000
set_option linter.unusedVariables false
set_option linter.unusedSimpArgs false

set_option maxHeartbeats 2000000 in
theorem r13_name (k : Nat) (hkf : k = 5 ∨ k = 12) (m : List UInt8) (a n : Nat) (ty cl : Int) (w : World) (hm : a + n ≤ m.length) (hl : m.length ≤ 4000000) (hk : kindR ty cl = k) (o : Except Int (List (List UInt8))) (ho : targAt (m.take (a + n)) a = o) :
    Calls Try.prog 119 #[.string (bs m), .int .i64 a, .int .i64 n, .int .i64 ty, .int .i64 cl] w (GetR (mapE (fun l => { RR.zero with tg := l }) o) w) := by
  have K := Lib.hid (fun w => refKind13_any ty cl w)
  rw [hk] at K
  clear hk
  have hl33 : rrZ.length = 33 := rrZ_len
  have hSl : (m.take (a + n)).length = a + n := by simp; omega
  have hS4 : (m.take (a + n)).length ≤ 4000000 := by omega
  rcases nameE_cases (m.take (a + n)) a with ⟨l, q, h1, h2, h3, h4, h5⟩ | ⟨x, h1, h2, h3, h4⟩
  · have N := Lib.hid (fun w => rname13_ok h1 w hS4)
    by_cases hq : q = (m.take (a + n)).length
    · obtain rfl : o = .ok l := by rw [← ho]; unfold targAt; rw [h2]; simp only; rw [if_pos hq]
      have hqe : ((q : Int) != (((m.take (a + n)).length : Nat) : Int)) = false := by rw [hq]; simp
      obtain ⟨r, hr⟩ : ∃ r : RR, r = { RR.zero with tg := l } := ⟨_, rfl⟩
      simp only [mapE]
      rw [← hr]
      clear ho h1 h2 h3 hq hSl hS4
      rcases hkf with rfl | rfl
      all_goals
        have k1 : (0 : Int) ≤ a := by omega
        have k2 : (0 : Int) ≤ n := by omega
        have k3 : (a : Int) ≤ m.length := by omega
        have k4 : n ≤ (m.length : Int) - a := by omega
        have k5 : (a : Int) + n ≤ m.length := by omega
        have hs0 : ((a : Int) + n).toNat = a + n := by omega
        obtain ⟨z1, hz1⟩ : ∃ z1, z1 = w.alloc (.cells rrZ.toArray 86) := ⟨_, rfl⟩
        obtain ⟨X, hX⟩ : ∃ X, X = z1.alloc (.cells rrZ.toArray 86) := ⟨_, rfl⟩
        have C10 : Blk X w.heap.size 86 rrZ := by rw [hX, hz1]; exact (Blk.new w 86 rrZ).alloc _
        have C12 : Blk X (w.heap.size + 1) 86 rrZ := by rw [hX, hz1]; exact Blk.new' _ _ rrZ _ (by simp)
        have CB : Below w.heap.size w X := by rw [hX, hz1]; exact ((Below.refl _ _).alloc (Nat.le_refl _) _).alloc (by simp) _
        have HW : Hid ((w.alloc (.cells #[.slice none 0 0, .int .i64 0, .int .i64 0, .int .i64 0, .int .i64 0, .int .u8 0, .int .u8 0, .int .u8 0, .int .u8 0, .int .u8 0, .int .u8 0, .int .u8 0, .int .u8 0, .int .u8 0, .int .u8 0, .int .u8 0, .int .u8 0, .int .u8 0, .int .u8 0, .int .u8 0, .int .u8 0, .int .i64 0, .slice none 0 0, .slice none 0 0, .int .i64 0, .int .i64 0, .int .i64 0, .int .i64 0, .int .i64 0, .int .i64 0, .int .i64 0, .int .i64 0, .string ⟨#[]⟩] 86)).alloc (.cells #[.slice none 0 0, .int .i64 0, .int .i64 0, .int .i64 0, .int .i64 0, .int .u8 0, .int .u8 0, .int .u8 0, .int .u8 0, .int .u8 0, .int .u8 0, .int .u8 0, .int .u8 0, .int .u8 0, .int .u8 0, .int .u8 0, .int .u8 0, .int .u8 0, .int .u8 0, .int .u8 0, .int .u8 0, .int .i64 0, .slice none 0 0, .slice none 0 0, .int .i64 0, .int .i64 0, .int .i64 0, .int .i64 0, .int .i64 0, .int .i64 0, .int .i64 0, .int .i64 0, .string ⟨#[]⟩] 86) = X) := Lib.hid (by rw [hX, hz1, rrZ_lit])
        have CS : w.heap.size + 2 ≤ X.heap.size := by rw [hX, hz1]; simp
        clear hX hz1
        rw [← HW.out] at C10 C12 CB CS
        clear HW
        go_enter Try.func119, Try.ntmps119
        go_wp2_with (refine at_op (.store 86 (.tmp 13) (.tmp 56)) rfl ?_; go_must (refine wpList_stB rfl 86 (.tmp 13) (.tmp 56) rfl (w.heap.size + 1) 0 rfl rrZ rfl C12 (by rw [rrZ_len]; omega) (by rw [rrZ_len]; exact rrInfo) rrZ_one ?_))
        intro W B12 g1 _
        replace B12 : Blk W (w.heap.size + 1) 86 rrZ := B12
        have B10 := C10.grown g1 (by simp)
        have HB := below_grown CB g1 (by omega) (by omega)
        clear C10 C12 CB g1 CS
        go_wp2_with fail
        refine (K.out W).mono ?_
        rintro _ w1 ⟨rfl, rfl⟩
        clear K
        generalize m.take (a + n) = S at *
        go_wp2_with fail
        refine (N.out _).mono ?_
        rintro _ w1 ⟨v, rfl, hT, b1⟩
        have B1 := B12.below b1 B12.lt
        have A1 := B10.below b1 B10.lt
        have HB1 := below_then HB HB.size b1
        have nv0 := NmO.mk' hT h4 h5
        obtain ⟨A, c, hv, -⟩ := nv0.form
        subst hv
        clear hT b1 N B12 B10 HB
        go_wp2_with (refine at_op (.store 24 (.tmp 108) (.tmp 107)) rfl ?_; go_must (refine wpList_stC rfl 24 (.tmp 108) (.tmp 107) rfl (w.heap.size + 1) 22 rfl (.slice A l.length c) rfl B1 (by omega) nameInfo1 rfl rfl ?_))
        intro w2 B2 g2 _
        have A2 := A1.grown g2 (by simp)
        have HB2 := below_grown HB1 g2 HB1.size (by omega)
        have nv := nv0.stays (Stays.blk g2 B1 (by decide))
        obtain ⟨L, hL⟩ : ∃ L, L = rrZ.set 22 (.slice A l.length c) := ⟨_, rfl⟩
        rw [← hL] at B2
        replace hL : L = rrC nilS (.slice A l.length c) nilS r := by rw [hL, hr]; rfl
        have hwf : r.wf := by rw [hr]; exact ⟨rfl, rfl⟩
        have ll : L.length = 33 := rget_len hL hwf
        have l1 : Hid (∀ v ∈ L, v.oneCell' = true) := Lib.hid (by rw [hL]; exact rrC_one rfl nv.one rfl)
        have OW : Hid (∀ w', Stays w2 w' → RRown w' L r) := Lib.hid (fun w' hS => ⟨nilS, _, nilS, hL, hwf, by rw [hr]; exact NmO.nil _, by rw [hr]; exact nv.stays hS, by rw [hr]; exact NmO.nil _, by rw [hr]; simp [RR.zero]⟩)
        clear hL nv nv0 hr hwf g2 B1 A1 HB1
        go_wp2_with (first
          | (refine at_op (.load 86 (.tmp 13)) rfl ?_; go_must (refine wpList_ldB rfl 86 (.tmp 13) rfl (w.heap.size + 1) 0 rfl B2 33 (by omega) _ Try.underlying86 rfl rrInfo L (by rw [List.drop_zero, List.take_of_length_le (by omega)]) ?_))
          | (refine at_op (.store 86 (.tmp 10) (.tmp 217)) rfl ?_; go_must (refine wpList_stB rfl 86 (.tmp 10) (.tmp 217) rfl w.heap.size 0 rfl L rfl A2 (by rw [rrZ_len]; omega) (by rw [ll]; exact rrInfo) l1.out ?_)))
        intro w3 hb3 hg3 _
        rw [List.drop_of_length_le (by rw [rrZ_len]; omega), List.append_nil] at hb3
        have S3 := Stays.blk hg3 A2 (by decide)
        have HB3 := below_grown HB2 hg3 HB2.size (Nat.le_refl _)
        clear hg3 A2 B2 HB2
        go_wp2_with fail
        refine ret_cell_tmp rfl w.heap.size rfl hb3 _ Try.underlying86 rfl (by rw [ll]; exact rrInfo) rfl (.int .i64 0) rfl ?_
        exact ⟨L, rfl, OW.out _ S3, HB3⟩
    · obtain rfl : o = .error 5 := by rw [← ho]; unfold targAt; rw [h2]; simp only; rw [if_neg hq]
      have hqe : ((q : Int) != (((m.take (a + n)).length : Nat) : Int)) = true := by simp only [bne_iff_ne, ne_eq]; omega
      simp only [mapE]
      clear ho h1 h2 h3 hq hSl hS4
      rcases hkf with rfl | rfl
      all_goals
        have k1 : (0 : Int) ≤ a := by omega
        have k2 : (0 : Int) ≤ n := by omega
        have k3 : (a : Int) ≤ m.length := by omega
        have k4 : n ≤ (m.length : Int) - a := by omega
        have k5 : (a : Int) + n ≤ m.length := by omega
        have hs0 : ((a : Int) + n).toNat = a + n := by omega
        obtain ⟨z1, hz1⟩ : ∃ z1, z1 = w.alloc (.cells rrZ.toArray 86) := ⟨_, rfl⟩
        obtain ⟨X, hX⟩ : ∃ X, X = z1.alloc (.cells rrZ.toArray 86) := ⟨_, rfl⟩
        have C10 : Blk X w.heap.size 86 rrZ := by rw [hX, hz1]; exact (Blk.new w 86 rrZ).alloc _
        have C12 : Blk X (w.heap.size + 1) 86 rrZ := by rw [hX, hz1]; exact Blk.new' _ _ rrZ _ (by simp)
        have CB : Below w.heap.size w X := by rw [hX, hz1]; exact ((Below.refl _ _).alloc (Nat.le_refl _) _).alloc (by simp) _
        have HW : Hid ((w.alloc (.cells #[.slice none 0 0, .int .i64 0, .int .i64 0, .int .i64 0, .int .i64 0, .int .u8 0, .int .u8 0, .int .u8 0, .int .u8 0, .int .u8 0, .int .u8 0, .int .u8 0, .int .u8 0, .int .u8 0, .int .u8 0, .int .u8 0, .int .u8 0, .int .u8 0, .int .u8 0, .int .u8 0, .int .u8 0, .int .i64 0, .slice none 0 0, .slice none 0 0, .int .i64 0, .int .i64 0, .int .i64 0, .int .i64 0, .int .i64 0, .int .i64 0, .int .i64 0, .int .i64 0, .string ⟨#[]⟩] 86)).alloc (.cells #[.slice none 0 0, .int .i64 0, .int .i64 0, .int .i64 0, .int .i64 0, .int .u8 0, .int .u8 0, .int .u8 0, .int .u8 0, .int .u8 0, .int .u8 0, .int .u8 0, .int .u8 0, .int .u8 0, .int .u8 0, .int .u8 0, .int .u8 0, .int .u8 0, .int .u8 0, .int .u8 0, .int .u8 0, .int .i64 0, .slice none 0 0, .slice none 0 0, .int .i64 0, .int .i64 0, .int .i64 0, .int .i64 0, .int .i64 0, .int .i64 0, .int .i64 0, .int .i64 0, .string ⟨#[]⟩] 86) = X) := Lib.hid (by rw [hX, hz1, rrZ_lit])
        have CS : w.heap.size + 2 ≤ X.heap.size := by rw [hX, hz1]; simp
        clear hX hz1
        rw [← HW.out] at C10 C12 CB CS
        clear HW
        go_enter Try.func119, Try.ntmps119
        go_wp2_with (refine at_op (.store 86 (.tmp 13) (.tmp 56)) rfl ?_; go_must (refine wpList_stB rfl 86 (.tmp 13) (.tmp 56) rfl (w.heap.size + 1) 0 rfl rrZ rfl C12 (by rw [rrZ_len]; omega) (by rw [rrZ_len]; exact rrInfo) rrZ_one ?_))
        intro W B12 g1 _
        replace B12 : Blk W (w.heap.size + 1) 86 rrZ := B12
        have B10 := C10.grown g1 (by simp)
        have HB := below_grown CB g1 (by omega) (by omega)
        clear C10 C12 CB g1 CS
        go_wp2_with fail
        refine (K.out W).mono ?_
        rintro _ w1 ⟨rfl, rfl⟩
        clear K
        generalize m.take (a + n) = S at *
        go_wp2_with fail
        refine (N.out _).mono ?_
        rintro _ w1 ⟨v, rfl, hT, b1⟩
        have B1 := B12.below b1 B12.lt
        have A1 := B10.below b1 B10.lt
        have HB1 := below_then HB HB.size b1
        obtain ⟨A, c, hv, -, -⟩ := hT.form
        subst hv
        clear hT b1 N B12 B10 HB
        go_wp2_with (refine at_op (.store 24 (.tmp 108) (.tmp 107)) rfl ?_; go_must (refine wpList_stC rfl 24 (.tmp 108) (.tmp 107) rfl (w.heap.size + 1) 22 rfl (.slice A l.length c) rfl B1 (by omega) nameInfo1 rfl rfl ?_))
        intro w2 B2 g2 _
        have A2 := A1.grown g2 (by simp)
        have HB2 := below_grown HB1 g2 HB1.size (by omega)
        clear g2 B1 A1 HB1 B2
        have hx : (5 : Int) ≠ 0 := by decide
        go_wp2_with (refine at_op (.store 86 (.tmp 10) (.tmp 215)) rfl ?_; go_must (refine wpList_stB rfl 86 (.tmp 10) (.tmp 215) rfl w.heap.size 0 rfl rrZ rfl A2 (by rw [rrZ_len]; omega) (by rw [rrZ_len]; exact rrInfo) rrZ_one ?_))
        intro w3 hb3 hg3 _
        rw [List.drop_of_length_le (by rw [rrZ_len]; omega), List.append_nil] at hb3
        have HB3 := below_grown HB2 hg3 HB2.size (Nat.le_refl _)
        clear hg3 A2 HB2
        go_wp2_with fail
        refine ret_cell_tmp rfl w.heap.size rfl hb3 _ Try.underlying86 rfl (by rw [rrZ_len]; exact rrInfo) rfl (.int .i64 5) rfl ?_
        exact ⟨hx, rfl, HB3⟩
  · have N := Lib.hid (fun w => rname13_no h1 w hS4)
    obtain rfl : o = .error (if x = 1 then 5 else x) := by rw [← ho]; unfold targAt; rw [h2]
    simp only [mapE]
    generalize (if x = 1 then 5 else x) = y at *
    have hyz := h4.nz
    have hye : (y == 0) = false := by simpa using h4.ne
    have hx := h4.ne
    clear ho h1 h2 h3 h4 hSl hS4
    rcases hkf with rfl | rfl
    all_goals
      have k1 : (0 : Int) ≤ a := by omega
      have k2 : (0 : Int) ≤ n := by omega
      have k3 : (a : Int) ≤ m.length := by omega
      have k4 : n ≤ (m.length : Int) - a := by omega
      have k5 : (a : Int) + n ≤ m.length := by omega
      have hs0 : ((a : Int) + n).toNat = a + n := by omega
      obtain ⟨z1, hz1⟩ : ∃ z1, z1 = w.alloc (.cells rrZ.toArray 86) := ⟨_, rfl⟩
      obtain ⟨X, hX⟩ : ∃ X, X = z1.alloc (.cells rrZ.toArray 86) := ⟨_, rfl⟩
      have C10 : Blk X w.heap.size 86 rrZ := by rw [hX, hz1]; exact (Blk.new w 86 rrZ).alloc _
      have C12 : Blk X (w.heap.size + 1) 86 rrZ := by rw [hX, hz1]; exact Blk.new' _ _ rrZ _ (by simp)
      have CB : Below w.heap.size w X := by rw [hX, hz1]; exact ((Below.refl _ _).alloc (Nat.le_refl _) _).alloc (by simp) _
      have HW : Hid ((w.alloc (.cells #[.slice none 0 0, .int .i64 0, .int .i64 0, .int .i64 0, .int .i64 0, .int .u8 0, .int .u8 0, .int .u8 0, .int .u8 0, .int .u8 0, .int .u8 0, .int .u8 0, .int .u8 0, .int .u8 0, .int .u8 0, .int .u8 0, .int .u8 0, .int .u8 0, .int .u8 0, .int .u8 0, .int .u8 0, .int .i64 0, .slice none 0 0, .slice none 0 0, .int .i64 0, .int .i64 0, .int .i64 0, .int .i64 0, .int .i64 0, .int .i64 0, .int .i64 0, .int .i64 0, .string ⟨#[]⟩] 86)).alloc (.cells #[.slice none 0 0, .int .i64 0, .int .i64 0, .int .i64 0, .int .i64 0, .int .u8 0, .int .u8 0, .int .u8 0, .int .u8 0, .int .u8 0, .int .u8 0, .int .u8 0, .int .u8 0, .int .u8 0, .int .u8 0, .int .u8 0, .int .u8 0, .int .u8 0, .int .u8 0, .int .u8 0, .int .u8 0, .int .i64 0, .slice none 0 0, .slice none 0 0, .int .i64 0, .int .i64 0, .int .i64 0, .int .i64 0, .int .i64 0, .int .i64 0, .int .i64 0, .int .i64 0, .string ⟨#[]⟩] 86) = X) := Lib.hid (by rw [hX, hz1, rrZ_lit])
      have CS : w.heap.size + 2 ≤ X.heap.size := by rw [hX, hz1]; simp
      clear hX hz1
      rw [← HW.out] at C10 C12 CB CS
      clear HW
      go_enter Try.func119, Try.ntmps119
      go_wp2_with (refine at_op (.store 86 (.tmp 13) (.tmp 56)) rfl ?_; go_must (refine wpList_stB rfl 86 (.tmp 13) (.tmp 56) rfl (w.heap.size + 1) 0 rfl rrZ rfl C12 (by rw [rrZ_len]; omega) (by rw [rrZ_len]; exact rrInfo) rrZ_one ?_))
      intro W B12 g1 _
      replace B12 : Blk W (w.heap.size + 1) 86 rrZ := B12
      have B10 := C10.grown g1 (by simp)
      have HB := below_grown CB g1 (by omega) (by omega)
      clear C10 C12 CB g1 CS
      go_wp2_with fail
      refine (K.out W).mono ?_
      rintro _ w1 ⟨rfl, rfl⟩
      clear K
      generalize m.take (a + n) = S at *
      go_wp2_with fail
      refine (N.out _).mono ?_
      rintro _ w1 ⟨v, rfl, hT, b1⟩
      have B1 := B12.below b1 B12.lt
      have A1 := B10.below b1 B10.lt
      have HB1 := below_then HB HB.size b1
      obtain ⟨A, c, hv, -, -⟩ := hT.form
      subst hv
      clear hT b1 N B12 B10 HB
      go_wp2_with (refine at_op (.store 24 (.tmp 108) (.tmp 107)) rfl ?_; go_must (refine wpList_stC rfl 24 (.tmp 108) (.tmp 107) rfl (w.heap.size + 1) 22 rfl _ rfl B1 (by omega) nameInfo1 rfl rfl ?_))
      intro w2 B2 g2 _
      have A2 := A1.grown g2 (by simp)
      have HB2 := below_grown HB1 g2 HB1.size (by omega)
      clear g2 B1 A1 HB1 B2
      go_wp2_with (refine at_op (.store 86 (.tmp 10) (.tmp 215)) rfl ?_; go_must (refine wpList_stB rfl 86 (.tmp 10) (.tmp 215) rfl w.heap.size 0 rfl rrZ rfl A2 (by rw [rrZ_len]; omega) (by rw [rrZ_len]; exact rrInfo) rrZ_one ?_))
      intro w3 hb3 hg3 _
      rw [List.drop_of_length_le (by rw [rrZ_len]; omega), List.append_nil] at hb3
      have HB3 := below_grown HB2 hg3 HB2.size (Nat.le_refl _)
      clear hg3 A2 HB2
      go_wp2_with fail
      refine ret_cell_tmp rfl w.heap.size rfl hb3 _ Try.underlying86 rfl (by rw [rrZ_len]; exact rrInfo) rfl (.int .i64 y) rfl ?_
      exact ⟨hx, rfl, HB3⟩
end Go.Proofs.Ytlmgdogblbigpaa

/-
  Layer 13, the reference: Get of SOA; any.
-/
import Derived.Test.YthnbcmlnpdabhaaGreatHLq
namespace Go.Proofs.YthnbcmlnpdabhaaGreat
open _root_.Go.Proofs.Tryz
open Go.RowKit
set_option maxRecDepth 100000
set_option linter.unusedVariables false
set_option linter.unusedSimpArgs false
def numK (L : List Value) (s : List UInt8) (q k : Nat) : List Value := L.take 27 ++ ints64 ((numsAt s q).take k) ++ L.drop (27 + k)
theorem numK_len (L : List Value) (s : List UInt8) (q k : Nat) (hl : L.length = 33) (hk : k ≤ 5) : (numK L s q k).length = 33 := by
 have : (numsAt s q).length = 5 := rfl
 simp [numK, ints64, hl, this]; omega
theorem numK_zero (L : List Value) (s : List UInt8) (q : Nat) : numK L s q 0 = L := by simp [numK, ints64]
theorem numsAt_get (s : List UInt8) (q k : Nat) (hk : k < 5) : (numsAt s q)[k]? = some (numB ((s.drop (q + 4 * k)).take 4) : Int) := by
 match k, hk with
 | 0, _ => rfl
 | 1, _ => rfl
 | 2, _ => rfl
 | 3, _ => rfl
 | 4, _ => rfl
theorem numK_step (L : List Value) (s : List UInt8) (q k : Nat) (hl : L.length = 33) (hk : k < 5) : (numK L s q k).set (27 + k) (.int .i64 (numB ((s.drop (q + 4 * k)).take 4) : Int)) = numK L s q (k + 1) := by
 have h0 : (numsAt s q).length = 5 := rfl
 have h1 : (L.take 27).length = 27 := by simp [hl]
 have h2 : (ints64 ((numsAt s q).take k)).length = k := by simp [ints64, h0]; omega
 have h3 : L.drop (27 + k) = L[27 + k]'(by omega) :: L.drop (27 + (k + 1)) := by rw [List.drop_eq_getElem_cons (by omega)]; rfl
 have h4 : (numsAt s q).take (k + 1) = (numsAt s q).take k ++ [(numB ((s.drop (q + 4 * k)).take 4) : Int)] := by
  rw [List.take_add_one, numsAt_get s q k hk]; rfl
 unfold numK
 rw [List.append_assoc, List.set_append_right (h := by omega), h1, Nat.add_sub_cancel_left, List.set_append_right (h := by omega), h2, Nat.sub_self, h3, List.set_cons_zero, h4]
 simp [ints64, List.append_assoc]
set_option maxHeartbeats 4000000 in
theorem r13_soa (m : List UInt8) (a n : Nat) (ty cl : Int) (w : World) (hm : a + n ≤ m.length) (hl : m.length ≤ 4000000) (hk : kindR ty cl = 6) :
  Calls prog 182 #[.string (bs m), .int .i64 a, .int .i64 n, .int .i64 ty, .int .i64 cl] w (GetR (soaO (m.take (a + n)) a) w) := by
 have K := Hh (fun w => refKind13_any ty cl w)
 rw [hk] at K
 clear hk
 have hl33 : rrZ.length = 33 := rrZ_len
 have hSl : (m.take (a + n)).length = a + n := by simp; omega
 have hS4 : (m.take (a + n)).length ≤ 4000000 := by omega
 obtain ⟨O, hO⟩ : ∃ O, Hid (soaO (m.take (a + n)) a = O) := ⟨_, Hh rfl⟩
 rw [hO.out]
 rcases nameE_cases (m.take (a + n)) a with ⟨l, p, h1, h2, h3, h4, h5⟩ | ⟨x, h1, h2, h3, h4⟩
 case inr =>
  have N := Hh (fun w => rname13_no h1 w hS4)
  obtain rfl : O = .error (if x = 1 then 5 else x) := by rw [← hO.out]; unfold soaO; rw [h2]
  generalize (if x = 1 then 5 else x) = y at *
  have hyz := h4.nz
  have hye : (y == 0) = false := by simpa using h4.ne
  have hx := h4.ne
  clear hO h1 h2 h3 h4 hSl hS4
  have k1 : (0 : Int) ≤ a := by omega
  have k2 : (0 : Int) ≤ n := by omega
  have k3 : (a : Int) ≤ m.length := by omega
  have k4 : n ≤ (m.length : Int) - a := by omega
  have k5 : (a : Int) + n ≤ m.length := by omega
  have hs0 : ((a : Int) + n).toNat = a + n := by omega
  obtain ⟨z1, hz1⟩ : ∃ z1, z1 = w.alloc (.cells rrZ.toArray 119) := ⟨_, rfl⟩
  obtain ⟨X, hX⟩ : ∃ X, X = z1.alloc (.cells rrZ.toArray 119) := ⟨_, rfl⟩
  have C10 : Blk X w.heap.size 119 rrZ := by rw [hX, hz1]; exact (Blk.new w 119 rrZ).alloc _
  have C12 : Blk X (w.heap.size + 1) 119 rrZ := by rw [hX, hz1]; exact Blk.new' _ _ rrZ _ (by simp)
  have CB : Below w.heap.size w X := by rw [hX, hz1]; exact ((Below.refl _ _).alloc (Nat.le_refl _) _).alloc (by simp) _
  have HW : Hid ((w.alloc (.cells #[.slice none 0 0, .int .i64 0, .int .i64 0, .int .i64 0, .int .i64 0, .int .u8 0, .int .u8 0, .int .u8 0, .int .u8 0, .int .u8 0, .int .u8 0, .int .u8 0, .int .u8 0, .int .u8 0, .int .u8 0, .int .u8 0, .int .u8 0, .int .u8 0, .int .u8 0, .int .u8 0, .int .u8 0, .int .i64 0, .slice none 0 0, .slice none 0 0, .int .i64 0, .int .i64 0, .int .i64 0, .int .i64 0, .int .i64 0, .int .i64 0, .int .i64 0, .int .i64 0, .string ⟨#[]⟩] 119)).alloc (.cells #[.slice none 0 0, .int .i64 0, .int .i64 0, .int .i64 0, .int .i64 0, .int .u8 0, .int .u8 0, .int .u8 0, .int .u8 0, .int .u8 0, .int .u8 0, .int .u8 0, .int .u8 0, .int .u8 0, .int .u8 0, .int .u8 0, .int .u8 0, .int .u8 0, .int .u8 0, .int .u8 0, .int .u8 0, .int .i64 0, .slice none 0 0, .slice none 0 0, .int .i64 0, .int .i64 0, .int .i64 0, .int .i64 0, .int .i64 0, .int .i64 0, .int .i64 0, .int .i64 0, .string ⟨#[]⟩] 119) = X) := Hh (by rw [hX, hz1, rrZ_lit])
  have CS : w.heap.size + 2 ≤ X.heap.size := by rw [hX, hz1]; simp
  clear hX hz1
  rw [← HW.out] at C10 C12 CB CS
  clear HW
  go_enter func182, ntmps182
  go_wp2_with (refine at_op (.store 119 (.tmp 13) (.tmp 56)) rfl ?_; go_must (refine wpList_stB rfl _ _ _ rfl (w.heap.size + 1) 0 rfl rrZ rfl C12 (by rw [rrZ_len]; omega) (by rw [rrZ_len]; exact rrInfo) rrZ_one ?_))
  intro W B12 g1 _
  replace B12 : Blk W (w.heap.size + 1) 119 rrZ := B12
  have B10 := C10.grown g1 (by simp)
  have HB := below_grown CB g1 (by omega) (by omega)
  clear C10 C12 CB g1 CS
  go_wp2_with fail
  refine (K.out W).mono ?_
  rintro _ w1 ⟨rfl, rfl⟩
  clear K
  generalize m.take (a + n) = S at *
  go_wp2_with fail
  refine (N.out _).mono ?_
  rintro _ w1 ⟨v, rfl, hT, b1⟩
  have B1 := B12.below b1 B12.lt
  have A1 := B10.below b1 B10.lt
  have HB1 := below_then HB HB.size b1
  obtain ⟨A, c, hv, -, -⟩ := hT.form
  subst hv
  clear b1 N B12 B10 HB
  go_wp2_with (refine at_op (.store 26 (.tmp 161) (.tmp 160)) rfl ?_; go_must (refine wpList_stC rfl 26 (.tmp 161) (.tmp 160) rfl (w.heap.size + 1) 22 rfl _ rfl B1 (by omega) nameInfo1 rfl rfl ?_))
  intro w2 B2 g2 _
  have A2 := A1.grown g2 (by simp)
  have HB2 := below_grown HB1 g2 HB1.size (by omega)
  clear g2 B1 A1 HB1 B2 hT
  go_wp2_with fail
  go_loopw [15, 29] (fun ev iv wr => iv = .int .i64 0 ∧ wr = w2) (fun _ _ _ => 0)
  case atStart => exact ⟨rfl, rfl⟩
  obtain ⟨rfl, rfl⟩ := hrel
  go_wp2_with (refine at_op (.store 119 (.tmp 10) (.tmp 215)) rfl ?_; go_must (refine wpList_stB rfl _ _ _ rfl w.heap.size 0 rfl rrZ rfl A2 (by rw [rrZ_len]; omega) (by rw [rrZ_len]; exact rrInfo) rrZ_one ?_))
  intro w3 hb3 hg3 _
  rw [List.drop_of_length_le (by rw [rrZ_len]; omega), List.append_nil] at hb3
  have HB3 := below_grown HB2 hg3 HB2.size (Nat.le_refl _)
  clear hg3 A2 HB2
  go_wp2_with fail
  refine ret_cell_tmp rfl w.heap.size rfl hb3 _ underlying119 rfl (by rw [rrZ_len]; exact rrInfo) rfl (.int .i64 y) rfl ?_
  exact ⟨hx, rfl, HB3⟩
 have N := Hh (fun w => rname13_ok h1 w hS4)
 rcases nameE_cases (m.take (a + n)) p with ⟨l', q, k1, k2, k3, kg, ks⟩ | ⟨x, k1, k2, k3, k4⟩
 case inr =>
  have M := Hh (fun w => rname13_no k1 w hS4)
  obtain rfl : O = .error (if x = 1 then 5 else x) := by rw [← hO.out]; unfold soaO; rw [h2]; simp only; rw [k2]
  generalize (if x = 1 then 5 else x) = y at *
  have hyz := k4.nz
  have hye : (y == 0) = false := by simpa using k4.ne
  have hx := k4.ne
  clear hO h1 h2 h3 k1 k2 k3 k4 hSl hS4
  have k1 : (0 : Int) ≤ a := by omega
  have k2 : (0 : Int) ≤ n := by omega
  have k3 : (a : Int) ≤ m.length := by omega
  have k4 : n ≤ (m.length : Int) - a := by omega
  have k5 : (a : Int) + n ≤ m.length := by omega
  have hs0 : ((a : Int) + n).toNat = a + n := by omega
  obtain ⟨z1, hz1⟩ : ∃ z1, z1 = w.alloc (.cells rrZ.toArray 119) := ⟨_, rfl⟩
  obtain ⟨X, hX⟩ : ∃ X, X = z1.alloc (.cells rrZ.toArray 119) := ⟨_, rfl⟩
  have C10 : Blk X w.heap.size 119 rrZ := by rw [hX, hz1]; exact (Blk.new w 119 rrZ).alloc _
  have C12 : Blk X (w.heap.size + 1) 119 rrZ := by rw [hX, hz1]; exact Blk.new' _ _ rrZ _ (by simp)
  have CB : Below w.heap.size w X := by rw [hX, hz1]; exact ((Below.refl _ _).alloc (Nat.le_refl _) _).alloc (by simp) _
  have HW : Hid ((w.alloc (.cells #[.slice none 0 0, .int .i64 0, .int .i64 0, .int .i64 0, .int .i64 0, .int .u8 0, .int .u8 0, .int .u8 0, .int .u8 0, .int .u8 0, .int .u8 0, .int .u8 0, .int .u8 0, .int .u8 0, .int .u8 0, .int .u8 0, .int .u8 0, .int .u8 0, .int .u8 0, .int .u8 0, .int .u8 0, .int .i64 0, .slice none 0 0, .slice none 0 0, .int .i64 0, .int .i64 0, .int .i64 0, .int .i64 0, .int .i64 0, .int .i64 0, .int .i64 0, .int .i64 0, .string ⟨#[]⟩] 119)).alloc (.cells #[.slice none 0 0, .int .i64 0, .int .i64 0, .int .i64 0, .int .i64 0, .int .u8 0, .int .u8 0, .int .u8 0, .int .u8 0, .int .u8 0, .int .u8 0, .int .u8 0, .int .u8 0, .int .u8 0, .int .u8 0, .int .u8 0, .int .u8 0, .int .u8 0, .int .u8 0, .int .u8 0, .int .u8 0, .int .i64 0, .slice none 0 0, .slice none 0 0, .int .i64 0, .int .i64 0, .int .i64 0, .int .i64 0, .int .i64 0, .int .i64 0, .int .i64 0, .int .i64 0, .string ⟨#[]⟩] 119) = X) := Hh (by rw [hX, hz1, rrZ_lit])
  have CS : w.heap.size + 2 ≤ X.heap.size := by rw [hX, hz1]; simp
  clear hX hz1
  rw [← HW.out] at C10 C12 CB CS
  clear HW
  go_enter func182, ntmps182
  go_wp2_with (refine at_op (.store 119 (.tmp 13) (.tmp 56)) rfl ?_; go_must (refine wpList_stB rfl _ _ _ rfl (w.heap.size + 1) 0 rfl rrZ rfl C12 (by rw [rrZ_len]; omega) (by rw [rrZ_len]; exact rrInfo) rrZ_one ?_))
  intro W B12 g1 _
  replace B12 : Blk W (w.heap.size + 1) 119 rrZ := B12
  have B10 := C10.grown g1 (by simp)
  have HB := below_grown CB g1 (by omega) (by omega)
  clear C10 C12 CB g1 CS
  go_wp2_with fail
  refine (K.out W).mono ?_
  rintro _ w1 ⟨rfl, rfl⟩
  clear K
  generalize m.take (a + n) = S at *
  go_wp2_with fail
  refine (N.out _).mono ?_
  rintro _ w1 ⟨v, rfl, hT, b1⟩
  have B1 := B12.below b1 B12.lt
  have A1 := B10.below b1 B10.lt
  have HB1 := below_then HB HB.size b1
  obtain ⟨A, c, hv, -, -⟩ := hT.form
  subst hv
  clear b1 N B12 B10 HB
  have nv0 := NmO.mk' hT h4 h5
  clear hT
  go_wp2_with (refine at_op (.store 26 (.tmp 161) (.tmp 160)) rfl ?_; go_must (refine wpList_stC rfl 26 (.tmp 161) (.tmp 160) rfl (w.heap.size + 1) 22 rfl (.slice A l.length c) rfl B1 (by omega) nameInfo1 rfl rfl ?_))
  intro w2 B2 g2 _
  have A2 := A1.grown g2 (by simp)
  have HB2 := below_grown HB1 g2 HB1.size (by omega)
  clear g2 B1 A1 HB1
  go_wp2_with fail
  refine (M.out _).mono ?_
  rintro _ w3 ⟨v', rfl, hT', b3⟩
  have B3 := B2.below b3 B2.lt
  have A3 := A2.below b3 A2.lt
  have HB3 := below_then HB2 HB2.size b3
  obtain ⟨A', c', hv', -, -⟩ := hT'.form
  subst hv'
  clear b3 M B2 A2 HB2 hT' nv0
  go_wp2_with (refine at_op (.store 26 (.tmp 174) (.tmp 173)) rfl ?_; go_must (refine wpList_stC rfl 26 (.tmp 174) (.tmp 173) rfl (w.heap.size + 1) 23 rfl _ rfl B3 (by simp only [List.length_set]; omega) nameInfo1 rfl rfl ?_))
  intro w4 B4 g4 _
  have A2 := A3.grown g4 (by simp)
  have HB2 := below_grown HB3 g4 HB3.size (by omega)
  clear g4 B3 A3 HB3 B4
  go_wp2_with fail
  go_loopw [15, 29] (fun ev iv wr => iv = .int .i64 0 ∧ wr = w4) (fun _ _ _ => 0)
  case atStart => exact ⟨rfl, rfl⟩
  obtain ⟨rfl, rfl⟩ := hrel
  go_wp2_with (refine at_op (.store 119 (.tmp 10) (.tmp 215)) rfl ?_; go_must (refine wpList_stB rfl _ _ _ rfl w.heap.size 0 rfl rrZ rfl A2 (by rw [rrZ_len]; omega) (by rw [rrZ_len]; exact rrInfo) rrZ_one ?_))
  intro w3 hb3 hg3 _
  rw [List.drop_of_length_le (by rw [rrZ_len]; omega), List.append_nil] at hb3
  have HB3 := below_grown HB2 hg3 HB2.size (Nat.le_refl _)
  clear hg3 A2 HB2
  go_wp2_with fail
  refine ret_cell_tmp rfl w.heap.size rfl hb3 _ underlying119 rfl (by rw [rrZ_len]; exact rrInfo) rfl (.int .i64 y) rfl ?_
  exact ⟨hx, rfl, HB3⟩
 have M := Hh (fun w => rname13_ok k1 w hS4)
 by_cases hq : q + 20 = (m.take (a + n)).length
 case neg =>
  obtain rfl : O = .error 5 := by rw [← hO.out]; unfold soaO; rw [h2]; simp only; rw [k2]; simp only; rw [if_neg hq]
  have hq20 : (((((m.take (a + n)).length : Nat) : Int) - q) != 20) = true := by simp only [bne_iff_ne, ne_eq]; omega
  have hql : (q : Int) ≤ ((m.take (a + n)).length : Nat) := by omega
  have hsb : ((m.take (a + n)).length : Int) ≤ 4000000 := by omega
  clear hO h1 h2 h3 k1 k2 k3 hS4 hSl hq
  have k1 : (0 : Int) ≤ a := by omega
  have k2 : (0 : Int) ≤ n := by omega
  have k3 : (a : Int) ≤ m.length := by omega
  have k4 : n ≤ (m.length : Int) - a := by omega
  have k5 : (a : Int) + n ≤ m.length := by omega
  have hs0 : ((a : Int) + n).toNat = a + n := by omega
  obtain ⟨z1, hz1⟩ : ∃ z1, z1 = w.alloc (.cells rrZ.toArray 119) := ⟨_, rfl⟩
  obtain ⟨X, hX⟩ : ∃ X, X = z1.alloc (.cells rrZ.toArray 119) := ⟨_, rfl⟩
  have C10 : Blk X w.heap.size 119 rrZ := by rw [hX, hz1]; exact (Blk.new w 119 rrZ).alloc _
  have C12 : Blk X (w.heap.size + 1) 119 rrZ := by rw [hX, hz1]; exact Blk.new' _ _ rrZ _ (by simp)
  have CB : Below w.heap.size w X := by rw [hX, hz1]; exact ((Below.refl _ _).alloc (Nat.le_refl _) _).alloc (by simp) _
  have HW : Hid ((w.alloc (.cells #[.slice none 0 0, .int .i64 0, .int .i64 0, .int .i64 0, .int .i64 0, .int .u8 0, .int .u8 0, .int .u8 0, .int .u8 0, .int .u8 0, .int .u8 0, .int .u8 0, .int .u8 0, .int .u8 0, .int .u8 0, .int .u8 0, .int .u8 0, .int .u8 0, .int .u8 0, .int .u8 0, .int .u8 0, .int .i64 0, .slice none 0 0, .slice none 0 0, .int .i64 0, .int .i64 0, .int .i64 0, .int .i64 0, .int .i64 0, .int .i64 0, .int .i64 0, .int .i64 0, .string ⟨#[]⟩] 119)).alloc (.cells #[.slice none 0 0, .int .i64 0, .int .i64 0, .int .i64 0, .int .i64 0, .int .u8 0, .int .u8 0, .int .u8 0, .int .u8 0, .int .u8 0, .int .u8 0, .int .u8 0, .int .u8 0, .int .u8 0, .int .u8 0, .int .u8 0, .int .u8 0, .int .u8 0, .int .u8 0, .int .u8 0, .int .u8 0, .int .i64 0, .slice none 0 0, .slice none 0 0, .int .i64 0, .int .i64 0, .int .i64 0, .int .i64 0, .int .i64 0, .int .i64 0, .int .i64 0, .int .i64 0, .string ⟨#[]⟩] 119) = X) := Hh (by rw [hX, hz1, rrZ_lit])
  have CS : w.heap.size + 2 ≤ X.heap.size := by rw [hX, hz1]; simp
  clear hX hz1
  rw [← HW.out] at C10 C12 CB CS
  clear HW
  go_enter func182, ntmps182
  go_wp2_with (refine at_op (.store 119 (.tmp 13) (.tmp 56)) rfl ?_; go_must (refine wpList_stB rfl _ _ _ rfl (w.heap.size + 1) 0 rfl rrZ rfl C12 (by rw [rrZ_len]; omega) (by rw [rrZ_len]; exact rrInfo) rrZ_one ?_))
  intro W B12 g1 _
  replace B12 : Blk W (w.heap.size + 1) 119 rrZ := B12
  have B10 := C10.grown g1 (by simp)
  have HB := below_grown CB g1 (by omega) (by omega)
  clear C10 C12 CB g1 CS
  go_wp2_with fail
  refine (K.out W).mono ?_
  rintro _ w1 ⟨rfl, rfl⟩
  clear K
  generalize m.take (a + n) = S at *
  go_wp2_with fail
  refine (N.out _).mono ?_
  rintro _ w1 ⟨v, rfl, hT, b1⟩
  have B1 := B12.below b1 B12.lt
  have A1 := B10.below b1 B10.lt
  have HB1 := below_then HB HB.size b1
  obtain ⟨A, c, hv, -, -⟩ := hT.form
  subst hv
  clear b1 N B12 B10 HB
  have nv0 := NmO.mk' hT h4 h5
  clear hT
  go_wp2_with (refine at_op (.store 26 (.tmp 161) (.tmp 160)) rfl ?_; go_must (refine wpList_stC rfl 26 (.tmp 161) (.tmp 160) rfl (w.heap.size + 1) 22 rfl (.slice A l.length c) rfl B1 (by omega) nameInfo1 rfl rfl ?_))
  intro w2 B2 g2 _
  have A2 := A1.grown g2 (by simp)
  have HB2 := below_grown HB1 g2 HB1.size (by omega)
  clear g2 B1 A1 HB1
  go_wp2_with fail
  refine (M.out _).mono ?_
  rintro _ w3 ⟨v', rfl, hT', b3⟩
  have B3 := B2.below b3 B2.lt
  have A3 := A2.below b3 A2.lt
  have HB3 := below_then HB2 HB2.size b3
  obtain ⟨A', c', hv', -, -⟩ := hT'.form
  subst hv'
  clear b3 M B2 A2 HB2 hT' nv0
  go_wp2_with (refine at_op (.store 26 (.tmp 174) (.tmp 173)) rfl ?_; go_must (refine wpList_stC rfl 26 (.tmp 174) (.tmp 173) rfl (w.heap.size + 1) 23 rfl _ rfl B3 (by simp only [List.length_set]; omega) nameInfo1 rfl rfl ?_))
  intro w4 B4 g4 _
  have A2 := A3.grown g4 (by simp)
  have HB2 := below_grown HB3 g4 HB3.size (by omega)
  clear g4 B3 A3 HB3 B4
  go_wp2_with fail
  go_loopw [15, 29] (fun ev iv wr => iv = .int .i64 0 ∧ wr = w4) (fun _ _ _ => 0)
  case atStart => exact ⟨rfl, rfl⟩
  obtain ⟨rfl, rfl⟩ := hrel
  have hx : (5 : Int) ≠ 0 := by decide
  go_wp2_with (refine at_op (.store 119 (.tmp 10) (.tmp 215)) rfl ?_; go_must (refine wpList_stB rfl _ _ _ rfl w.heap.size 0 rfl rrZ rfl A2 (by rw [rrZ_len]; omega) (by rw [rrZ_len]; exact rrInfo) rrZ_one ?_))
  intro w3 hb3 hg3 _
  rw [List.drop_of_length_le (by rw [rrZ_len]; omega), List.append_nil] at hb3
  have HB3 := below_grown HB2 hg3 HB2.size (Nat.le_refl _)
  clear hg3 A2 HB2
  go_wp2_with fail
  refine ret_cell_tmp rfl w.heap.size rfl hb3 _ underlying119 rfl (by rw [rrZ_len]; exact rrInfo) rfl (.int .i64 5) rfl ?_
  exact ⟨hx, rfl, HB3⟩
 obtain ⟨r, hr⟩ : ∃ r : RR, r = { RR.zero with tg := l, ml := l', nums := numsAt (m.take (a + n)) q } := ⟨_, rfl⟩
 obtain rfl : O = .ok r := by rw [← hO.out, hr]; unfold soaO; rw [h2]; simp only; rw [k2]; simp only; rw [if_pos hq]
 have hq20 : (((((m.take (a + n)).length : Nat) : Int) - q) != 20) = false := by rw [← hq]; simp; omega
 have hql : (q : Int) ≤ ((m.take (a + n)).length : Nat) := by omega
 have hsb : ((m.take (a + n)).length : Int) ≤ 4000000 := by omega
 clear hO h1 h2 h3 k1 k2 k3 hS4 hSl
 have k1 : (0 : Int) ≤ a := by omega
 have k2 : (0 : Int) ≤ n := by omega
 have k3 : (a : Int) ≤ m.length := by omega
 have k4 : n ≤ (m.length : Int) - a := by omega
 have k5 : (a : Int) + n ≤ m.length := by omega
 have hs0 : ((a : Int) + n).toNat = a + n := by omega
 obtain ⟨z1, hz1⟩ : ∃ z1, z1 = w.alloc (.cells rrZ.toArray 119) := ⟨_, rfl⟩
 obtain ⟨X, hX⟩ : ∃ X, X = z1.alloc (.cells rrZ.toArray 119) := ⟨_, rfl⟩
 have C10 : Blk X w.heap.size 119 rrZ := by rw [hX, hz1]; exact (Blk.new w 119 rrZ).alloc _
 have C12 : Blk X (w.heap.size + 1) 119 rrZ := by rw [hX, hz1]; exact Blk.new' _ _ rrZ _ (by simp)
 have CB : Below w.heap.size w X := by rw [hX, hz1]; exact ((Below.refl _ _).alloc (Nat.le_refl _) _).alloc (by simp) _
 have HW : Hid ((w.alloc (.cells #[.slice none 0 0, .int .i64 0, .int .i64 0, .int .i64 0, .int .i64 0, .int .u8 0, .int .u8 0, .int .u8 0, .int .u8 0, .int .u8 0, .int .u8 0, .int .u8 0, .int .u8 0, .int .u8 0, .int .u8 0, .int .u8 0, .int .u8 0, .int .u8 0, .int .u8 0, .int .u8 0, .int .u8 0, .int .i64 0, .slice none 0 0, .slice none 0 0, .int .i64 0, .int .i64 0, .int .i64 0, .int .i64 0, .int .i64 0, .int .i64 0, .int .i64 0, .int .i64 0, .string ⟨#[]⟩] 119)).alloc (.cells #[.slice none 0 0, .int .i64 0, .int .i64 0, .int .i64 0, .int .i64 0, .int .u8 0, .int .u8 0, .int .u8 0, .int .u8 0, .int .u8 0, .int .u8 0, .int .u8 0, .int .u8 0, .int .u8 0, .int .u8 0, .int .u8 0, .int .u8 0, .int .u8 0, .int .u8 0, .int .u8 0, .int .u8 0, .int .i64 0, .slice none 0 0, .slice none 0 0, .int .i64 0, .int .i64 0, .int .i64 0, .int .i64 0, .int .i64 0, .int .i64 0, .int .i64 0, .int .i64 0, .string ⟨#[]⟩] 119) = X) := Hh (by rw [hX, hz1, rrZ_lit])
 have CS : w.heap.size + 2 ≤ X.heap.size := by rw [hX, hz1]; simp
 clear hX hz1
 rw [← HW.out] at C10 C12 CB CS
 clear HW
 go_enter func182, ntmps182
 go_wp2_with (refine at_op (.store 119 (.tmp 13) (.tmp 56)) rfl ?_; go_must (refine wpList_stB rfl _ _ _ rfl (w.heap.size + 1) 0 rfl rrZ rfl C12 (by rw [rrZ_len]; omega) (by rw [rrZ_len]; exact rrInfo) rrZ_one ?_))
 intro W B12 g1 _
 replace B12 : Blk W (w.heap.size + 1) 119 rrZ := B12
 have B10 := C10.grown g1 (by simp)
 have HB := below_grown CB g1 (by omega) (by omega)
 clear C10 C12 CB g1 CS
 go_wp2_with fail
 refine (K.out W).mono ?_
 rintro _ w1 ⟨rfl, rfl⟩
 clear K
 generalize m.take (a + n) = S at *
 go_wp2_with fail
 refine (N.out _).mono ?_
 rintro _ w1 ⟨v, rfl, hT, b1⟩
 have B1 := B12.below b1 B12.lt
 have A1 := B10.below b1 B10.lt
 have HB1 := below_then HB HB.size b1
 obtain ⟨A, c, hv, -, -⟩ := hT.form
 subst hv
 clear b1 N B12 B10 HB
 have nv0 := NmO.mk' hT h4 h5
 clear hT
 go_wp2_with (refine at_op (.store 26 (.tmp 161) (.tmp 160)) rfl ?_; go_must (refine wpList_stC rfl 26 (.tmp 161) (.tmp 160) rfl (w.heap.size + 1) 22 rfl (.slice A l.length c) rfl B1 (by omega) nameInfo1 rfl rfl ?_))
 intro w2 B2 g2 _
 have A2 := A1.grown g2 (by simp)
 have HB2 := below_grown HB1 g2 HB1.size (by omega)
 replace nv0 := nv0.stays (Stays.blk g2 B1 (by decide))
 clear g2 B1 A1 HB1
 go_wp2_with fail
 refine (M.out _).mono ?_
 rintro _ w3 ⟨v', rfl, hT', b3⟩
 have B3 := B2.below b3 B2.lt
 have A3 := A2.below b3 A2.lt
 have HB3 := below_then HB2 HB2.size b3
 replace nv0 := nv0.stays (Stays.below b3)
 have nv1 := NmO.mk' hT' kg ks
 obtain ⟨A', c', hv', -, -⟩ := hT'.form
 subst hv'
 clear b3 M B2 A2 HB2 hT'
 go_wp2_with (refine at_op (.store 26 (.tmp 174) (.tmp 173)) rfl ?_; go_must (refine wpList_stC rfl 26 (.tmp 174) (.tmp 173) rfl (w.heap.size + 1) 23 rfl (.slice A' l'.length c') rfl B3 (by simp only [List.length_set]; omega) nameInfo1 rfl rfl ?_))
 intro w4 B4 g4 _
 have A4 := A3.grown g4 (by simp)
 have HB4 := below_grown HB3 g4 HB3.size (by omega)
 replace nv0 := nv0.stays (Stays.blk g4 B3 (by decide))
 replace nv1 := nv1.stays (Stays.blk g4 B3 (by decide))
 clear g4 B3 A3 HB3
 obtain ⟨LL, hLL⟩ : ∃ LL, LL = (rrZ.set 22 (.slice A l.length c)).set 23 (.slice A' l'.length c') := ⟨_, rfl⟩
 rw [← hLL] at B4
 have hl34 : LL.length = 33 := by rw [hLL]; simp only [List.length_set]; exact hl33
 have HLL := Hh hLL
 have HQ := Hh hq
 have HR := Hh hr
 clear hLL hq hr
 go_wp2_with fail
 go_loopw [15, 29] (fun ev iv wr => ∃ k : Nat, k ≤ 5 ∧ iv = .int .i64 k ∧ ev = .int .i64 ((q + 4 * k : Nat) : Int) ∧ Blk wr (w.heap.size + 1) 119 (numK LL S q k) ∧ Blk wr w.heap.size 119 rrZ ∧ Below w.heap.size w wr ∧ Stays w4 wr) (fun _ iv _ => 5 - (intOf iv).toNat)
 case atStart => exact ⟨0, by omega, rfl, rfl, by rw [numK_zero]; exact B4, A4, HB4, Stays.refl _⟩
 clear B4 A4 HB4
 obtain ⟨k, hk, rfl, rfl, B4, A4, HB4, S4⟩ := hrel
 by_cases hlt : k < 5
 case pos =>
  have hlt' : (k : Int) < 5 := by omega
  have hqb : q + 4 * k + 4 ≤ S.length := by have := HQ.out; omega
  have NS := Hh (numK_step LL S q k hl34 hlt)
  have nl := numK_len LL S q k hl34 hk
  have hce : (S.take (q + 4 * k + 4)).drop (q + 4 * k) = (S.drop (q + 4 * k)).take 4 := by rw [List.drop_take, Nat.add_sub_cancel_left]
  have NN := Hh (fun w => refnum2 ((S.take (q + 4 * k + 4)).drop (q + 4 * k)) (by rw [hce]; simp; omega) w)
  rw [← hce] at NS
  clear hce
  obtain ⟨e, he⟩ : ∃ e, e = q + 4 * k := ⟨_, rfl⟩
  rw [← he] at hqb NS NN ⊢
  have HE := Hh he
  clear he
  have he4 : (e : Int) + 4 ≤ (S.length : Nat) := by omega
  have te4 : ((e : Int) + 4).toNat = e + 4 := by omega
  obtain ⟨x, hx⟩ : ∃ x, Hid (numB ((S.take (e + 4)).drop e) = x) := ⟨_, Hh rfl⟩
  rw [hx.out] at NN NS
  go_wp2_with fail
  refine (NN.out _).mono ?_
  rintro _ w5 ⟨rfl, rfl⟩
  go_wp2_with (refine at_op (.store 3 (.tmp 202) (.tmp 200)) rfl ?_; go_must (refine wpList_stC rfl 3 (.tmp 202) (.tmp 200) rfl (w.heap.size + 1) (27 + k) rfl (.int .i64 (x : Int)) rfl B4 (by omega) intInfo1 rfl rfl ?_))
  intro w6 B6 g6 _
  rw [NS.out] at B6
  have A6 := A4.grown g6 (by simp)
  have HB6 := below_grown HB4 g6 HB4.size (by omega)
  have S6 := S4.trans (Stays.blk g6 B4 (by decide))
  clear B4 A4 HB4 S4 g6 NS NN nl
  go_wp2_with fail
  go_roundw
  case rel => exact ⟨k + 1, by omega, by go_num, by rw [show ((q + 4 * (k + 1) : Nat) : Int) = (e : Int) + 4 from by have := HE.out; omega], B6, A6, HB6, S6⟩
  case measure => simp [intOf]; omega
 obtain rfl : k = 5 := by omega
 have hlt' : ¬ ((5 : Nat) : Int) < 5 := by omega
 have hE : q + 4 * 5 = S.length := by have := HQ.out; omega
 rw [hE]
 obtain ⟨L, hL⟩ : ∃ L, L = numK LL S q 5 := ⟨_, rfl⟩
 rw [← hL] at B4
 have ll : L.length = 33 := by rw [hL]; exact numK_len LL S q 5 hl34 (by omega)
 replace hL : L = rrC nilS (.slice A l.length c) (.slice A' l'.length c') r := by rw [hL, HLL.out, HR.out]; rfl
 have l1 : Hid (∀ v ∈ L, v.oneCell' = true) := Hh (by rw [hL]; exact rrC_one rfl rfl rfl)
 have OW : Hid (∀ w', Stays wr w' → RRown w' L r) := Hh (fun w' hS => ⟨nilS, _, _, hL, by rw [HR.out]; exact ⟨rfl, rfl⟩, by rw [HR.out]; exact NmO.nil _, by rw [HR.out]; exact (nv0.stays S4).stays hS, by rw [HR.out]; exact (nv1.stays S4).stays hS, by rw [HR.out]; simp [RR.zero]⟩)
 have B2 := B4
 have A2 := A4
 have HB2 := HB4
 clear hL hE nv0 nv1 HLL hl34 HQ HR S4 B4 A4 HB4 hq20 hql hsb hlt
 go_wp2_with (first
  | (refine at_op (.load 119 (.tmp 13)) rfl ?_; go_must (refine wpList_ldB rfl _ _ rfl (w.heap.size + 1) 0 rfl B2 33 (by omega) _ underlying119 rfl rrInfo L (tk0 (by omega)) ?_))
  | (refine at_op (.store 119 (.tmp 10) (.tmp 217)) rfl ?_; go_must (refine wpList_stB rfl _ _ _ rfl w.heap.size 0 rfl L rfl A2 (by rw [rrZ_len]; omega) (by rw [ll]; exact rrInfo) l1.out ?_)))
 intro w3 hb3 hg3 _
 rw [List.drop_of_length_le (by rw [rrZ_len]; omega), List.append_nil] at hb3
 have S3 := Stays.blk hg3 A2 (by decide)
 have HB3 := below_grown HB2 hg3 HB2.size (Nat.le_refl _)
 clear hg3 A2 B2 HB2
 go_wp2_with fail
 refine ret_cell_tmp rfl w.heap.size rfl hb3 _ underlying119 rfl (by rw [ll]; exact rrInfo) rfl (.int .i64 0) rfl ?_
 exact ⟨L, rfl, OW.out _ S3, HB3⟩
theorem r13_any (m : List UInt8) (a n : Nat) (ty cl : Int) (w : World) (hm : a + n ≤ m.length) (hl : m.length ≤ 4000000) :
  Calls prog 182 #[.string (bs m), .int .i64 a, .int .i64 n, .int .i64 ty, .int .i64 cl] w (GetR (getR m a n ty cl) w) := by
 have hd : ((m.take (a + n)).drop a).length = n := by simp; omega
 rcases kindR_seven ty cl with h | h | h | h | h | h | h
 ·
  by_cases hn : n = 4
  ·
   have := r13_adr 1 4 (.inl ⟨rfl, rfl⟩) m a n ty cl w hm hl h (by rw [hn]; rfl)
   have e : getR m a n ty cl = .ok (adR 4 ((m.take (a + n)).drop a)) := by
    unfold getR adR; rw [if_pos h, if_pos hn, hd, hn]
   rw [e]; exact this
  ·
   have := r13_adr_no 1 (.inl rfl) m a n ty cl w hm hl h (by simpa using hn)
   have e : getR m a n ty cl = .error 5 := by unfold getR; rw [if_pos h, if_neg hn]
   rw [e]; exact this
 ·
  have h1 : ¬ kindR ty cl = 1 := by omega
  by_cases hn : n = 16
  ·
   have := r13_adr 28 6 (.inr ⟨rfl, rfl⟩) m a n ty cl w hm hl h (by rw [hn]; rfl)
   have e : getR m a n ty cl = .ok (adR 6 ((m.take (a + n)).drop a)) := by
    unfold getR adR; rw [if_neg h1, if_pos h, if_pos hn, hd, hn, Nat.sub_self, List.replicate_zero, List.append_nil]
   rw [e]; exact this
  ·
   have := r13_adr_no 28 (.inr rfl) m a n ty cl w hm hl h (by simpa using hn)
   have e : getR m a n ty cl = .error 5 := by unfold getR; rw [if_neg h1, if_pos h, if_neg hn]
   rw [e]; exact this
 ·
  have := r13_name 5 (.inl rfl) m a n ty cl w hm hl h _ rfl
  have e : getR m a n ty cl = mapE (fun l => { RR.zero with tg := l }) (targAt (m.take (a + n)) a) := by
   unfold getR; rw [if_neg (by omega), if_neg (by omega), if_pos (.inl h)]; cases targAt (m.take (a + n)) a <;> rfl
  rw [e]; exact this
 ·
  have := r13_name 12 (.inr rfl) m a n ty cl w hm hl h _ rfl
  have e : getR m a n ty cl = mapE (fun l => { RR.zero with tg := l }) (targAt (m.take (a + n)) a) := by
   unfold getR; rw [if_neg (by omega), if_neg (by omega), if_pos (.inr h)]; cases targAt (m.take (a + n)) a <;> rfl
  rw [e]; exact this
 ·
  by_cases hn : n < 6
  ·
   have := r13_srv_no m a n ty cl w hm hl h hn
   have e : getR m a n ty cl = .error 5 := by unfold getR; rw [if_neg (by omega), if_neg (by omega), if_neg (by omega), if_pos h, if_pos hn]
   rw [e]; exact this
  ·
   have := r13_srv m a n ty cl w hm hl h (by omega) _ rfl
   have e : getR m a n ty cl = mapE (fun l => { RR.zero with pri := numB (((m.take (a + n)).drop a).take 2), we := numB ((((m.take (a + n)).drop a).drop 2).take 2), po := numB ((((m.take (a + n)).drop a).drop 4).take 2), tg := l }) (targAt (m.take (a + n)) (a + 6)) := by
    unfold getR; rw [if_neg (by omega), if_neg (by omega), if_neg (by omega), if_pos h, if_neg hn]; cases targAt (m.take (a + n)) (a + 6) <;> rfl
   rw [e]; exact this
 ·
  have := r13_soa m a n ty cl w hm hl h
  have e : getR m a n ty cl = soaO (m.take (a + n)) a := by
   unfold getR; rw [if_neg (by omega), if_neg (by omega), if_neg (by omega), if_neg (by omega), if_pos h]; rfl
  rw [e]; exact this
 ·
  have := r13_raw m a n ty cl w hm hl h
  have e : getR m a n ty cl = .ok { RR.zero with raw := (m.take (a + n)).drop a } := by
   unfold getR; rw [if_neg (by omega), if_neg (by omega), if_neg (by omega), if_neg (by omega), if_neg (by omega)]
  rw [e]; exact this
end Go.Proofs.YthnbcmlnpdabhaaGreat

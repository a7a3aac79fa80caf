/-
  Layer 13, the reference: Get of names, and of SRV.
-/
import Derived.Test.YthnbcmlnpdabhaaGreatHKq
namespace Go.Proofs.YthnbcmlnpdabhaaGreat
open _root_.Go.Proofs.Tryz
open Go.RowKit
set_option maxRecDepth 100000
set_option linter.unusedVariables false
set_option linter.unusedSimpArgs false
set_option maxHeartbeats 2000000 in
theorem r13_name (k : Nat) (hkf : k = 5 ∨ k = 12) (m : List UInt8) (a n : Nat) (ty cl : Int) (w : World) (hm : a + n ≤ m.length) (hl : m.length ≤ 4000000) (hk : kindR ty cl = k) (o : Except Int (List (List UInt8))) (ho : targAt (m.take (a + n)) a = o) :
  Calls prog 182 #[.string (bs m), .int .i64 a, .int .i64 n, .int .i64 ty, .int .i64 cl] w (GetR (mapE (fun l => { RR.zero with tg := l }) o) w) := by
 have K := Hh (fun w => refKind13_any ty cl w)
 rw [hk] at K
 clear hk
 have hl33 : rrZ.length = 33 := rrZ_len
 have hSl : (m.take (a + n)).length = a + n := by simp; omega
 have hS4 : (m.take (a + n)).length ≤ 4000000 := by omega
 rcases nameE_cases (m.take (a + n)) a with ⟨l, q, h1, h2, h3, h4, h5⟩ | ⟨x, h1, h2, h3, h4⟩
 ·
  have N := Hh (fun w => rname13_ok h1 w hS4)
  by_cases hq : q = (m.take (a + n)).length
  ·
   obtain rfl : o = .ok l := by rw [← ho]; unfold targAt; rw [h2]; simp only; rw [if_pos hq]
   have hqe : ((q : Int) != (((m.take (a + n)).length : Nat) : Int)) = false := by rw [hq]; simp
   obtain ⟨r, hr⟩ : ∃ r : RR, r = { RR.zero with tg := l } := ⟨_, rfl⟩
   simp only [mapE]
   rw [← hr]
   clear ho h1 h2 h3 hq hSl hS4
   rcases hkf with rfl | rfl
   all_goals
    have k1 : (0 : Int) ≤ a := by omega
    have k2 : (0 : Int) ≤ n := by omega
    have k3 : (a : Int) ≤ m.length := by omega
    have k4 : n ≤ (m.length : Int) - a := by omega
    have k5 : (a : Int) + n ≤ m.length := by omega
    have hs0 : ((a : Int) + n).toNat = a + n := by omega
    obtain ⟨z1, hz1⟩ : ∃ z1, z1 = w.alloc (.cells rrZ.toArray 119) := ⟨_, rfl⟩
    obtain ⟨X, hX⟩ : ∃ X, X = z1.alloc (.cells rrZ.toArray 119) := ⟨_, rfl⟩
    have C10 : Blk X w.heap.size 119 rrZ := by rw [hX, hz1]; exact (Blk.new w 119 rrZ).alloc _
    have C12 : Blk X (w.heap.size + 1) 119 rrZ := by rw [hX, hz1]; exact Blk.new' _ _ rrZ _ (by simp)
    have CB : Below w.heap.size w X := by rw [hX, hz1]; exact ((Below.refl _ _).alloc (Nat.le_refl _) _).alloc (by simp) _
    have HW : Hid ((w.alloc (.cells #[.slice none 0 0, .int .i64 0, .int .i64 0, .int .i64 0, .int .i64 0, .int .u8 0, .int .u8 0, .int .u8 0, .int .u8 0, .int .u8 0, .int .u8 0, .int .u8 0, .int .u8 0, .int .u8 0, .int .u8 0, .int .u8 0, .int .u8 0, .int .u8 0, .int .u8 0, .int .u8 0, .int .u8 0, .int .i64 0, .slice none 0 0, .slice none 0 0, .int .i64 0, .int .i64 0, .int .i64 0, .int .i64 0, .int .i64 0, .int .i64 0, .int .i64 0, .int .i64 0, .string ⟨#[]⟩] 119)).alloc (.cells #[.slice none 0 0, .int .i64 0, .int .i64 0, .int .i64 0, .int .i64 0, .int .u8 0, .int .u8 0, .int .u8 0, .int .u8 0, .int .u8 0, .int .u8 0, .int .u8 0, .int .u8 0, .int .u8 0, .int .u8 0, .int .u8 0, .int .u8 0, .int .u8 0, .int .u8 0, .int .u8 0, .int .u8 0, .int .i64 0, .slice none 0 0, .slice none 0 0, .int .i64 0, .int .i64 0, .int .i64 0, .int .i64 0, .int .i64 0, .int .i64 0, .int .i64 0, .int .i64 0, .string ⟨#[]⟩] 119) = X) := Hh (by rw [hX, hz1, rrZ_lit])
    have CS : w.heap.size + 2 ≤ X.heap.size := by rw [hX, hz1]; simp
    clear hX hz1
    rw [← HW.out] at C10 C12 CB CS
    clear HW
    go_enter func182, ntmps182
    go_wp2_with (refine at_op (.store 119 (.tmp 13) (.tmp 56)) rfl ?_; go_must (refine wpList_stB rfl _ _ _ rfl (w.heap.size + 1) 0 rfl rrZ rfl C12 (by rw [rrZ_len]; omega) (by rw [rrZ_len]; exact rrInfo) rrZ_one ?_))
    intro W B12 g1 _
    replace B12 : Blk W (w.heap.size + 1) 119 rrZ := B12
    have B10 := C10.grown g1 (by simp)
    have HB := below_grown CB g1 (by omega) (by omega)
    clear C10 C12 CB g1 CS
    go_wp2_with fail
    refine (K.out W).mono ?_
    rintro _ w1 ⟨rfl, rfl⟩
    clear K
    generalize m.take (a + n) = S at *
    go_wp2_with fail
    refine (N.out _).mono ?_
    rintro _ w1 ⟨v, rfl, hT, b1⟩
    have B1 := B12.below b1 B12.lt
    have A1 := B10.below b1 B10.lt
    have HB1 := below_then HB HB.size b1
    have nv0 := NmO.mk' hT h4 h5
    obtain ⟨A, c, hv, -⟩ := nv0.form
    subst hv
    clear hT b1 N B12 B10 HB
    go_wp2_with (refine at_op (.store 26 (.tmp 108) (.tmp 107)) rfl ?_; go_must (refine wpList_stC rfl 26 (.tmp 108) (.tmp 107) rfl (w.heap.size + 1) 22 rfl (.slice A l.length c) rfl B1 (by omega) nameInfo1 rfl rfl ?_))
    intro w2 B2 g2 _
    have A2 := A1.grown g2 (by simp)
    have HB2 := below_grown HB1 g2 HB1.size (by omega)
    have nv := nv0.stays (Stays.blk g2 B1 (by decide))
    obtain ⟨L, hL⟩ : ∃ L, L = rrZ.set 22 (.slice A l.length c) := ⟨_, rfl⟩
    rw [← hL] at B2
    replace hL : L = rrC nilS (.slice A l.length c) nilS r := by rw [hL, hr]; rfl
    have hwf : r.wf := by rw [hr]; exact ⟨rfl, rfl⟩
    have ll : L.length = 33 := rget_len hL hwf
    have l1 : Hid (∀ v ∈ L, v.oneCell' = true) := Hh (by rw [hL]; exact rrC_one rfl nv.one rfl)
    have OW : Hid (∀ w', Stays w2 w' → RRown w' L r) := Hh (fun w' hS => ⟨nilS, _, nilS, hL, hwf, by rw [hr]; exact NmO.nil _, by rw [hr]; exact nv.stays hS, by rw [hr]; exact NmO.nil _, by rw [hr]; simp [RR.zero]⟩)
    clear hL nv nv0 hr hwf g2 B1 A1 HB1
    go_wp2_with (first
     | (refine at_op (.load 119 (.tmp 13)) rfl ?_; go_must (refine wpList_ldB rfl _ _ rfl (w.heap.size + 1) 0 rfl B2 33 (by omega) _ underlying119 rfl rrInfo L (tk0 (by omega)) ?_))
     | (refine at_op (.store 119 (.tmp 10) (.tmp 217)) rfl ?_; go_must (refine wpList_stB rfl _ _ _ rfl w.heap.size 0 rfl L rfl A2 (by rw [rrZ_len]; omega) (by rw [ll]; exact rrInfo) l1.out ?_)))
    intro w3 hb3 hg3 _
    rw [List.drop_of_length_le (by rw [rrZ_len]; omega), List.append_nil] at hb3
    have S3 := Stays.blk hg3 A2 (by decide)
    have HB3 := below_grown HB2 hg3 HB2.size (Nat.le_refl _)
    clear hg3 A2 B2 HB2
    go_wp2_with fail
    refine ret_cell_tmp rfl w.heap.size rfl hb3 _ underlying119 rfl (by rw [ll]; exact rrInfo) rfl (.int .i64 0) rfl ?_
    exact ⟨L, rfl, OW.out _ S3, HB3⟩
  ·
   obtain rfl : o = .error 5 := by rw [← ho]; unfold targAt; rw [h2]; simp only; rw [if_neg hq]
   have hqe : ((q : Int) != (((m.take (a + n)).length : Nat) : Int)) = true := by simp only [bne_iff_ne, ne_eq]; omega
   simp only [mapE]
   clear ho h1 h2 h3 hq hSl hS4
   rcases hkf with rfl | rfl
   all_goals
    have k1 : (0 : Int) ≤ a := by omega
    have k2 : (0 : Int) ≤ n := by omega
    have k3 : (a : Int) ≤ m.length := by omega
    have k4 : n ≤ (m.length : Int) - a := by omega
    have k5 : (a : Int) + n ≤ m.length := by omega
    have hs0 : ((a : Int) + n).toNat = a + n := by omega
    obtain ⟨z1, hz1⟩ : ∃ z1, z1 = w.alloc (.cells rrZ.toArray 119) := ⟨_, rfl⟩
    obtain ⟨X, hX⟩ : ∃ X, X = z1.alloc (.cells rrZ.toArray 119) := ⟨_, rfl⟩
    have C10 : Blk X w.heap.size 119 rrZ := by rw [hX, hz1]; exact (Blk.new w 119 rrZ).alloc _
    have C12 : Blk X (w.heap.size + 1) 119 rrZ := by rw [hX, hz1]; exact Blk.new' _ _ rrZ _ (by simp)
    have CB : Below w.heap.size w X := by rw [hX, hz1]; exact ((Below.refl _ _).alloc (Nat.le_refl _) _).alloc (by simp) _
    have HW : Hid ((w.alloc (.cells #[.slice none 0 0, .int .i64 0, .int .i64 0, .int .i64 0, .int .i64 0, .int .u8 0, .int .u8 0, .int .u8 0, .int .u8 0, .int .u8 0, .int .u8 0, .int .u8 0, .int .u8 0, .int .u8 0, .int .u8 0, .int .u8 0, .int .u8 0, .int .u8 0, .int .u8 0, .int .u8 0, .int .u8 0, .int .i64 0, .slice none 0 0, .slice none 0 0, .int .i64 0, .int .i64 0, .int .i64 0, .int .i64 0, .int .i64 0, .int .i64 0, .int .i64 0, .int .i64 0, .string ⟨#[]⟩] 119)).alloc (.cells #[.slice none 0 0, .int .i64 0, .int .i64 0, .int .i64 0, .int .i64 0, .int .u8 0, .int .u8 0, .int .u8 0, .int .u8 0, .int .u8 0, .int .u8 0, .int .u8 0, .int .u8 0, .int .u8 0, .int .u8 0, .int .u8 0, .int .u8 0, .int .u8 0, .int .u8 0, .int .u8 0, .int .u8 0, .int .i64 0, .slice none 0 0, .slice none 0 0, .int .i64 0, .int .i64 0, .int .i64 0, .int .i64 0, .int .i64 0, .int .i64 0, .int .i64 0, .int .i64 0, .string ⟨#[]⟩] 119) = X) := Hh (by rw [hX, hz1, rrZ_lit])
    have CS : w.heap.size + 2 ≤ X.heap.size := by rw [hX, hz1]; simp
    clear hX hz1
    rw [← HW.out] at C10 C12 CB CS
    clear HW
    go_enter func182, ntmps182
    go_wp2_with (refine at_op (.store 119 (.tmp 13) (.tmp 56)) rfl ?_; go_must (refine wpList_stB rfl _ _ _ rfl (w.heap.size + 1) 0 rfl rrZ rfl C12 (by rw [rrZ_len]; omega) (by rw [rrZ_len]; exact rrInfo) rrZ_one ?_))
    intro W B12 g1 _
    replace B12 : Blk W (w.heap.size + 1) 119 rrZ := B12
    have B10 := C10.grown g1 (by simp)
    have HB := below_grown CB g1 (by omega) (by omega)
    clear C10 C12 CB g1 CS
    go_wp2_with fail
    refine (K.out W).mono ?_
    rintro _ w1 ⟨rfl, rfl⟩
    clear K
    generalize m.take (a + n) = S at *
    go_wp2_with fail
    refine (N.out _).mono ?_
    rintro _ w1 ⟨v, rfl, hT, b1⟩
    have B1 := B12.below b1 B12.lt
    have A1 := B10.below b1 B10.lt
    have HB1 := below_then HB HB.size b1
    obtain ⟨A, c, hv, -, -⟩ := hT.form
    subst hv
    clear hT b1 N B12 B10 HB
    go_wp2_with (refine at_op (.store 26 (.tmp 108) (.tmp 107)) rfl ?_; go_must (refine wpList_stC rfl 26 (.tmp 108) (.tmp 107) rfl (w.heap.size + 1) 22 rfl (.slice A l.length c) rfl B1 (by omega) nameInfo1 rfl rfl ?_))
    intro w2 B2 g2 _
    have A2 := A1.grown g2 (by simp)
    have HB2 := below_grown HB1 g2 HB1.size (by omega)
    clear g2 B1 A1 HB1 B2
    have hx : (5 : Int) ≠ 0 := by decide
    go_wp2_with (refine at_op (.store 119 (.tmp 10) (.tmp 215)) rfl ?_; go_must (refine wpList_stB rfl _ _ _ rfl w.heap.size 0 rfl rrZ rfl A2 (by rw [rrZ_len]; omega) (by rw [rrZ_len]; exact rrInfo) rrZ_one ?_))
    intro w3 hb3 hg3 _
    rw [List.drop_of_length_le (by rw [rrZ_len]; omega), List.append_nil] at hb3
    have HB3 := below_grown HB2 hg3 HB2.size (Nat.le_refl _)
    clear hg3 A2 HB2
    go_wp2_with fail
    refine ret_cell_tmp rfl w.heap.size rfl hb3 _ underlying119 rfl (by rw [rrZ_len]; exact rrInfo) rfl (.int .i64 5) rfl ?_
    exact ⟨hx, rfl, HB3⟩
 ·
  have N := Hh (fun w => rname13_no h1 w hS4)
  obtain rfl : o = .error (if x = 1 then 5 else x) := by rw [← ho]; unfold targAt; rw [h2]
  simp only [mapE]
  generalize (if x = 1 then 5 else x) = y at *
  have hyz := h4.nz
  have hye : (y == 0) = false := by simpa using h4.ne
  have hx := h4.ne
  clear ho h1 h2 h3 h4 hSl hS4
  rcases hkf with rfl | rfl
  all_goals
   have k1 : (0 : Int) ≤ a := by omega
   have k2 : (0 : Int) ≤ n := by omega
   have k3 : (a : Int) ≤ m.length := by omega
   have k4 : n ≤ (m.length : Int) - a := by omega
   have k5 : (a : Int) + n ≤ m.length := by omega
   have hs0 : ((a : Int) + n).toNat = a + n := by omega
   obtain ⟨z1, hz1⟩ : ∃ z1, z1 = w.alloc (.cells rrZ.toArray 119) := ⟨_, rfl⟩
   obtain ⟨X, hX⟩ : ∃ X, X = z1.alloc (.cells rrZ.toArray 119) := ⟨_, rfl⟩
   have C10 : Blk X w.heap.size 119 rrZ := by rw [hX, hz1]; exact (Blk.new w 119 rrZ).alloc _
   have C12 : Blk X (w.heap.size + 1) 119 rrZ := by rw [hX, hz1]; exact Blk.new' _ _ rrZ _ (by simp)
   have CB : Below w.heap.size w X := by rw [hX, hz1]; exact ((Below.refl _ _).alloc (Nat.le_refl _) _).alloc (by simp) _
   have HW : Hid ((w.alloc (.cells #[.slice none 0 0, .int .i64 0, .int .i64 0, .int .i64 0, .int .i64 0, .int .u8 0, .int .u8 0, .int .u8 0, .int .u8 0, .int .u8 0, .int .u8 0, .int .u8 0, .int .u8 0, .int .u8 0, .int .u8 0, .int .u8 0, .int .u8 0, .int .u8 0, .int .u8 0, .int .u8 0, .int .u8 0, .int .i64 0, .slice none 0 0, .slice none 0 0, .int .i64 0, .int .i64 0, .int .i64 0, .int .i64 0, .int .i64 0, .int .i64 0, .int .i64 0, .int .i64 0, .string ⟨#[]⟩] 119)).alloc (.cells #[.slice none 0 0, .int .i64 0, .int .i64 0, .int .i64 0, .int .i64 0, .int .u8 0, .int .u8 0, .int .u8 0, .int .u8 0, .int .u8 0, .int .u8 0, .int .u8 0, .int .u8 0, .int .u8 0, .int .u8 0, .int .u8 0, .int .u8 0, .int .u8 0, .int .u8 0, .int .u8 0, .int .u8 0, .int .i64 0, .slice none 0 0, .slice none 0 0, .int .i64 0, .int .i64 0, .int .i64 0, .int .i64 0, .int .i64 0, .int .i64 0, .int .i64 0, .int .i64 0, .string ⟨#[]⟩] 119) = X) := Hh (by rw [hX, hz1, rrZ_lit])
   have CS : w.heap.size + 2 ≤ X.heap.size := by rw [hX, hz1]; simp
   clear hX hz1
   rw [← HW.out] at C10 C12 CB CS
   clear HW
   go_enter func182, ntmps182
   go_wp2_with (refine at_op (.store 119 (.tmp 13) (.tmp 56)) rfl ?_; go_must (refine wpList_stB rfl _ _ _ rfl (w.heap.size + 1) 0 rfl rrZ rfl C12 (by rw [rrZ_len]; omega) (by rw [rrZ_len]; exact rrInfo) rrZ_one ?_))
   intro W B12 g1 _
   replace B12 : Blk W (w.heap.size + 1) 119 rrZ := B12
   have B10 := C10.grown g1 (by simp)
   have HB := below_grown CB g1 (by omega) (by omega)
   clear C10 C12 CB g1 CS
   go_wp2_with fail
   refine (K.out W).mono ?_
   rintro _ w1 ⟨rfl, rfl⟩
   clear K
   generalize m.take (a + n) = S at *
   go_wp2_with fail
   refine (N.out _).mono ?_
   rintro _ w1 ⟨v, rfl, hT, b1⟩
   have B1 := B12.below b1 B12.lt
   have A1 := B10.below b1 B10.lt
   have HB1 := below_then HB HB.size b1
   obtain ⟨A, c, hv, -, -⟩ := hT.form
   subst hv
   clear hT b1 N B12 B10 HB
   go_wp2_with (refine at_op (.store 26 (.tmp 108) (.tmp 107)) rfl ?_; go_must (refine wpList_stC rfl 26 (.tmp 108) (.tmp 107) rfl (w.heap.size + 1) 22 rfl _ rfl B1 (by omega) nameInfo1 rfl rfl ?_))
   intro w2 B2 g2 _
   have A2 := A1.grown g2 (by simp)
   have HB2 := below_grown HB1 g2 HB1.size (by omega)
   clear g2 B1 A1 HB1 B2
   go_wp2_with (refine at_op (.store 119 (.tmp 10) (.tmp 215)) rfl ?_; go_must (refine wpList_stB rfl _ _ _ rfl w.heap.size 0 rfl rrZ rfl A2 (by rw [rrZ_len]; omega) (by rw [rrZ_len]; exact rrInfo) rrZ_one ?_))
   intro w3 hb3 hg3 _
   rw [List.drop_of_length_le (by rw [rrZ_len]; omega), List.append_nil] at hb3
   have HB3 := below_grown HB2 hg3 HB2.size (Nat.le_refl _)
   clear hg3 A2 HB2
   go_wp2_with fail
   refine ret_cell_tmp rfl w.heap.size rfl hb3 _ underlying119 rfl (by rw [rrZ_len]; exact rrInfo) rfl (.int .i64 y) rfl ?_
   exact ⟨hx, rfl, HB3⟩
theorem cut2 (s : List UInt8) (a b c : Nat) (h : c = a + b) : (s.take c).drop a = (s.drop a).take b := by rw [h, List.drop_take, Nat.add_sub_cancel_left]
theorem cut2' (s : List UInt8) (a b c d : Nat) (h : c = a + b + d) : (s.take c).drop (a + b) = ((s.drop a).drop b).take d := by rw [h, List.drop_take, Nat.add_sub_cancel_left, List.drop_drop]
theorem refnum2 (l : List UInt8) (hl : l.length ≤ 4) (w : World) : Calls prog 43 #[.string (bs l)] w (Ret (.int .i64 (numB l)) w) := refNum_any l w hl
set_option maxHeartbeats 4000000 in
theorem r13_srv (m : List UInt8) (a n : Nat) (ty cl : Int) (w : World) (hm : a + n ≤ m.length) (hl : m.length ≤ 4000000) (hk : kindR ty cl = 33) (hn : 6 ≤ n) (o : Except Int (List (List UInt8))) (ho : targAt (m.take (a + n)) (a + 6) = o) :
  Calls prog 182 #[.string (bs m), .int .i64 a, .int .i64 n, .int .i64 ty, .int .i64 cl] w (GetR (mapE (fun l => { RR.zero with pri := numB (((m.take (a + n)).drop a).take 2), we := numB ((((m.take (a + n)).drop a).drop 2).take 2), po := numB ((((m.take (a + n)).drop a).drop 4).take 2), tg := l }) o) w) := by
 have K := Hh (fun w => refKind13_any ty cl w)
 rw [hk] at K
 clear hk
 have hl33 : rrZ.length = 33 := rrZ_len
 have hSl : (m.take (a + n)).length = a + n := by simp; omega
 have hS4 : (m.take (a + n)).length ≤ 4000000 := by omega
 rw [← cut2 _ a 2 (a + 2) rfl, ← cut2' _ a 2 (a + 4) 2 rfl, ← cut2' _ a 4 (a + 6) 2 rfl]
 have hc6 : (((a + 6 : Nat)) : Int) = (a : Int) + 6 := by omega
 rcases nameE_cases (m.take (a + n)) (a + 6) with ⟨l, q, h1, h2, h3, h4, h5⟩ | ⟨x, h1, h2, h3, h4⟩
 ·
  have N := Hh (fun w => rname13_ok h1 w hS4)
  rw [hc6] at N
  by_cases hq : q = (m.take (a + n)).length
  ·
   obtain rfl : o = .ok l := by rw [← ho]; unfold targAt; rw [h2]; simp only; rw [if_pos hq]
   have hqe : ((q : Int) != (((m.take (a + n)).length : Nat) : Int)) = false := by rw [hq]; simp
   simp only [mapE]
   clear ho h1 h2 h3 hq hS4 hc6
   have hn6 : ¬ (n : Int) < 6 := by omega
   have k1 : (0 : Int) ≤ a := by omega
   have k2 : (0 : Int) ≤ n := by omega
   have k3 : (a : Int) ≤ m.length := by omega
   have k4 : n ≤ (m.length : Int) - a := by omega
   have k5 : (a : Int) + n ≤ m.length := by omega
   have hs0 : ((a : Int) + n).toNat = a + n := by omega
   obtain ⟨z1, hz1⟩ : ∃ z1, z1 = w.alloc (.cells rrZ.toArray 119) := ⟨_, rfl⟩
   obtain ⟨X, hX⟩ : ∃ X, X = z1.alloc (.cells rrZ.toArray 119) := ⟨_, rfl⟩
   have C10 : Blk X w.heap.size 119 rrZ := by rw [hX, hz1]; exact (Blk.new w 119 rrZ).alloc _
   have C12 : Blk X (w.heap.size + 1) 119 rrZ := by rw [hX, hz1]; exact Blk.new' _ _ rrZ _ (by simp)
   have CB : Below w.heap.size w X := by rw [hX, hz1]; exact ((Below.refl _ _).alloc (Nat.le_refl _) _).alloc (by simp) _
   have HW : Hid ((w.alloc (.cells #[.slice none 0 0, .int .i64 0, .int .i64 0, .int .i64 0, .int .i64 0, .int .u8 0, .int .u8 0, .int .u8 0, .int .u8 0, .int .u8 0, .int .u8 0, .int .u8 0, .int .u8 0, .int .u8 0, .int .u8 0, .int .u8 0, .int .u8 0, .int .u8 0, .int .u8 0, .int .u8 0, .int .u8 0, .int .i64 0, .slice none 0 0, .slice none 0 0, .int .i64 0, .int .i64 0, .int .i64 0, .int .i64 0, .int .i64 0, .int .i64 0, .int .i64 0, .int .i64 0, .string ⟨#[]⟩] 119)).alloc (.cells #[.slice none 0 0, .int .i64 0, .int .i64 0, .int .i64 0, .int .i64 0, .int .u8 0, .int .u8 0, .int .u8 0, .int .u8 0, .int .u8 0, .int .u8 0, .int .u8 0, .int .u8 0, .int .u8 0, .int .u8 0, .int .u8 0, .int .u8 0, .int .u8 0, .int .u8 0, .int .u8 0, .int .u8 0, .int .i64 0, .slice none 0 0, .slice none 0 0, .int .i64 0, .int .i64 0, .int .i64 0, .int .i64 0, .int .i64 0, .int .i64 0, .int .i64 0, .int .i64 0, .string ⟨#[]⟩] 119) = X) := Hh (by rw [hX, hz1, rrZ_lit])
   have CS : w.heap.size + 2 ≤ X.heap.size := by rw [hX, hz1]; simp
   clear hX hz1
   rw [← HW.out] at C10 C12 CB CS
   clear HW
   go_enter func182, ntmps182
   go_wp2_with (refine at_op (.store 119 (.tmp 13) (.tmp 56)) rfl ?_; go_must (refine wpList_stB rfl _ _ _ rfl (w.heap.size + 1) 0 rfl rrZ rfl C12 (by rw [rrZ_len]; omega) (by rw [rrZ_len]; exact rrInfo) rrZ_one ?_))
   intro W B12 g1 _
   replace B12 : Blk W (w.heap.size + 1) 119 rrZ := B12
   have B10 := C10.grown g1 (by simp)
   have HB := below_grown CB g1 (by omega) (by omega)
   clear C10 C12 CB g1 CS
   go_wp2_with fail
   refine (K.out W).mono ?_
   rintro _ w1 ⟨rfl, rfl⟩
   clear K
   have S2 : (a : Int) + 2 ≤ ((m.take (a + n)).length : Nat) := by rw [hSl]; omega
   have S4 : (a : Int) + 4 ≤ ((m.take (a + n)).length : Nat) := by rw [hSl]; omega
   have S6 : (a : Int) + 6 ≤ ((m.take (a + n)).length : Nat) := by rw [hSl]; omega
   have t2 : ((a : Int) + 2).toNat = a + 2 := by omega
   have t4 : ((a : Int) + 4).toNat = a + 4 := by omega
   have t6 : ((a : Int) + 6).toNat = a + 6 := by omega
   have a0 : (0 : Int) ≤ (a : Int) + 2 := by omega
   have a4 : (0 : Int) ≤ (a : Int) + 4 := by omega
   generalize m.take (a + n) = S at *
   have N1 := Hh (fun w => refnum2 ((S.take (a + 2)).drop a) (by simp; omega) w)
   have N2 := Hh (fun w => refnum2 ((S.take (a + 4)).drop (a + 2)) (by simp; omega) w)
   have N3 := Hh (fun w => refnum2 ((S.take (a + 6)).drop (a + 4)) (by simp; omega) w)
   obtain ⟨n1, hn1⟩ : ∃ x, Hid (numB ((S.take (a + 2)).drop a) = x) := ⟨_, Hh rfl⟩
   obtain ⟨n2, hn2⟩ : ∃ x, Hid (numB ((S.take (a + 4)).drop (a + 2)) = x) := ⟨_, Hh rfl⟩
   obtain ⟨n3, hn3⟩ : ∃ x, Hid (numB ((S.take (a + 6)).drop (a + 4)) = x) := ⟨_, Hh rfl⟩
   rw [hn1.out] at N1
   rw [hn2.out] at N2
   rw [hn3.out] at N3
   go_wp2_with fail
   refine (N1.out _).mono ?_
   rintro _ w1 ⟨rfl, rfl⟩
   go_wp2_with (refine at_op (.store 3 (.tmp 122) (.tmp 121)) rfl ?_; go_must (refine wpList_stC rfl 3 (.tmp 122) (.tmp 121) rfl (w.heap.size + 1) 24 rfl (.int .i64 (n1 : Int)) rfl B12 (by omega) intInfo1 rfl rfl ?_))
   intro w2 B2 g2 _
   have A2 := B10.grown g2 (by simp)
   have HB2 := below_grown HB g2 HB.size (by omega)
   clear B12 B10 HB g2 N1
   go_wp2_with fail
   refine (N2.out _).mono ?_
   rintro _ w1 ⟨rfl, rfl⟩
   go_wp2_with (refine at_op (.store 3 (.tmp 130) (.tmp 129)) rfl ?_; go_must (refine wpList_stC rfl 3 (.tmp 130) (.tmp 129) rfl (w.heap.size + 1) 25 rfl (.int .i64 (n2 : Int)) rfl B2 (by simp only [List.length_set]; omega) intInfo1 rfl rfl ?_))
   intro w3 B3 g3 _
   have A3 := A2.grown g3 (by simp)
   have HB3 := below_grown HB2 g3 HB2.size (by omega)
   clear B2 A2 HB2 g3 N2
   go_wp2_with fail
   refine (N3.out _).mono ?_
   rintro _ w1 ⟨rfl, rfl⟩
   go_wp2_with (refine at_op (.store 3 (.tmp 138) (.tmp 137)) rfl ?_; go_must (refine wpList_stC rfl 3 (.tmp 138) (.tmp 137) rfl (w.heap.size + 1) 26 rfl (.int .i64 (n3 : Int)) rfl B3 (by simp only [List.length_set]; omega) intInfo1 rfl rfl ?_))
   intro w4 B4 g4 _
   have A4 := A3.grown g4 (by simp)
   have HB4 := below_grown HB3 g4 HB3.size (by omega)
   clear B3 A3 HB3 g4 N3
   obtain ⟨LL, hLL⟩ : ∃ LL, LL = ((rrZ.set 24 (.int .i64 (n1 : Int))).set 25 (.int .i64 (n2 : Int))).set 26 (.int .i64 (n3 : Int)) := ⟨_, rfl⟩
   rw [← hLL] at B4
   have hl34 : LL.length = 33 := by rw [hLL]; simp only [List.length_set]; exact hl33
   have HLL := Hh hLL
   clear hLL S2 S4 t2 t4 a0 a4
   go_wp2_with fail
   refine (N.out _).mono ?_
   rintro _ w5 ⟨v, rfl, hT, b5⟩
   have B5 := B4.below b5 B4.lt
   have A5 := A4.below b5 A4.lt
   have HB5 := below_then HB4 HB4.size b5
   clear B4 A4 HB4 N
   have nv0 := NmO.mk' hT h4 h5
   obtain ⟨A, c, hv, -⟩ := nv0.form
   subst hv
   clear hT b5
   go_wp2_with (refine at_op (.store 26 (.tmp 148) (.tmp 147)) rfl ?_; go_must (refine wpList_stC rfl 26 (.tmp 148) (.tmp 147) rfl (w.heap.size + 1) 22 rfl (.slice A l.length c) rfl B5 (by omega) nameInfo1 rfl rfl ?_))
   intro w2 B2 g2 _
   have A2 := A5.grown g2 (by simp)
   have HB2 := below_grown HB5 g2 HB5.size (by omega)
   have nv := nv0.stays (Stays.blk g2 B5 (by decide))
   obtain ⟨L, hL⟩ : ∃ L, L = LL.set 22 (.slice A l.length c) := ⟨_, rfl⟩
   rw [← hL] at B2
   have ll : L.length = 33 := by rw [hL, List.length_set]; exact hl34
   obtain ⟨r, hr⟩ : ∃ r : RR, r = { RR.zero with pri := n1, we := n2, po := n3, tg := l } := ⟨_, rfl⟩
   replace hL : L = rrC nilS (.slice A l.length c) nilS r := by rw [hL, hr, HLL.out]; rfl
   have hwf : r.wf := by rw [hr]; exact ⟨rfl, rfl⟩
   have l1 : Hid (∀ v ∈ L, v.oneCell' = true) := Hh (by rw [hL]; exact rrC_one rfl nv.one rfl)
   have OW : Hid (∀ w', Stays w2 w' → RRown w' L { RR.zero with pri := numB ((S.take (a + 2)).drop a), we := numB ((S.take (a + 4)).drop (a + 2)), po := numB ((S.take (a + 6)).drop (a + 4)), tg := l }) := Hh (fun w' hS => by
    rw [hn1.out, hn2.out, hn3.out, ← hr]
    exact ⟨nilS, _, nilS, hL, hwf, by rw [hr]; exact NmO.nil _, by rw [hr]; exact nv.stays hS, by rw [hr]; exact NmO.nil _, by rw [hr]; simp [RR.zero]⟩)
   clear hL nv nv0 hr hwf g2 B5 A5 HB5 HLL
   go_wp2_with (first
    | (refine at_op (.load 119 (.tmp 13)) rfl ?_; go_must (refine wpList_ldB rfl _ _ rfl (w.heap.size + 1) 0 rfl B2 33 (by omega) _ underlying119 rfl rrInfo L (tk0 (by omega)) ?_))
    | (refine at_op (.store 119 (.tmp 10) (.tmp 217)) rfl ?_; go_must (refine wpList_stB rfl _ _ _ rfl w.heap.size 0 rfl L rfl A2 (by rw [rrZ_len]; omega) (by rw [ll]; exact rrInfo) l1.out ?_)))
   intro w3 hb3 hg3 _
   rw [List.drop_of_length_le (by rw [rrZ_len]; omega), List.append_nil] at hb3
   have S3 := Stays.blk hg3 A2 (by decide)
   have HB3 := below_grown HB2 hg3 HB2.size (Nat.le_refl _)
   clear hg3 A2 B2 HB2
   go_wp2_with fail
   refine ret_cell_tmp rfl w.heap.size rfl hb3 _ underlying119 rfl (by rw [ll]; exact rrInfo) rfl (.int .i64 0) rfl ?_
   exact ⟨L, rfl, OW.out _ S3, HB3⟩
  ·
   obtain rfl : o = .error 5 := by rw [← ho]; unfold targAt; rw [h2]; simp only; rw [if_neg hq]
   have hqe : ((q : Int) != (((m.take (a + n)).length : Nat) : Int)) = true := by simp only [bne_iff_ne, ne_eq]; omega
   simp only [mapE]
   clear ho h1 h2 h3 hq hS4 hc6
   have hn6 : ¬ (n : Int) < 6 := by omega
   have k1 : (0 : Int) ≤ a := by omega
   have k2 : (0 : Int) ≤ n := by omega
   have k3 : (a : Int) ≤ m.length := by omega
   have k4 : n ≤ (m.length : Int) - a := by omega
   have k5 : (a : Int) + n ≤ m.length := by omega
   have hs0 : ((a : Int) + n).toNat = a + n := by omega
   obtain ⟨z1, hz1⟩ : ∃ z1, z1 = w.alloc (.cells rrZ.toArray 119) := ⟨_, rfl⟩
   obtain ⟨X, hX⟩ : ∃ X, X = z1.alloc (.cells rrZ.toArray 119) := ⟨_, rfl⟩
   have C10 : Blk X w.heap.size 119 rrZ := by rw [hX, hz1]; exact (Blk.new w 119 rrZ).alloc _
   have C12 : Blk X (w.heap.size + 1) 119 rrZ := by rw [hX, hz1]; exact Blk.new' _ _ rrZ _ (by simp)
   have CB : Below w.heap.size w X := by rw [hX, hz1]; exact ((Below.refl _ _).alloc (Nat.le_refl _) _).alloc (by simp) _
   have HW : Hid ((w.alloc (.cells #[.slice none 0 0, .int .i64 0, .int .i64 0, .int .i64 0, .int .i64 0, .int .u8 0, .int .u8 0, .int .u8 0, .int .u8 0, .int .u8 0, .int .u8 0, .int .u8 0, .int .u8 0, .int .u8 0, .int .u8 0, .int .u8 0, .int .u8 0, .int .u8 0, .int .u8 0, .int .u8 0, .int .u8 0, .int .i64 0, .slice none 0 0, .slice none 0 0, .int .i64 0, .int .i64 0, .int .i64 0, .int .i64 0, .int .i64 0, .int .i64 0, .int .i64 0, .int .i64 0, .string ⟨#[]⟩] 119)).alloc (.cells #[.slice none 0 0, .int .i64 0, .int .i64 0, .int .i64 0, .int .i64 0, .int .u8 0, .int .u8 0, .int .u8 0, .int .u8 0, .int .u8 0, .int .u8 0, .int .u8 0, .int .u8 0, .int .u8 0, .int .u8 0, .int .u8 0, .int .u8 0, .int .u8 0, .int .u8 0, .int .u8 0, .int .u8 0, .int .i64 0, .slice none 0 0, .slice none 0 0, .int .i64 0, .int .i64 0, .int .i64 0, .int .i64 0, .int .i64 0, .int .i64 0, .int .i64 0, .int .i64 0, .string ⟨#[]⟩] 119) = X) := Hh (by rw [hX, hz1, rrZ_lit])
   have CS : w.heap.size + 2 ≤ X.heap.size := by rw [hX, hz1]; simp
   clear hX hz1
   rw [← HW.out] at C10 C12 CB CS
   clear HW
   go_enter func182, ntmps182
   go_wp2_with (refine at_op (.store 119 (.tmp 13) (.tmp 56)) rfl ?_; go_must (refine wpList_stB rfl _ _ _ rfl (w.heap.size + 1) 0 rfl rrZ rfl C12 (by rw [rrZ_len]; omega) (by rw [rrZ_len]; exact rrInfo) rrZ_one ?_))
   intro W B12 g1 _
   replace B12 : Blk W (w.heap.size + 1) 119 rrZ := B12
   have B10 := C10.grown g1 (by simp)
   have HB := below_grown CB g1 (by omega) (by omega)
   clear C10 C12 CB g1 CS
   go_wp2_with fail
   refine (K.out W).mono ?_
   rintro _ w1 ⟨rfl, rfl⟩
   clear K
   have S2 : (a : Int) + 2 ≤ ((m.take (a + n)).length : Nat) := by rw [hSl]; omega
   have S4 : (a : Int) + 4 ≤ ((m.take (a + n)).length : Nat) := by rw [hSl]; omega
   have S6 : (a : Int) + 6 ≤ ((m.take (a + n)).length : Nat) := by rw [hSl]; omega
   have t2 : ((a : Int) + 2).toNat = a + 2 := by omega
   have t4 : ((a : Int) + 4).toNat = a + 4 := by omega
   have t6 : ((a : Int) + 6).toNat = a + 6 := by omega
   have a0 : (0 : Int) ≤ (a : Int) + 2 := by omega
   have a4 : (0 : Int) ≤ (a : Int) + 4 := by omega
   generalize m.take (a + n) = S at *
   have N1 := Hh (fun w => refnum2 ((S.take (a + 2)).drop a) (by simp; omega) w)
   have N2 := Hh (fun w => refnum2 ((S.take (a + 4)).drop (a + 2)) (by simp; omega) w)
   have N3 := Hh (fun w => refnum2 ((S.take (a + 6)).drop (a + 4)) (by simp; omega) w)
   obtain ⟨n1, hn1⟩ : ∃ x, Hid (numB ((S.take (a + 2)).drop a) = x) := ⟨_, Hh rfl⟩
   obtain ⟨n2, hn2⟩ : ∃ x, Hid (numB ((S.take (a + 4)).drop (a + 2)) = x) := ⟨_, Hh rfl⟩
   obtain ⟨n3, hn3⟩ : ∃ x, Hid (numB ((S.take (a + 6)).drop (a + 4)) = x) := ⟨_, Hh rfl⟩
   rw [hn1.out] at N1
   rw [hn2.out] at N2
   rw [hn3.out] at N3
   go_wp2_with fail
   refine (N1.out _).mono ?_
   rintro _ w1 ⟨rfl, rfl⟩
   go_wp2_with (refine at_op (.store 3 (.tmp 122) (.tmp 121)) rfl ?_; go_must (refine wpList_stC rfl 3 (.tmp 122) (.tmp 121) rfl (w.heap.size + 1) 24 rfl (.int .i64 (n1 : Int)) rfl B12 (by omega) intInfo1 rfl rfl ?_))
   intro w2 B2 g2 _
   have A2 := B10.grown g2 (by simp)
   have HB2 := below_grown HB g2 HB.size (by omega)
   clear B12 B10 HB g2 N1
   go_wp2_with fail
   refine (N2.out _).mono ?_
   rintro _ w1 ⟨rfl, rfl⟩
   go_wp2_with (refine at_op (.store 3 (.tmp 130) (.tmp 129)) rfl ?_; go_must (refine wpList_stC rfl 3 (.tmp 130) (.tmp 129) rfl (w.heap.size + 1) 25 rfl (.int .i64 (n2 : Int)) rfl B2 (by simp only [List.length_set]; omega) intInfo1 rfl rfl ?_))
   intro w3 B3 g3 _
   have A3 := A2.grown g3 (by simp)
   have HB3 := below_grown HB2 g3 HB2.size (by omega)
   clear B2 A2 HB2 g3 N2
   go_wp2_with fail
   refine (N3.out _).mono ?_
   rintro _ w1 ⟨rfl, rfl⟩
   go_wp2_with (refine at_op (.store 3 (.tmp 138) (.tmp 137)) rfl ?_; go_must (refine wpList_stC rfl 3 (.tmp 138) (.tmp 137) rfl (w.heap.size + 1) 26 rfl (.int .i64 (n3 : Int)) rfl B3 (by simp only [List.length_set]; omega) intInfo1 rfl rfl ?_))
   intro w4 B4 g4 _
   have A4 := A3.grown g4 (by simp)
   have HB4 := below_grown HB3 g4 HB3.size (by omega)
   clear B3 A3 HB3 g4 N3
   obtain ⟨LL, hLL⟩ : ∃ LL, LL = ((rrZ.set 24 (.int .i64 (n1 : Int))).set 25 (.int .i64 (n2 : Int))).set 26 (.int .i64 (n3 : Int)) := ⟨_, rfl⟩
   rw [← hLL] at B4
   have hl34 : LL.length = 33 := by rw [hLL]; simp only [List.length_set]; exact hl33
   have HLL := Hh hLL
   clear hLL S2 S4 t2 t4 a0 a4
   go_wp2_with fail
   refine (N.out _).mono ?_
   rintro _ w5 ⟨v, rfl, hT, b5⟩
   have B5 := B4.below b5 B4.lt
   have A5 := A4.below b5 A4.lt
   have HB5 := below_then HB4 HB4.size b5
   clear B4 A4 HB4 N
   obtain ⟨A, c, hv, -, -⟩ := hT.form
   subst hv
   clear hT b5
   go_wp2_with (refine at_op (.store 26 (.tmp 148) (.tmp 147)) rfl ?_; go_must (refine wpList_stC rfl 26 (.tmp 148) (.tmp 147) rfl (w.heap.size + 1) 22 rfl (.slice A l.length c) rfl B5 (by omega) nameInfo1 rfl rfl ?_))
   intro w2 B2 g2 _
   have A2 := A5.grown g2 (by simp)
   have HB2 := below_grown HB5 g2 HB5.size (by omega)
   clear g2 B5 A5 HB5 B2
   have hx : (5 : Int) ≠ 0 := by decide
   go_wp2_with (refine at_op (.store 119 (.tmp 10) (.tmp 215)) rfl ?_; go_must (refine wpList_stB rfl _ _ _ rfl w.heap.size 0 rfl rrZ rfl A2 (by rw [rrZ_len]; omega) (by rw [rrZ_len]; exact rrInfo) rrZ_one ?_))
   intro w3 hb3 hg3 _
   rw [List.drop_of_length_le (by rw [rrZ_len]; omega), List.append_nil] at hb3
   have HB3 := below_grown HB2 hg3 HB2.size (Nat.le_refl _)
   clear hg3 A2 HB2
   go_wp2_with fail
   refine ret_cell_tmp rfl w.heap.size rfl hb3 _ underlying119 rfl (by rw [rrZ_len]; exact rrInfo) rfl (.int .i64 5) rfl ?_
   exact ⟨hx, rfl, HB3⟩
 ·
  have N := Hh (fun w => rname13_no h1 w hS4)
  rw [hc6] at N
  obtain rfl : o = .error (if x = 1 then 5 else x) := by rw [← ho]; unfold targAt; rw [h2]
  simp only [mapE]
  generalize (if x = 1 then 5 else x) = y at *
  have hyz := h4.nz
  have hye : (y == 0) = false := by simpa using h4.ne
  have hx := h4.ne
  clear ho h1 h2 h3 h4 hS4 hc6
  have hn6 : ¬ (n : Int) < 6 := by omega
  have k1 : (0 : Int) ≤ a := by omega
  have k2 : (0 : Int) ≤ n := by omega
  have k3 : (a : Int) ≤ m.length := by omega
  have k4 : n ≤ (m.length : Int) - a := by omega
  have k5 : (a : Int) + n ≤ m.length := by omega
  have hs0 : ((a : Int) + n).toNat = a + n := by omega
  obtain ⟨z1, hz1⟩ : ∃ z1, z1 = w.alloc (.cells rrZ.toArray 119) := ⟨_, rfl⟩
  obtain ⟨X, hX⟩ : ∃ X, X = z1.alloc (.cells rrZ.toArray 119) := ⟨_, rfl⟩
  have C10 : Blk X w.heap.size 119 rrZ := by rw [hX, hz1]; exact (Blk.new w 119 rrZ).alloc _
  have C12 : Blk X (w.heap.size + 1) 119 rrZ := by rw [hX, hz1]; exact Blk.new' _ _ rrZ _ (by simp)
  have CB : Below w.heap.size w X := by rw [hX, hz1]; exact ((Below.refl _ _).alloc (Nat.le_refl _) _).alloc (by simp) _
  have HW : Hid ((w.alloc (.cells #[.slice none 0 0, .int .i64 0, .int .i64 0, .int .i64 0, .int .i64 0, .int .u8 0, .int .u8 0, .int .u8 0, .int .u8 0, .int .u8 0, .int .u8 0, .int .u8 0, .int .u8 0, .int .u8 0, .int .u8 0, .int .u8 0, .int .u8 0, .int .u8 0, .int .u8 0, .int .u8 0, .int .u8 0, .int .i64 0, .slice none 0 0, .slice none 0 0, .int .i64 0, .int .i64 0, .int .i64 0, .int .i64 0, .int .i64 0, .int .i64 0, .int .i64 0, .int .i64 0, .string ⟨#[]⟩] 119)).alloc (.cells #[.slice none 0 0, .int .i64 0, .int .i64 0, .int .i64 0, .int .i64 0, .int .u8 0, .int .u8 0, .int .u8 0, .int .u8 0, .int .u8 0, .int .u8 0, .int .u8 0, .int .u8 0, .int .u8 0, .int .u8 0, .int .u8 0, .int .u8 0, .int .u8 0, .int .u8 0, .int .u8 0, .int .u8 0, .int .i64 0, .slice none 0 0, .slice none 0 0, .int .i64 0, .int .i64 0, .int .i64 0, .int .i64 0, .int .i64 0, .int .i64 0, .int .i64 0, .int .i64 0, .string ⟨#[]⟩] 119) = X) := Hh (by rw [hX, hz1, rrZ_lit])
  have CS : w.heap.size + 2 ≤ X.heap.size := by rw [hX, hz1]; simp
  clear hX hz1
  rw [← HW.out] at C10 C12 CB CS
  clear HW
  go_enter func182, ntmps182
  go_wp2_with (refine at_op (.store 119 (.tmp 13) (.tmp 56)) rfl ?_; go_must (refine wpList_stB rfl _ _ _ rfl (w.heap.size + 1) 0 rfl rrZ rfl C12 (by rw [rrZ_len]; omega) (by rw [rrZ_len]; exact rrInfo) rrZ_one ?_))
  intro W B12 g1 _
  replace B12 : Blk W (w.heap.size + 1) 119 rrZ := B12
  have B10 := C10.grown g1 (by simp)
  have HB := below_grown CB g1 (by omega) (by omega)
  clear C10 C12 CB g1 CS
  go_wp2_with fail
  refine (K.out W).mono ?_
  rintro _ w1 ⟨rfl, rfl⟩
  clear K
  have S2 : (a : Int) + 2 ≤ ((m.take (a + n)).length : Nat) := by rw [hSl]; omega
  have S4 : (a : Int) + 4 ≤ ((m.take (a + n)).length : Nat) := by rw [hSl]; omega
  have S6 : (a : Int) + 6 ≤ ((m.take (a + n)).length : Nat) := by rw [hSl]; omega
  have t2 : ((a : Int) + 2).toNat = a + 2 := by omega
  have t4 : ((a : Int) + 4).toNat = a + 4 := by omega
  have t6 : ((a : Int) + 6).toNat = a + 6 := by omega
  have a0 : (0 : Int) ≤ (a : Int) + 2 := by omega
  have a4 : (0 : Int) ≤ (a : Int) + 4 := by omega
  generalize m.take (a + n) = S at *
  have N1 := Hh (fun w => refnum2 ((S.take (a + 2)).drop a) (by simp; omega) w)
  have N2 := Hh (fun w => refnum2 ((S.take (a + 4)).drop (a + 2)) (by simp; omega) w)
  have N3 := Hh (fun w => refnum2 ((S.take (a + 6)).drop (a + 4)) (by simp; omega) w)
  obtain ⟨n1, hn1⟩ : ∃ x, Hid (numB ((S.take (a + 2)).drop a) = x) := ⟨_, Hh rfl⟩
  obtain ⟨n2, hn2⟩ : ∃ x, Hid (numB ((S.take (a + 4)).drop (a + 2)) = x) := ⟨_, Hh rfl⟩
  obtain ⟨n3, hn3⟩ : ∃ x, Hid (numB ((S.take (a + 6)).drop (a + 4)) = x) := ⟨_, Hh rfl⟩
  rw [hn1.out] at N1
  rw [hn2.out] at N2
  rw [hn3.out] at N3
  go_wp2_with fail
  refine (N1.out _).mono ?_
  rintro _ w1 ⟨rfl, rfl⟩
  go_wp2_with (refine at_op (.store 3 (.tmp 122) (.tmp 121)) rfl ?_; go_must (refine wpList_stC rfl 3 (.tmp 122) (.tmp 121) rfl (w.heap.size + 1) 24 rfl (.int .i64 (n1 : Int)) rfl B12 (by omega) intInfo1 rfl rfl ?_))
  intro w2 B2 g2 _
  have A2 := B10.grown g2 (by simp)
  have HB2 := below_grown HB g2 HB.size (by omega)
  clear B12 B10 HB g2 N1
  go_wp2_with fail
  refine (N2.out _).mono ?_
  rintro _ w1 ⟨rfl, rfl⟩
  go_wp2_with (refine at_op (.store 3 (.tmp 130) (.tmp 129)) rfl ?_; go_must (refine wpList_stC rfl 3 (.tmp 130) (.tmp 129) rfl (w.heap.size + 1) 25 rfl (.int .i64 (n2 : Int)) rfl B2 (by simp only [List.length_set]; omega) intInfo1 rfl rfl ?_))
  intro w3 B3 g3 _
  have A3 := A2.grown g3 (by simp)
  have HB3 := below_grown HB2 g3 HB2.size (by omega)
  clear B2 A2 HB2 g3 N2
  go_wp2_with fail
  refine (N3.out _).mono ?_
  rintro _ w1 ⟨rfl, rfl⟩
  go_wp2_with (refine at_op (.store 3 (.tmp 138) (.tmp 137)) rfl ?_; go_must (refine wpList_stC rfl 3 (.tmp 138) (.tmp 137) rfl (w.heap.size + 1) 26 rfl (.int .i64 (n3 : Int)) rfl B3 (by simp only [List.length_set]; omega) intInfo1 rfl rfl ?_))
  intro w4 B4 g4 _
  have A4 := A3.grown g4 (by simp)
  have HB4 := below_grown HB3 g4 HB3.size (by omega)
  clear B3 A3 HB3 g4 N3
  obtain ⟨LL, hLL⟩ : ∃ LL, LL = ((rrZ.set 24 (.int .i64 (n1 : Int))).set 25 (.int .i64 (n2 : Int))).set 26 (.int .i64 (n3 : Int)) := ⟨_, rfl⟩
  rw [← hLL] at B4
  have hl34 : LL.length = 33 := by rw [hLL]; simp only [List.length_set]; exact hl33
  have HLL := Hh hLL
  clear hLL S2 S4 t2 t4 a0 a4
  go_wp2_with fail
  refine (N.out _).mono ?_
  rintro _ w5 ⟨v, rfl, hT, b5⟩
  have B5 := B4.below b5 B4.lt
  have A5 := A4.below b5 A4.lt
  have HB5 := below_then HB4 HB4.size b5
  clear B4 A4 HB4 N
  obtain ⟨A, c, hv, -, -⟩ := hT.form
  subst hv
  clear hT b5
  go_wp2_with (refine at_op (.store 26 (.tmp 148) (.tmp 147)) rfl ?_; go_must (refine wpList_stC rfl 26 (.tmp 148) (.tmp 147) rfl (w.heap.size + 1) 22 rfl _ rfl B5 (by omega) nameInfo1 rfl rfl ?_))
  intro w2 B2 g2 _
  have A2 := A5.grown g2 (by simp)
  have HB2 := below_grown HB5 g2 HB5.size (by omega)
  clear g2 B5 A5 HB5 B2
  go_wp2_with (refine at_op (.store 119 (.tmp 10) (.tmp 215)) rfl ?_; go_must (refine wpList_stB rfl _ _ _ rfl w.heap.size 0 rfl rrZ rfl A2 (by rw [rrZ_len]; omega) (by rw [rrZ_len]; exact rrInfo) rrZ_one ?_))
  intro w3 hb3 hg3 _
  rw [List.drop_of_length_le (by rw [rrZ_len]; omega), List.append_nil] at hb3
  have HB3 := below_grown HB2 hg3 HB2.size (Nat.le_refl _)
  clear hg3 A2 HB2
  go_wp2_with fail
  refine ret_cell_tmp rfl w.heap.size rfl hb3 _ underlying119 rfl (by rw [rrZ_len]; exact rrInfo) rfl (.int .i64 y) rfl ?_
  exact ⟨hx, rfl, HB3⟩
set_option maxHeartbeats 1000000 in
theorem r13_srv_no (m : List UInt8) (a n : Nat) (ty cl : Int) (w : World) (hm : a + n ≤ m.length) (hl : m.length ≤ 4000000) (hk : kindR ty cl = 33) (hn : n < 6) :
  Calls prog 182 #[.string (bs m), .int .i64 a, .int .i64 n, .int .i64 ty, .int .i64 cl] w (GetR (.error 5) w) := by
 have K := Hh (fun w => refKind13_any ty cl w)
 rw [hk] at K
 clear hk
 have hl33 : rrZ.length = 33 := rrZ_len
 have hn6 : (n : Int) < 6 := by omega
 have k1 : (0 : Int) ≤ a := by omega
 have k2 : (0 : Int) ≤ n := by omega
 have k3 : (a : Int) ≤ m.length := by omega
 have k4 : n ≤ (m.length : Int) - a := by omega
 have k5 : (a : Int) + n ≤ m.length := by omega
 have hs0 : ((a : Int) + n).toNat = a + n := by omega
 obtain ⟨z1, hz1⟩ : ∃ z1, z1 = w.alloc (.cells rrZ.toArray 119) := ⟨_, rfl⟩
 obtain ⟨X, hX⟩ : ∃ X, X = z1.alloc (.cells rrZ.toArray 119) := ⟨_, rfl⟩
 have C10 : Blk X w.heap.size 119 rrZ := by rw [hX, hz1]; exact (Blk.new w 119 rrZ).alloc _
 have C12 : Blk X (w.heap.size + 1) 119 rrZ := by rw [hX, hz1]; exact Blk.new' _ _ rrZ _ (by simp)
 have CB : Below w.heap.size w X := by rw [hX, hz1]; exact ((Below.refl _ _).alloc (Nat.le_refl _) _).alloc (by simp) _
 have HW : Hid ((w.alloc (.cells #[.slice none 0 0, .int .i64 0, .int .i64 0, .int .i64 0, .int .i64 0, .int .u8 0, .int .u8 0, .int .u8 0, .int .u8 0, .int .u8 0, .int .u8 0, .int .u8 0, .int .u8 0, .int .u8 0, .int .u8 0, .int .u8 0, .int .u8 0, .int .u8 0, .int .u8 0, .int .u8 0, .int .u8 0, .int .i64 0, .slice none 0 0, .slice none 0 0, .int .i64 0, .int .i64 0, .int .i64 0, .int .i64 0, .int .i64 0, .int .i64 0, .int .i64 0, .int .i64 0, .string ⟨#[]⟩] 119)).alloc (.cells #[.slice none 0 0, .int .i64 0, .int .i64 0, .int .i64 0, .int .i64 0, .int .u8 0, .int .u8 0, .int .u8 0, .int .u8 0, .int .u8 0, .int .u8 0, .int .u8 0, .int .u8 0, .int .u8 0, .int .u8 0, .int .u8 0, .int .u8 0, .int .u8 0, .int .u8 0, .int .u8 0, .int .u8 0, .int .i64 0, .slice none 0 0, .slice none 0 0, .int .i64 0, .int .i64 0, .int .i64 0, .int .i64 0, .int .i64 0, .int .i64 0, .int .i64 0, .int .i64 0, .string ⟨#[]⟩] 119) = X) := Hh (by rw [hX, hz1, rrZ_lit])
 have CS : w.heap.size + 2 ≤ X.heap.size := by rw [hX, hz1]; simp
 clear hX hz1
 rw [← HW.out] at C10 C12 CB CS
 clear HW
 go_enter func182, ntmps182
 go_wp2_with (refine at_op (.store 119 (.tmp 13) (.tmp 56)) rfl ?_; go_must (refine wpList_stB rfl _ _ _ rfl (w.heap.size + 1) 0 rfl rrZ rfl C12 (by rw [rrZ_len]; omega) (by rw [rrZ_len]; exact rrInfo) rrZ_one ?_))
 intro W B12 g1 _
 replace B12 : Blk W (w.heap.size + 1) 119 rrZ := B12
 have B10 := C10.grown g1 (by simp)
 have HB := below_grown CB g1 (by omega) (by omega)
 clear C10 C12 CB g1 CS
 go_wp2_with fail
 refine (K.out W).mono ?_
 rintro _ w1 ⟨rfl, rfl⟩
 clear K
 have hx : (5 : Int) ≠ 0 := by decide
 go_wp2_with (refine at_op (.store 119 (.tmp 10) (.tmp 115)) rfl ?_; go_must (refine wpList_stB rfl _ _ _ rfl w.heap.size 0 rfl rrZ rfl B10 (by rw [rrZ_len]; omega) (by rw [rrZ_len]; exact rrInfo) rrZ_one ?_))
 intro w3 hb3 hg3 _
 rw [List.drop_of_length_le (by rw [rrZ_len]; omega), List.append_nil] at hb3
 have HB3 := below_grown HB hg3 HB.size (Nat.le_refl _)
 clear hg3 B10 HB
 go_wp2_with fail
 refine ret_cell_tmp rfl w.heap.size rfl hb3 _ underlying119 rfl (by rw [rrZ_len]; exact rrInfo) rfl (.int .i64 5) rfl ?_
 exact ⟨hx, rfl, HB3⟩
end Go.Proofs.YthnbcmlnpdabhaaGreat

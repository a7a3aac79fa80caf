/-
  The reference's Digits, of any number; ref07.Text.
-/
import Derived.Test.YtkcbffldncmbcaaGreatDoorTy6q
namespace Go.Proofs.YtkcbffldncmbcaaGreatDoor
open _root_.Go.Proofs.Tryz
open Go.RowKit
set_option maxRecDepth 100000
set_option linter.unusedVariables false
set_option linter.unusedSimpArgs false
theorem rdigZ_any (n : Int) (h0 : -9223372036854775808 ≤ n) (h1 : n ≤ 9223372036854775807) (w : World) : Calls prog 31 #[.int .i64 n] w (Ret (.string (bs (Lib.itoa n))) w) := by
 rw [← rdigZ_eq n h0 h1]
 obtain ⟨R, hR⟩ : ∃ R, Hid (rdigZ n = R) := ⟨_, Hh rfl⟩
 rw [hR.out]
 by_cases hz : n = 0
 case pos =>
  subst hz
  obtain rfl : R = [48] := by rw [← hR.out]; rfl
  go_enter func31, ntmps31
  go_wp2_with fail
  go_ret
  exact ⟨rfl, rfl⟩
 have hz' : (n == 0) = false := by simpa using hz
 obtain ⟨D, hD⟩ : ∃ D, Hid (digsF 20 n.natAbs [] = D) := ⟨_, Hh rfl⟩
 have HD : Hid (digsF (20 - 0) n.natAbs [] = D) := hD
 by_cases hneg : n < 0
 case pos =>
  have hRD : Hid (R = 45 :: D) := Hh (by rw [← hR.out, ← hD.out]; unfold rdigZ; rw [if_neg hz, if_pos hneg])
  have e1 : IntKind.u64.wrap n = n + 18446744073709551616 := by simp [IntKind.wrap, IntKind.bits, IntKind.signed]; omega
  have e2 : IntKind.u64.wrap (-(n + 18446744073709551616)) = -n := by simp [IntKind.wrap, IntKind.bits, IntKind.signed]; omega
  clear hR hz hD
  go_enter func31, ntmps31
  go_wp2_with fail
  go_loopw [3, 4, 5] (fun mv sv iv wr => ∃ (k m : Nat) (s : List UInt8), k ≤ 20 ∧ m ≤ 9223372036854775808 ∧ s.length ≤ k ∧ mv = .int .u64 m ∧ sv = .string (bs s) ∧ iv = .int .i64 k ∧ Hid (digsF (20 - k) m s = D) ∧ wr = w) (fun _ _ iv _ => 20 - (intOf iv).toNat)
  case atStart => exact ⟨0, n.natAbs, [], by omega, by omega, Nat.zero_le _, by congr 1; omega, rfl, rfl, HD, rfl⟩
  clear HD
  obtain ⟨k, m, s, hk, hm, hs, rfl, rfl, rfl, HD, hwr⟩ := hrel
  subst hwr
  by_cases hc : k < 20 ∧ 0 < m
  case pos =>
   have c1 : (k : Int) < 20 := by omega
   have c2 : (0 : Int) < m := by omega
   obtain ⟨d, hd⟩ : ∃ d, Hid (([48, 49, 50, 51, 52, 53, 54, 55, 56, 57] : List UInt8).getD (m % 10) 0 = d) := ⟨_, Hh rfl⟩
   have he : ByteArray.extract { data := #[48, 49, 50, 51, 52, 53, 54, 55, 56, 57] } (m % 10) (m % 10 + 1) = bs [d] := by
    rw [← hd.out]
    have h10 : m % 10 < 10 := Nat.mod_lt _ (by decide)
    generalize m % 10 = j at *
    match j, h10 with
    | 0, _ | 1, _ | 2, _ | 3, _ | 4, _ | 5, _ | 6, _ | 7, _ | 8, _ | 9, _ => rfl
   have HN : Hid (digsF (20 - (k + 1)) (m / 10) (d :: s) = D) := Hh (by
    rw [← HD.out, show 20 - k = (20 - (k + 1)) + 1 by omega, ← hd.out]
    show _ = if m = 0 then s else _
    rw [if_neg (by omega)])
   clear HD hd
   go_wp2_with fail
   exact ⟨⟨k + 1, m / 10, d :: s, by omega, by omega, by simp; omega, by congr 1, by rfl, by congr 1, HN, trivial⟩, by simp [intOf]; omega⟩
  have HS : Hid (s = D) := Hh (by
   rw [← HD.out]
   by_cases h : m = 0
   ·
    cases hk' : 20 - k with
    | zero => rfl
    | succ f => unfold digsF; rw [if_pos h]
   ·
    rw [show 20 - k = 0 by omega]; rfl)
  have hneg' : n < 0 := hneg
  by_cases hk2 : k < 20
  case pos =>
   obtain rfl : m = 0 := by omega
   have c1 : (k : Int) < 20 := by omega
   go_wp2_with fail
   go_ret
   rw [hRD.out, ← HS.out]
   exact ⟨rfl, rfl⟩
  case neg =>
   have c1 : ¬ (k : Int) < 20 := by omega
   go_wp2_with fail
   go_ret
   rw [hRD.out, ← HS.out]
   exact ⟨rfl, rfl⟩
 have hRD : Hid (R = D) := Hh (by rw [← hR.out, ← hD.out]; unfold rdigZ; rw [if_neg hz, if_neg hneg])
 have e1 : IntKind.u64.wrap n = n := by simp [IntKind.wrap, IntKind.bits, IntKind.signed]; omega
 have hneg' : ¬ n < 0 := hneg
 clear hR hz hD
 go_enter func31, ntmps31
 go_wp2_with fail
 go_loopw [3, 4, 5] (fun mv sv iv wr => ∃ (k m : Nat) (s : List UInt8), k ≤ 20 ∧ m ≤ 9223372036854775808 ∧ s.length ≤ k ∧ mv = .int .u64 m ∧ sv = .string (bs s) ∧ iv = .int .i64 k ∧ Hid (digsF (20 - k) m s = D) ∧ wr = w) (fun _ _ iv _ => 20 - (intOf iv).toNat)
 case atStart => exact ⟨0, n.natAbs, [], by omega, by omega, Nat.zero_le _, by congr 1; omega, rfl, rfl, HD, rfl⟩
 clear HD
 obtain ⟨k, m, s, hk, hm, hs, rfl, rfl, rfl, HD, hwr⟩ := hrel
 subst hwr
 by_cases hc : k < 20 ∧ 0 < m
 case pos =>
  have c1 : (k : Int) < 20 := by omega
  have c2 : (0 : Int) < m := by omega
  obtain ⟨d, hd⟩ : ∃ d, Hid (([48, 49, 50, 51, 52, 53, 54, 55, 56, 57] : List UInt8).getD (m % 10) 0 = d) := ⟨_, Hh rfl⟩
  have he : ByteArray.extract { data := #[48, 49, 50, 51, 52, 53, 54, 55, 56, 57] } (m % 10) (m % 10 + 1) = bs [d] := by
   rw [← hd.out]
   have h10 : m % 10 < 10 := Nat.mod_lt _ (by decide)
   generalize m % 10 = j at *
   match j, h10 with
   | 0, _ | 1, _ | 2, _ | 3, _ | 4, _ | 5, _ | 6, _ | 7, _ | 8, _ | 9, _ => rfl
  have HN : Hid (digsF (20 - (k + 1)) (m / 10) (d :: s) = D) := Hh (by
   rw [← HD.out, show 20 - k = (20 - (k + 1)) + 1 by omega, ← hd.out]
   show _ = if m = 0 then s else _
   rw [if_neg (by omega)])
  clear HD hd
  go_wp2_with fail
  exact ⟨⟨k + 1, m / 10, d :: s, by omega, by omega, by simp; omega, by congr 1, by rfl, by congr 1, HN, trivial⟩, by simp [intOf]; omega⟩
 have HS : Hid (s = D) := Hh (by
  rw [← HD.out]
  by_cases h : m = 0
  ·
   cases hk' : 20 - k with
   | zero => rfl
   | succ f => unfold digsF; rw [if_pos h]
  ·
   rw [show 20 - k = 0 by omega]; rfl)
 by_cases hk2 : k < 20
 case pos =>
  obtain rfl : m = 0 := by omega
  have c1 : (k : Int) < 20 := by omega
  go_wp2_with fail
  go_ret
  rw [hRD.out, ← HS.out]
  exact ⟨rfl, rfl⟩
 case neg =>
  have c1 : ¬ (k : Int) < 20 := by omega
  go_wp2_with fail
  go_ret
  rw [hRD.out, ← HS.out]
  exact ⟨rfl, rfl⟩
def quadI (ip : List UInt8) : Nat → List UInt8
 | 0 => []
 | i + 1 => quadI ip i ++ (if i = 0 then [] else [46]) ++ Lib.itoa (ipN ip i)
theorem quadI_4 (ip : List UInt8) : quadI ip 4 = quadA4 ip 0 := by simp [quadI, quadA4, quadT]
theorem quadI_len (ip : List UInt8) : ∀ i, (quadI ip i).length ≤ 22 * i := by
 intro i
 induction i with
 | zero => simp [quadI]
 | succ i ih =>
  have l0 := itoa_len (ipN ip i) (by omega) (by have := ipN_lt ip i; omega)
  simp only [quadI, List.length_append]
  split
  ·
   simp; omega
  ·
   simp; omega
set_option maxHeartbeats 2000000 in
theorem ref07Text_any (a : Adr) (hip : a.ip.length = 16) (w : World) : Calls prog 50 #[.agg a.cells.toArray] w (RetB (.string (bs (quadA4 a.ip 0))) w) := by
 have HW : Below w.heap.size w (w.alloc (.cells a.cells.toArray 31)) := (Below.refl _ _).alloc (Nat.le_refl _) _
 have X := Blk.new w 31 a.cells
 have LI := Hh (fun i (h : i < 16) => adr_ip (a := a) (i := i) (by omega))
 have DG := Hh (fun (n : Nat) (h : n < 256) V => rdigZ_any (n : Int) (by omega) (by omega) V)
 have IL := Hh (fun i => ipN_lt a.ip i)
 have QL := Hh (quadI_len a.ip)
 rw [← quadI_4]
 generalize a.cells = ac at *
 go_enter func50, ntmps50
 go_wp2_with fail
 obtain ⟨W, hW⟩ : ∃ W, Hid (w.alloc (.cells ac.toArray 31) = W) := ⟨_, Hh rfl⟩
 rw [hW.out] at X HW ⊢
 clear hW
 go_loopw [3, 4] (fun sv iv wr => ∃ i : Nat, i ≤ 4 ∧ iv = .int .i64 i ∧ sv = .string (bs (quadI a.ip i)) ∧ wr = W) (fun _ iv _ => 4 - (intOf iv).toNat)
 case atStart => exact ⟨0, Nat.zero_le _, rfl, rfl, rfl⟩
 obtain ⟨i, hi, rfl, rfl, hwr⟩ := hrel
 subst hwr
 by_cases hlt : i < 4
 case neg =>
  obtain rfl : i = 4 := by omega
  clear LI DG IL QL
  go_wp2_with fail
  go_ret
  exact RetB.mk rfl HW
 have hlt' : (i : Int) < 4 := by omega
 have d := X.cell_ _ (LI.out i (by omega))
 have hx := IL.out i
 have hq := QL.out i
 have hD := Hh (fun V => DG.out _ hx V)
 have HN : Hid (quadI a.ip (i + 1) = quadI a.ip i ++ (if i = 0 then [] else [46]) ++ Lib.itoa (ipN a.ip i)) := Hh rfl
 have hxl : (Lib.itoa (ipN a.ip i)).length ≤ 21 := itoa_len _ (by omega) (by omega)
 generalize Lib.itoa (ipN a.ip i) = t at *
 generalize ipN a.ip i = x at *
 generalize quadI a.ip i = q at *
 clear LI DG IL QL X
 by_cases h0 : i = 0
 case pos =>
  subst h0
  have HN2 : Hid (quadI a.ip (0 + 1) = q ++ t) := Hh (by rw [HN.out]; simp)
  clear HN
  go_wp2_with fail
  refine (hD.out _).mono ?_
  rintro _ _ ⟨rfl, rfl⟩
  go_wp2_with fail
  exact ⟨⟨1, by decide, rfl, by rw [HN2.out], trivial⟩, by simp [intOf]⟩
 have h0' : (0 : Int) < i := by omega
 have HN2 : Hid (quadI a.ip (i + 1) = q ++ [46] ++ t) := Hh (by rw [HN.out, if_neg h0])
 clear HN h0
 go_wp2_with fail
 refine (hD.out _).mono ?_
 rintro _ _ ⟨rfl, rfl⟩
 go_wp2_with fail
 exact ⟨⟨i + 1, by omega, by congr 1, by rw [HN2.out]; simp, trivial⟩, by simp [intOf]; omega⟩
theorem hexF_zero (f : Nat) (s : List UInt8) : hexF f 0 s = s := by cases f <;> simp [hexF]
set_option maxHeartbeats 2000000 in
theorem rhex_any (n : Nat) (h : n < 65536) (w : World) : Calls prog 66 #[.int .i64 n] w (Ret (.string (bs (hexN n))) w) := by
 obtain ⟨R, hR⟩ : ∃ R, Hid (hexN n = R) := ⟨_, Hh rfl⟩
 have HS : Hid (n = 0 ∧ R = [48] ∨ 0 < n ∧ hexF 4 n [] = R) := Hh (by
  rw [← hR.out]
  unfold hexN
  by_cases h0 : n = 0
  ·
   exact .inl ⟨h0, by rw [if_pos h0]⟩
  ·
   exact .inr ⟨by omega, by rw [if_neg h0]⟩)
 rw [hR.out]
 clear hR
 go_enter func66, ntmps66
 go_wp2_with fail
 go_loopw [0, 3] (fun mv sv wr => ∃ (f m : Nat) (s : List UInt8), f ≤ 4 ∧ m < 16 ^ f ∧ s.length + f ≤ 4 ∧ mv = .int .i64 m ∧ sv = .string (bs s) ∧ Hid (m = 0 ∧ s = [] ∧ R = [48] ∨ (0 < m ∨ s ≠ []) ∧ hexF f m s = R) ∧ wr = w) (fun mv _ _ => (intOf mv).toNat)
 case atStart => exact ⟨4, n, [], Nat.le_refl _, h, by simp, by first | rfl | go_num, rfl, Hh (HS.out.elim (fun x => .inl ⟨x.1, rfl, x.2⟩) (fun x => .inr ⟨.inl x.1, x.2⟩)), rfl⟩
 clear HS h
 obtain ⟨f, m, s, hf, hm, hs, rfl, rfl, HD, hwr⟩ := hrel
 subst hwr
 have hm6 : m < 65536 := Nat.lt_of_lt_of_le hm (Nat.le_trans (Nat.pow_le_pow_right (by decide) hf) (by decide))
 by_cases hc : 0 < m
 case pos =>
  have c2 : (0 : Int) < m := by omega
  obtain ⟨f, rfl⟩ : ∃ g, f = g + 1 := ⟨f - 1, by
   cases f with
   | zero => simp at hm; omega
   | succ g => rfl⟩
  obtain ⟨d, hd⟩ : ∃ d, Hid (hexD (m % 16) = d) := ⟨_, Hh rfl⟩
  have he : ByteArray.extract { data := #[48, 49, 50, 51, 52, 53, 54, 55, 56, 57, 97, 98, 99, 100, 101, 102] } (m % 16) (m % 16 + 1) = bs [d] := by
   rw [← hd.out]
   have h10 : m % 16 < 16 := Nat.mod_lt _ (by decide)
   generalize m % 16 = j at *
   match j, h10 with
   | 0, _ | 1, _ | 2, _ | 3, _ | 4, _ | 5, _ | 6, _ | 7, _ | 8, _ | 9, _ | 10, _ | 11, _ | 12, _ | 13, _ | 14, _ | 15, _ => rfl
   | j + 16, h => omega
  have HN : Hid (m / 16 = 0 ∧ d :: s = [] ∧ R = [48] ∨ (0 < m / 16 ∨ d :: s ≠ []) ∧ hexF f (m / 16) (d :: s) = R) := Hh (by
   rcases HD.out with ⟨h1, _⟩ | ⟨_, h2⟩
   ·
    omega
   ·
    refine .inr ⟨.inr (by simp), ?_⟩
    rw [← h2, ← hd.out]
    show _ = if m = 0 then s else _
    rw [if_neg (by omega)])
  have hm2 : m / 16 < 16 ^ f := by rw [Nat.pow_succ] at hm; omega
  clear HD hd hm
  go_wp2_with fail
  exact ⟨⟨f, m / 16, d :: s, by omega, hm2, by simp; omega, by congr 1, by rfl, HN, trivial⟩, by simp [intOf]; omega⟩
 obtain rfl : m = 0 := by omega
 rcases HD.out with ⟨_, rfl, hR⟩ | ⟨hne, hR⟩
 ·
  clear HD hm hc
  go_wp2_with fail
  go_ret
  exact ⟨rfl, rfl⟩
 ·
  rw [hexF_zero] at hR
  subst hR
  have hsne : s ≠ [] := hne.resolve_left hc
  have q1 : (s == []) = false := by simpa using hsne
  have q2 : s.isEmpty = false := by simpa using hsne
  clear HD hm hne hc
  go_wp2_with fail
  go_ret
  exact ⟨rfl, rfl⟩
set_option maxHeartbeats 2000000 in
theorem rgroup_any (a : Adr) (hip : a.ip.length = 16) (k : Nat) (hk : k < 8) (w : World) : Calls prog 67 #[.agg a.cells.toArray, .int .i64 k] w (RetB (.int .i64 (grp a.ip k : Int)) w) := by
 have HW : Below w.heap.size w (w.alloc (.cells a.cells.toArray 31)) := (Below.refl _ _).alloc (Nat.le_refl _) _
 have X := Blk.new w 31 a.cells
 have i0 := adr_ip (a := a) (i := 2 * k) (by omega)
 have i1 := adr_ip (a := a) (i := 2 * k + 1) (by omega)
 have x0 := ipN_lt a.ip (2 * k)
 have x1 := ipN_lt a.ip (2 * k + 1)
 have HG : Hid (grp a.ip k = 256 * ipN a.ip (2 * k) + ipN a.ip (2 * k + 1)) := Hh rfl
 generalize grp a.ip k = R at *
 generalize ipN a.ip (2 * k) = x at *
 generalize ipN a.ip (2 * k + 1) = y at *
 generalize a.cells = ac at *
 go_enter func67, ntmps67
 go_wp2_with fail
 obtain ⟨W, hW⟩ : ∃ W, Hid (w.alloc (.cells ac.toArray 31) = W) := ⟨_, Hh rfl⟩
 rw [hW.out] at X HW ⊢
 clear hW
 refine wp_region_held_drew (S := fun V => Below W.heap.size W V) (by kernel_rfl) (Below.refl _ _).drew (fun hS => ?_)
 refine held_seq hS 16 [0,1,2,3,4,5,6,7,8,9,10,11,12,13,14,15] rfl (by kernel_rfl) (fun _ _ _ _ _ h => h) rfl rfl ?_
 (refine ⟨_, (.int .i64 (k : Int)), rfl, .inl ⟨rfl, fun V hV => rfl⟩, ?_⟩; simp only [Act.put, lsA, lsB, lsC])
 (refine ⟨_, (.int .i64 ((2 * k : Nat) : Int)), rfl, .inl ⟨rfl, fun V hV => (by go_simp; exact IntWalk.i64_in _ (by omega))⟩, ?_⟩; simp only [Act.put, lsA, lsB, lsC])
 (refine ⟨_, (.pointer (some ⟨w.heap.size, 1, none⟩)), rfl, .inl ⟨rfl, fun V hV => rfl⟩, ?_⟩; simp only [Act.put, lsA, lsB, lsC])
 (refine ⟨_, (.pointer (some ⟨w.heap.size, 1 + 2 * k, none⟩)), rfl, .inl ⟨rfl, fun V hV => (by go_simp; rw [if_pos (by omega), show (2 * (k : Int)).toNat = 2 * k by omega])⟩, ?_⟩; simp only [Act.put, lsA, lsB, lsC])
 (refine ⟨_, _, rfl, .inl ⟨rfl, fun V hV => (exec_ld 5 (.tmp 8) ⟨w.heap.size, 1 + 2 * k, none⟩ rfl rfl (run_load1 underlying5 rfl ((X.below hV X.lt).cell_ _ i0)))⟩, ?_⟩; simp only [Act.put, lsA, lsB, lsC])
 (refine ⟨_, (.int .i64 (x : Int)), rfl, .inl ⟨rfl, fun V hV => (by go_simp; exact IntWalk.i64_in _ (by omega))⟩, ?_⟩; simp only [Act.put, lsA, lsB, lsC])
 (refine ⟨_, (.int .i64 ((256 * x : Nat) : Int)), rfl, .inl ⟨rfl, fun V hV => (by go_simp; exact IntWalk.i64_in _ (by omega))⟩, ?_⟩; simp only [Act.put, lsA, lsB, lsC])
 (refine ⟨_, (.int .i64 (k : Int)), rfl, .inl ⟨rfl, fun V hV => rfl⟩, ?_⟩; simp only [Act.put, lsA, lsB, lsC])
 (refine ⟨_, (.int .i64 ((2 * k : Nat) : Int)), rfl, .inl ⟨rfl, fun V hV => (by go_simp; exact IntWalk.i64_in _ (by omega))⟩, ?_⟩; simp only [Act.put, lsA, lsB, lsC])
 (refine ⟨_, (.int .i64 ((2 * k + 1 : Nat) : Int)), rfl, .inl ⟨rfl, fun V hV => (by go_simp; exact IntWalk.i64_in _ (by omega))⟩, ?_⟩; simp only [Act.put, lsA, lsB, lsC])
 (refine ⟨_, (.pointer (some ⟨w.heap.size, 1, none⟩)), rfl, .inl ⟨rfl, fun V hV => rfl⟩, ?_⟩; simp only [Act.put, lsA, lsB, lsC])
 (refine ⟨_, (.pointer (some ⟨w.heap.size, 1 + (2 * k + 1), none⟩)), rfl, .inl ⟨rfl, fun V hV => (by go_simp; rw [if_pos (by omega), show (2 * (k : Int) + 1).toNat = 2 * k + 1 by omega])⟩, ?_⟩; simp only [Act.put, lsA, lsB, lsC])
 (refine ⟨_, _, rfl, .inl ⟨rfl, fun V hV => (exec_ld 5 (.tmp 16) ⟨w.heap.size, 1 + (2 * k + 1), none⟩ rfl rfl (run_load1 underlying5 rfl ((X.below hV X.lt).cell_ _ i1)))⟩, ?_⟩; simp only [Act.put, lsA, lsB, lsC])
 (refine ⟨_, (.int .i64 (y : Int)), rfl, .inl ⟨rfl, fun V hV => (by go_simp; exact IntWalk.i64_in _ (by omega))⟩, ?_⟩; simp only [Act.put, lsA, lsB, lsC])
 (refine ⟨_, (.int .i64 ((256 * x + y : Nat) : Int)), rfl, .inl ⟨rfl, fun V hV => (by go_simp; exact IntWalk.i64_in _ (by omega))⟩, ?_⟩; simp only [Act.put, lsA, lsB, lsC])
 (refine ⟨_, (.int .i64 ((256 * x + y : Nat) : Int)), rfl, .inl ⟨rfl, fun V hV => rfl⟩, ?_⟩; simp only [Act.put, lsA, lsB, lsC])
 simp only [SeqC]
 refine wpAnyH_done (by kernel_rfl) ?_ _
 have H5 := below_then HW HW.size hS
 go_wp2_with fail
 go_ret
 exact RetB.mk (by rw [HG.out]; rfl) H5
theorem runZ_le : ∀ (z : List Bool) (n : Nat), (∀ j, j < n → z[j]? = some true) → n ≤ runZ z
 | z, 0, _ => Nat.zero_le _
 | z, n + 1, h => runZ_step z n (runZ_le z n (fun j hj => h j (by omega))) (h n (by omega))
theorem runZ_get : ∀ (z : List Bool) (j : Nat), j < runZ z → z[j]? = some true
 | [], j, h => by simp [runZ] at h
 | true :: z, 0, _ => rfl
 | true :: z, j + 1, h => by
  have := runZ_get z j (by simp [runZ] at h; omega)
  simpa using this
 | false :: z, j, h => by simp [runZ] at h
theorem emptyZ_yes {ip : List UInt8} {f n : Nat} (h8 : f + n ≤ 8) (h : ∀ j, j < n → grp ip (f + j) = 0) : emptyZ (zerosG ip) f n = true := by
 unfold emptyZ
 refine decide_eq_true (runZ_le _ _ fun j hj => ?_)
 rw [List.getElem?_drop, zerosG_at ip (by omega), decide_eq_true (h j hj)]
theorem emptyZ_no {ip : List UInt8} {f n j : Nat} (h8 : f + n ≤ 8) (hj : j < n) (h : grp ip (f + j) ≠ 0) : emptyZ (zerosG ip) f n = false := by
 unfold emptyZ
 refine decide_eq_false fun hc => ?_
 have := runZ_get ((zerosG ip).drop f) j (by omega)
 rw [List.getElem?_drop, zerosG_at ip (by omega), decide_eq_false h] at this
 cases this
set_option maxHeartbeats 2000000 in
theorem rempty_any (a : Adr) (hip : a.ip.length = 16) (f n : Nat) (h8 : f + n ≤ 8) (w : World) : Calls prog 83 #[.agg a.cells.toArray, .int .i64 f, .int .i64 n] w (RetB (.bool (emptyZ (zerosG a.ip) f n)) w) := by
 have hcl := a.cells_len hip
 have HW : Below w.heap.size w (w.alloc (.cells a.cells.toArray 31)) := (Below.refl _ _).alloc (Nat.le_refl _) _
 have X := Blk.new w 31 a.cells
 have GA := Hh (fun k hk V => rgroup_any a hip k hk V)
 have EY := Hh (fun h => emptyZ_yes (ip := a.ip) h8 h)
 have EN := Hh (fun j hj h => emptyZ_no (ip := a.ip) (j := j) h8 hj h)
 generalize emptyZ (zerosG a.ip) f n = R at *
 generalize a.cells = ac at *
 go_enter func83, ntmps83
 go_wp2_with fail
 obtain ⟨W, hW⟩ : ∃ W, Hid (w.alloc (.cells ac.toArray 31) = W) := ⟨_, Hh rfl⟩
 rw [hW.out] at X HW ⊢
 clear hW
 go_loopw [7] (fun iv wr => ∃ k : Nat, k ≤ n ∧ iv = .int .i64 ((f + k : Nat) : Int) ∧ Hid (∀ j, j < k → grp a.ip (f + j) = 0) ∧ Blk wr w.heap.size 31 ac ∧ Below w.heap.size w wr) (fun iv _ => f + n - (intOf iv).toNat)
 case atStart => exact ⟨0, Nat.zero_le _, rfl, Hh (fun j hj => absurd hj (by omega)), X, HW⟩
 clear X HW
 obtain ⟨k, hk, rfl, HZ, X, HB⟩ := hrel
 by_cases hlt : k < n
 case neg =>
  obtain rfl : k = n := by omega
  have hR := Hh (EY.out HZ.out)
  clear EY EN GA HZ
  go_wp2_with fail
  go_ret
  exact RetB.mk (by rw [hR.out]; rfl) HB
 have hlt' : ((f + k : Nat) : Int) < f + n := by omega
 have G1 := Hh (fun V => GA.out (f + k) (by omega) V)
 have EN1 := Hh (fun h => EN.out k hlt h)
 have HZ2 : Hid (grp a.ip (f + k) = 0 → ∀ j, j < k + 1 → grp a.ip (f + j) = 0) := Hh (fun h j hj => by
  by_cases q : j = k
  ·
   subst q; exact h
  ·
   exact HZ.out j (by omega))
 clear GA EN EY HZ
 generalize grp a.ip (f + k) = g at *
 go_wp2_with (refine at_op (.load 31 (.tmp 3)) rfl ?_; go_must (refine wpList_ldB rfl _ _ rfl w.heap.size 0 rfl X 18 (by omega) _ underlying31 rfl adrInfo ac (tk0 (by omega)) ?_))
 refine (G1.out _).mono ?_
 rintro _ w1 ⟨rfl, b1⟩
 have X1 := X.below b1 X.lt
 have H1 := below_then HB HB.size b1
 clear G1 b1 X HB
 by_cases hg : g = 0
 case neg =>
  have hR := Hh (EN1.out hg)
  have hg' : ((g : Int) != 0) = true := by simp; omega
  clear EN1 HZ2 hg
  go_wp2_with fail
  go_ret
  exact RetB.mk (by rw [hR.out]; rfl) H1
 have hg' : ((g : Int) != 0) = false := by simp; omega
 have HZ3 := Hh (HZ2.out hg)
 clear EN1 HZ2 hg
 go_wp2_with fail
 go_roundw
 case rel => exact ⟨k + 1, by omega, by congr 1, HZ3, X1, H1⟩
 case measure => simp [intOf]; omega
def rowS (z : List Bool) : Nat → Nat → Nat → Nat × Nat
 | 0, _, _ => (8, 0)
 | k + 1, n, f => if n < 2 then (8, 0) else if f + n ≤ 8 then (if emptyZ z f n = true then (f, n) else rowS z k n (f + 1)) else rowS z k (n - 1) 0
theorem rowS_R : ∀ a b c d e f g h : Bool, rowS [a, b, c, d, e, f, g, h] 100 8 0 = rowR [a, b, c, d, e, f, g, h] := by decide +kernel
theorem rowS_eq (ip : List UInt8) : rowS (zerosG ip) 100 8 0 = rowR (zerosG ip) := by rw [zerosG_eq]; exact rowS_R ..
set_option maxHeartbeats 4000000 in
theorem rrow_any (a : Adr) (hip : a.ip.length = 16) (w : World) : Calls prog 65 #[.agg a.cells.toArray] w (RetB (.tuple #[.int .i64 ((rowR (zerosG a.ip)).1 : Int), .int .i64 ((rowR (zerosG a.ip)).2 : Int)]) w) := by
 have hcl := a.cells_len hip
 have HW : Below w.heap.size w (w.alloc (.cells a.cells.toArray 31)) := (Below.refl _ _).alloc (Nat.le_refl _) _
 have X := Blk.new w 31 a.cells
 have EM := Hh (fun f n h V => rempty_any a hip f n h V)
 obtain ⟨R, hR⟩ : ∃ R, Hid (rowR (zerosG a.ip) = R) := ⟨_, Hh rfl⟩
 have HS : Hid (rowS (zerosG a.ip) 100 8 0 = R) := Hh (by rw [rowS_eq]; exact hR.out)
 rw [hR.out]
 clear hR
 generalize zerosG a.ip = z at *
 generalize a.cells = ac at *
 go_enter func65, ntmps65
 go_wp2_with fail
 obtain ⟨W, hW⟩ : ∃ W, Hid (w.alloc (.cells ac.toArray 31) = W) := ⟨_, Hh rfl⟩
 rw [hW.out] at X HW ⊢
 clear hW
 go_loopw [4] (fun nv wr => ∃ k n : Nat, n ≤ 8 ∧ 1 ≤ n ∧ 10 * n ≤ k ∧ nv = .int .i64 n ∧ Hid (rowS z k n 0 = R) ∧ Blk wr w.heap.size 31 ac ∧ Below w.heap.size w wr) (fun nv _ => (intOf nv).toNat)
 case atStart => exact ⟨100, 8, Nat.le_refl _, by decide, by decide, rfl, HS, X, HW⟩
 clear X HW HS
 obtain ⟨k, n, hn8, hn1, hk, rfl, HS, X, HB⟩ := hrel
 by_cases h2 : 2 ≤ n
 case neg =>
  obtain rfl : n = 1 := by omega
  have hR : Hid (R = (8, 0)) := Hh (by
   rw [← HS.out, show k = (k - 1) + 1 by omega]
   unfold rowS
   rw [if_pos (by decide)])
  clear HS EM
  go_wp2_with fail
  go_ret2
  rw [hR.out]
  exact RetB.mk rfl HB
 have h2' : (2 : Int) ≤ n := by omega
 go_wp2_with fail
 go_loopw [5] (fun fv wx => ∃ k f : Nat, f ≤ 9 - n ∧ 10 * n ≤ k + f ∧ fv = .int .i64 f ∧ Hid (rowS z k n f = R) ∧ Blk wx w.heap.size 31 ac ∧ Below w.heap.size w wx) (fun fv _ => 20 - (intOf fv).toNat)
 case atStart => exact ⟨k, 0, Nat.zero_le _, by omega, rfl, HS, X, HB⟩
 clear X HB HS hk
 obtain ⟨k, f, hf, hk, rfl, HS, X, HB⟩ := hrel
 obtain ⟨k, rfl⟩ : ∃ q, k = q + 1 := ⟨k - 1, by omega⟩
 have hSS := HS.out
 unfold rowS at hSS
 rw [if_neg (by omega)] at hSS
 by_cases h8 : f + n ≤ 8
 case neg =>
  have h8' : ¬ (f : Int) + n ≤ 8 := by omega
  rw [if_neg h8] at hSS
  have HS2 := Hh hSS
  clear HS hSS EM h8
  go_wp2_with fail
  go_roundw
  case rel => exact ⟨k, n - 1, by omega, by omega, by omega, by congr 1; omega, HS2, X, HB⟩
  case measure => simp [intOf]; omega
 have h8' : (f : Int) + n ≤ 8 := by omega
 rw [if_pos h8] at hSS
 have E1 := Hh (fun V => EM.out f n h8 V)
 have HSS := Hh hSS
 clear EM HS hSS
 generalize emptyZ z f n = b at *
 go_wp2_with (refine at_op (.load 31 (.tmp 1)) rfl ?_; go_must (refine wpList_ldB rfl _ _ rfl w.heap.size 0 rfl X 18 (by omega) _ underlying31 rfl adrInfo ac (tk0 (by omega)) ?_))
 refine (E1.out _).mono ?_
 rintro _ w1 ⟨rfl, b1⟩
 have X1 := X.below b1 X.lt
 have H1 := below_then HB HB.size b1
 clear E1 b1 X HB
 cases b with
 | true =>
  have hR := Hh (show (f, n) = R by have := HSS.out; rwa [if_pos rfl] at this)
  clear HSS
  go_wp2_with fail
  go_ret2
  rw [← hR.out]
  exact RetB.mk rfl H1
 | false =>
  have HS2 := Hh (show rowS z k n (f + 1) = R by have := HSS.out; rwa [if_neg (by decide)] at this)
  clear HSS
  go_wp2_with fail
  go_roundw
  case rel => exact ⟨k, f + 1, by omega, by omega, by go_num, HS2, X1, H1⟩
  case measure => simp [intOf]; omega
set_option maxHeartbeats 2000000 in
theorem rmapped_any (a : Adr) (hip : a.ip.length = 16) (w : World) : Calls prog 68 #[.agg a.cells.toArray] w (RetB (.bool (mapG a.ip)) w) := by
 have hcl := a.cells_len hip
 have HW : Below w.heap.size w (w.alloc (.cells a.cells.toArray 31)) := (Below.refl _ _).alloc (Nat.le_refl _) _
 have X := Blk.new w 31 a.cells
 have E5 := Hh (fun V => rempty_any a hip 0 5 (by decide) V)
 have G5 := Hh (fun V => rgroup_any a hip 5 (by decide) V)
 have HM : Hid (mapG a.ip = (emptyZ (zerosG a.ip) 0 5 && decide (grp a.ip 5 = 65535))) := Hh rfl
 obtain ⟨R, hR⟩ : ∃ R, Hid (mapG a.ip = R) := ⟨_, Hh rfl⟩
 rw [hR.out] at HM ⊢
 clear hR
 generalize emptyZ (zerosG a.ip) 0 5 = b at *
 generalize grp a.ip 5 = g at *
 generalize a.cells = ac at *
 go_enter func68, ntmps68
 go_wp2_with (refine at_op (.load 31 (.tmp 1)) rfl ?_; go_must (refine wpList_ldB rfl _ _ rfl w.heap.size 0 rfl X 18 (by omega) _ underlying31 rfl adrInfo ac (tk0 (by omega)) ?_))
 refine (E5.out _).mono ?_
 rintro _ w1 ⟨rfl, b1⟩
 have X1 := X.below b1 X.lt
 have H1 := below_then HW HW.size b1
 clear E5 b1 X HW
 cases b with
 | false =>
  have hR := Hh (show R = false from HM.out)
  clear HM
  go_wp2_with fail
  go_ret
  exact RetB.mk (by rw [hR.out]; rfl) H1
 | true =>
 go_wp2_with (refine at_op (.load 31 (.tmp 1)) rfl ?_; go_must (refine wpList_ldG 31 (.tmp 1) rfl (by go_simp) w.heap.size 0 rfl X1 18 (by omega) _ underlying31 rfl adrInfo ac (tk0 (by omega)) ?_))
 refine (G5.out _).mono ?_
 rintro _ w2 ⟨rfl, b2⟩
 have H2 := below_then H1 H1.size b2
 clear G5 b2 X1 H1
 by_cases hg : g = 65535
 case pos =>
  have hR := Hh (show R = true by rw [HM.out, decide_eq_true hg]; rfl)
  subst hg
  clear HM
  go_wp2_with fail
  go_ret
  exact RetB.mk (by rw [hR.out]; rfl) H2
 have hg' : ((g : Int) == 65535) = false := by simp; omega
 have hR := Hh (show R = false by rw [HM.out, decide_eq_false hg]; rfl)
 clear hg HM
 go_wp2_with fail
 go_ret
 exact RetB.mk (by rw [hR.out]; rfl) H2
theorem u8w (a : UInt8) : IntKind.u8.wrap (a.toNat : Int) = a.toNat := by
 have := a.toNat_lt
 rw [IntKind.wrap_u8]; omega
theorem rof_any (a b c d : UInt8) (w : World) : Calls prog 15 #[.int .i64 (a.toNat : Int), .int .i64 (b.toNat : Int), .int .i64 (c.toNat : Int), .int .i64 (d.toNat : Int)] w (RetB (.agg (quadA a b c d).cells.toArray) w) := by
 have wa := u8w a
 have wb := u8w b
 have wc := u8w c
 have wd := u8w d
 have B2 := Blk.new w 31 Adr.zero.cells
 have CB : Below w.heap.size w (w.alloc (.cells Adr.zero.cells.toArray 31)) := (Below.refl _ _).alloc (Nat.le_refl _) _
 go_enter func15, ntmps15
 go_wp2_with (refine at_op (.store 31 (.tmp 8) (.tmp 18)) rfl ?_; go_must (refine wpList_stB rfl _ _ _ rfl w.heap.size 0 rfl (quadA a b c d).cells rfl B2 (Nat.le_refl 18) adrInfo (Adr.cells_one _) ?_))
 intro w3 B3 g3 _
 replace B3 : Blk w3 w.heap.size 31 (quadA a b c d).cells := B3
 have HB3 := below_grown CB g3 CB.size (Nat.le_refl _)
 clear g3 CB B2
 go_wp2_with fail
 refine ret_cell rfl w.heap.size rfl B3 _ underlying31 rfl adrInfo rfl ?_
 exact RetB.mk rfl HB3
theorem phaseT_len {hs : List (List UInt8)} (h4 : ∀ l ∈ hs, l.length ≤ 4) (h8 : hs.length = 8) (f n i : Nat) : (phaseT hs f n i).length ≤ 100 := by
 have k : ∀ m, (joinC 58 (hs.take m)).length ≤ 40 := fun m => by
  have := hexs_len (hs.take m) (fun l hl => h4 l (List.mem_of_mem_take hl))
  have h := List.length_take_le m hs
  rw [List.length_take] at this
  omega
 have k2 : ∀ m q, (joinC 58 ((hs.drop q).take m)).length ≤ 40 := fun m q => by
  have := hexs_len ((hs.drop q).take m) (fun l hl => h4 l (List.mem_of_mem_drop (List.mem_of_mem_take hl)))
  rw [List.length_take, List.length_drop] at this
  omega
 unfold phaseT
 have a1 := k i
 have a2 := k f
 have a3 := k2 (i - (f + n)) (f + n)
 split
 ·
  omega
 ·
  split
  ·
   simp only [List.length_append, List.length_cons, List.length_nil]; omega
  ·
   simp only [List.length_append, List.length_cons, List.length_nil]; omega
theorem phaseT_0 (hs : List (List UInt8)) (f n : Nat) : phaseT hs f n 0 = [] := by
 unfold phaseT
 rw [if_pos (Nat.zero_le f)]
 rfl
theorem hexG_at (ip : List UInt8) {i : Nat} (h : i < 8) : (hexG ip)[i]? = some (hexN (grp ip i)) := by simp [hexG, h]
theorem rowR_ok (ip : List UInt8) : (rowR (zerosG ip)).1 = 8 ∧ (rowR (zerosG ip)).2 = 0 ∨ (rowR (zerosG ip)).1 + (rowR (zerosG ip)).2 ≤ 8 ∧ 2 ≤ (rowR (zerosG ip)).2 := by
 rw [rowR_zeros]
 split
 ·
  exact .inl ⟨rfl, rfl⟩
 ·
  have := rowP_zeros ip
  exact .inr ⟨this, by omega⟩
set_option maxHeartbeats 8000000 in
theorem ref08Text_any (a : Adr) (hip : a.ip.length = 16) (hz : a.zone ≤ 9223372036854775807) (w : World) : Calls prog 51 #[.agg a.cells.toArray] w (RetB (.string (bs (colonT a))) w) := by
 have hcl := a.cells_len hip
 have X := Blk.new w 31 a.cells
 have HB : Below w.heap.size w (w.alloc (.cells a.cells.toArray 31)) := (Below.refl _ _).alloc (Nat.le_refl _) _
 have RW := Hh (fun V => rrow_any a hip V)
 have GA := Hh (fun i h V => rgroup_any a hip i h V)
 have MA := Hh (fun V => rmapped_any a hip V)
 have hok := rowR_ok a.ip
 have h4 : ∀ l ∈ hexG a.ip, l.length ≤ 4 := fun l hl => by obtain ⟨i, _, rfl⟩ := List.mem_map.1 hl; exact hexN_len _
 have hl8 := hexG_len a.ip
 have HT : Hid (colonT a = (if mapG a.ip = true then [58, 58, 102, 102, 102, 102, 58] ++ quadA4 a.ip 12 else phaseT (hexG a.ip) (rowR (zerosG a.ip)).1 (rowR (zerosG a.ip)).2 8) ++ (if 0 < a.zone then 37 :: Lib.itoa a.zone else [])) := Hh rfl
 obtain ⟨R, hR⟩ : ∃ R, Hid (colonT a = R) := ⟨_, Hh rfl⟩
 rw [hR.out] at HT ⊢
 have HE := Hh (fun i h => hexG_at a.ip (i := i) h)
 have GLT := Hh (fun i => grp_lt a.ip i)
 have LI := Hh (fun i (h : i < 16) => adr_ip (a := a) (i := i) (by omega))
 have L17 : a.cells[17]? = some (.int .i64 a.zone) := by
  show (octs a.ip ++ [Value.int .i64 a.zone])[16]? = _
  rw [List.getElem?_append_right (by rw [octs_length]; omega), octs_length, hip]
  rfl
 have HL17 := Hh L17
 have DG := Hh (fun V (h : 0 < a.zone) => rdigZ_any a.zone (by omega) hz V)
 have hil := Hh (fun (h : 0 < a.zone) => itoa_len a.zone (by omega) hz)
 have hq4 : (quadA4 a.ip 12).length ≤ 100 := by
  have l0 := itoa_len (ipN a.ip 12) (by omega) (by have := ipN_lt a.ip 12; omega)
  have l1 := itoa_len (ipN a.ip 13) (by omega) (by have := ipN_lt a.ip 13; omega)
  have l2 := itoa_len (ipN a.ip 14) (by omega) (by have := ipN_lt a.ip 14; omega)
  have l3 := itoa_len (ipN a.ip 15) (by omega) (by have := ipN_lt a.ip 15; omega)
  show (quadT (ipN a.ip 12) (ipN a.ip 13) (ipN a.ip 14) (ipN a.ip 15)).length ≤ 100
  unfold quadT
  simp only [List.length_append, List.length_cons]
  omega
 have RO := Hh (fun V => rof_any (a.ip.getD 12 0) (a.ip.getD 13 0) (a.ip.getD 14 0) (a.ip.getD 15 0) V)
 have QT : Hid (∀ V, Calls prog 50 #[.agg (quadA (a.ip.getD 12 0) (a.ip.getD 13 0) (a.ip.getD 14 0) (a.ip.getD 15 0)).cells.toArray] V (RetB (.string (bs (quadA4 a.ip 12))) V)) := Hh (fun V => ref07Text_any (quadA (a.ip.getD 12 0) (a.ip.getD 13 0) (a.ip.getD 14 0) (a.ip.getD 15 0)) rfl V)
 generalize quadA4 a.ip 12 = q4 at *
 generalize (quadA (a.ip.getD 12 0) (a.ip.getD 13 0) (a.ip.getD 14 0) (a.ip.getD 15 0)).cells = qc at *
 generalize Lib.itoa a.zone = zt at *
 generalize a.zone = z at *
 generalize mapG a.ip = mp at *
 generalize hexG a.ip = hs at *
 generalize a.cells = ac at *
 obtain ⟨f, hf⟩ : ∃ f, Hid ((rowR (zerosG a.ip)).1 = f) := ⟨_, Hh rfl⟩
 obtain ⟨n, hn⟩ : ∃ n, Hid ((rowR (zerosG a.ip)).2 = n) := ⟨_, Hh rfl⟩
 rw [hf.out, hn.out] at HT RW hok
 have PL := Hh (fun i => phaseT_len h4 hl8 f n i)
 clear hR hf hn L17 h4
 go_enter func51, ntmps51
 go_wp2_with (refine at_op (.load 31 (.tmp 1)) rfl ?_; go_must (refine wpList_ldB rfl _ _ rfl w.heap.size 0 rfl X 18 (by omega) _ underlying31 rfl adrInfo ac (tk0 (by omega)) ?_))
 refine (RW.out _).mono ?_
 rintro _ w1 ⟨rfl, b1⟩
 have X1 := X.below b1 X.lt
 have HB1 := below_then HB HB.size b1
 clear RW b1 X HB
 go_wp2_with fail
 go_loopw [3, 6] (fun sv iv wr => ∃ i : Nat, i ≤ 8 ∧ iv = .int .i64 i ∧ sv = .string (bs (phaseT hs f n i)) ∧ Blk wr w.heap.size 31 ac ∧ Below w.heap.size w wr) (fun _ iv _ => 8 - (intOf iv).toNat)
 case atStart => exact ⟨0, Nat.zero_le _, rfl, by rw [phaseT_0]; rfl, X1, HB1⟩
 clear X1 HB1
 obtain ⟨i, hi, rfl, rfl, X, HB⟩ := hrel
 have hp := PL.out i
 by_cases hlt : i < 8
 case pos =>
  have hlt' : (i : Int) < 8 := by omega
  by_cases hin : f ≤ i ∧ i < f + n
  case pos =>
   have g1 : (f : Int) ≤ i := by omega
   have g2 : (i : Int) < f + n := by omega
   clear GA MA DG RO QT LI HE GLT
   by_cases he : i = f
   case pos =>
    have HN := Hh (phaseT_at (hs := hs) (f := f) (n := n) (by omega))
    rw [← he] at HN
    have he' : ((i : Int) == (f : Int)) = true := by simp; omega
    have HN2 : Hid (phaseT hs f n (i + 1) = phaseT hs f n i ++ [58, 58]) := Hh (by
     subst he; exact HN.out)
    clear HN he
    generalize phaseT hs f n i = P at *
    go_wp2_with fail
    go_roundw
    case rel => exact ⟨i + 1, by omega, by go_num, by rw [HN2.out], X, HB⟩
    case measure => simp [intOf]; omega
   have he' : ((i : Int) == (f : Int)) = false := by simp; omega
   have HN := Hh (phaseT_in (hs := hs) (f := f) (n := n) (i := i) (by omega) (by omega))
   clear he
   go_wp2_with fail
   go_roundw
   case rel => exact ⟨i + 1, by omega, by go_num, by rw [HN.out], X, HB⟩
   case measure => simp [intOf]; omega
  have GR := Hh (fun V => GA.out i hlt V)
  have HX := Hh (fun V => rhex_any (grp a.ip i) (GLT.out i) V)
  have hxl := hexN_len (grp a.ip i)
  have hil8 : i < hs.length := by omega
  have HEi : Hid (hs[i] = hexN (grp a.ip i)) := Hh (by have h := HE.out i hlt; rw [List.getElem?_eq_getElem hil8] at h; exact Option.some.inj h)
  have gi : ¬ ((f : Int) ≤ i) ∨ ((f : Int) ≤ i ∧ ¬ (i : Int) < f + n) := by
   by_cases c : (f : Int) ≤ i
   ·
    exact .inr ⟨c, fun c2 => hin ⟨by omega, by omega⟩⟩
   ·
    exact .inl c
  clear GA MA DG RO QT LI HE GLT
  by_cases h0 : i = 0
  case pos =>
   have HN : Hid (phaseT hs f n (i + 1) = phaseT hs f n i ++ hexN (grp a.ip i)) := Hh (by
    rw [← HEi.out]
    subst h0
    exact phaseT_first hil8 (by omega))
   have gi' : ¬ ((f : Int) ≤ i) := by
    rcases gi with c | ⟨c1, c2⟩
    ·
     exact c
    ·
     exfalso; omega
   have h0' : ¬ (0 : Int) < i := by omega
   clear HEi gi hin hil8 h0
   generalize hexN (grp a.ip i) = t at *
   generalize grp a.ip i = g at *
   generalize phaseT hs f n i = P at *
   go_wp2_with (refine at_op (.load 31 (.tmp 1)) rfl ?_; go_must (refine wpList_ldB rfl _ _ rfl w.heap.size 0 rfl X 18 (by omega) _ underlying31 rfl adrInfo ac (tk0 (by omega)) ?_))
   refine (GR.out _).mono ?_
   rintro _ w2 ⟨rfl, b2⟩
   have X2 := X.below b2 X.lt
   have H2 := below_then HB HB.size b2
   clear GR b2 X HB
   go_wp2_with fail
   refine (HX.out _).mono ?_
   rintro _ _ ⟨rfl, rfl⟩
   clear HX
   go_wp2_with fail
   go_roundw
   case rel => exact ⟨i + 1, by omega, by go_num, by rw [HN.out]; try simp, X2, H2⟩
   case measure => simp [intOf]; omega
  have h0' : (0 : Int) < i := by omega
  by_cases he : i = f + n
  case pos =>
   have HN : Hid (phaseT hs f n (i + 1) = phaseT hs f n i ++ hexN (grp a.ip i)) := Hh (by
    rw [← HEi.out]
    subst he
    exact phaseT_end hil8 (by omega))
   have he' : ((i : Int) != (f : Int) + (n : Int)) = false := by simp; omega
   have gi' : (f : Int) ≤ i ∧ ¬ (i : Int) < f + n := by omega
   obtain ⟨gi1, gi2⟩ := gi'
   clear HEi gi hin hil8 he h0
   generalize hexN (grp a.ip i) = t at *
   generalize grp a.ip i = g at *
   generalize phaseT hs f n i = P at *
   go_wp2_with (refine at_op (.load 31 (.tmp 1)) rfl ?_; go_must (refine wpList_ldB rfl _ _ rfl w.heap.size 0 rfl X 18 (by omega) _ underlying31 rfl adrInfo ac (tk0 (by omega)) ?_))
   refine (GR.out _).mono ?_
   rintro _ w2 ⟨rfl, b2⟩
   have X2 := X.below b2 X.lt
   have H2 := below_then HB HB.size b2
   clear GR b2 X HB
   go_wp2_with fail
   refine (HX.out _).mono ?_
   rintro _ _ ⟨rfl, rfl⟩
   clear HX
   go_wp2_with fail
   go_roundw
   case rel => exact ⟨i + 1, by omega, by go_num, by rw [HN.out]; try simp, X2, H2⟩
   case measure => simp [intOf]; omega
  have HN : Hid (phaseT hs f n (i + 1) = phaseT hs f n i ++ [58] ++ hexN (grp a.ip i)) := Hh (by
   rw [← HEi.out]
   exact phaseT_next hil8 (by omega) hin he)
  have he' : ((i : Int) != (f : Int) + (n : Int)) = true := by simp; omega
  clear HEi hin hil8 he h0
  generalize hexN (grp a.ip i) = t at *
  generalize grp a.ip i = g at *
  generalize phaseT hs f n i = P at *
  rcases gi with gi1 | ⟨gi1, gi2⟩
  ·
   go_wp2_with (refine at_op (.load 31 (.tmp 1)) rfl ?_; go_must (refine wpList_ldB rfl _ _ rfl w.heap.size 0 rfl X 18 (by omega) _ underlying31 rfl adrInfo ac (tk0 (by omega)) ?_))
   refine (GR.out _).mono ?_
   rintro _ w2 ⟨rfl, b2⟩
   have X2 := X.below b2 X.lt
   have H2 := below_then HB HB.size b2
   clear GR b2 X HB
   go_wp2_with fail
   refine (HX.out _).mono ?_
   rintro _ _ ⟨rfl, rfl⟩
   clear HX
   go_wp2_with fail
   go_roundw
   case rel => exact ⟨i + 1, by omega, by go_num, by rw [HN.out]; try simp, X2, H2⟩
   case measure => simp [intOf]; omega
  ·
   go_wp2_with (refine at_op (.load 31 (.tmp 1)) rfl ?_; go_must (refine wpList_ldB rfl _ _ rfl w.heap.size 0 rfl X 18 (by omega) _ underlying31 rfl adrInfo ac (tk0 (by omega)) ?_))
   refine (GR.out _).mono ?_
   rintro _ w2 ⟨rfl, b2⟩
   have X2 := X.below b2 X.lt
   have H2 := below_then HB HB.size b2
   clear GR b2 X HB
   go_wp2_with fail
   refine (HX.out _).mono ?_
   rintro _ _ ⟨rfl, rfl⟩
   clear HX
   go_wp2_with fail
   go_roundw
   case rel => exact ⟨i + 1, by omega, by go_num, by rw [HN.out]; try simp, X2, H2⟩
   case measure => simp [intOf]; omega
 obtain rfl : i = 8 := by omega
 have hlt' : ¬ (8 : Int) < 8 := by decide
 clear GA PL HE GLT hok hlt hi
 generalize phaseT hs f n 8 = P at *
 go_wp2_with (refine at_op (.load 31 (.tmp 1)) rfl ?_; go_must (refine wpList_ldB rfl _ _ rfl w.heap.size 0 rfl X 18 (by omega) _ underlying31 rfl adrInfo ac (tk0 (by omega)) ?_))
 refine (MA.out _).mono ?_
 rintro _ w1 ⟨rfl, b1⟩
 have X1 := X.below b1 X.lt
 have HB1 := below_then HB HB.size b1
 clear MA b1 X HB
 go_upto_if 49 with fail
 go_cut [3] (fun v wx => ∃ t : List UInt8, v = .string (bs t) ∧ t.length ≤ 120 ∧ R = t ++ (if 0 < z then 37 :: zt else []) ∧ Blk wx w.heap.size 31 ac ∧ Below w.heap.size w wx)
 case first =>
  cases mp
  case false =>
   have hR := HT.out
   rw [if_neg (by decide)] at hR
   clear HT RO QT LI HL17 DG hil
   go_wp2_with fail
   go_meet
   case rel => exact ⟨P, rfl, by omega, hR, X1, HB1⟩
  have hR : Hid (R = [58, 58, 102, 102, 102, 102, 58] ++ q4 ++ (if 0 < z then 37 :: zt else [])) := Hh HT.out
  have l12 := X1.cell_ 13 (LI.out 12 (by omega))
  have l13 := X1.cell_ 14 (LI.out 13 (by omega))
  have l14 := X1.cell_ 15 (LI.out 14 (by omega))
  have l15 := X1.cell_ 16 (LI.out 15 (by omega))
  have i12 := ipN_lt a.ip 12
  have i13 := ipN_lt a.ip 13
  have i14 := ipN_lt a.ip 14
  have i15 := ipN_lt a.ip 15
  clear HT LI HL17 DG hil
  go_wp2_with fail
  refine (RO.out _).mono ?_
  rintro _ w2 ⟨rfl, b2⟩
  have X2 := X1.below b2 X1.lt
  have HB2 := below_then HB1 HB1.size b2
  clear RO b2 X1 HB1 l12 l13 l14 l15
  go_wp2_with fail
  refine (QT.out _).mono ?_
  rintro _ w3 ⟨rfl, b3⟩
  have X3 := X2.below b3 X2.lt
  have HB3 := below_then HB2 HB2.size b3
  clear QT b3 X2 HB2
  go_wp2_with fail
  go_meet
  case rel => exact ⟨[58, 58, 102, 102, 102, 102, 58] ++ q4, by simp [bs], by simp only [List.length_append, List.length_cons, List.length_nil]; omega, hR.out, X3, HB3⟩
 obtain ⟨t, rfl, htl, hR, X, HB⟩ := hcut
 have d17 := X.cell_ 17 HL17.out
 clear HT RO QT X1 HB1 HL17 LI hq4 hp
 by_cases hzp : 0 < z
 case neg =>
  rw [if_neg hzp, List.append_nil] at hR
  subst hR
  clear DG hil
  go_wp2_with fail
  go_ret
  exact RetB.mk rfl HB
 rw [if_pos hzp] at hR
 have HR := Hh hR
 have DG1 := Hh (fun V => DG.out V hzp)
 have hil1 := hil.out hzp
 clear DG hil hR
 go_wp2_with fail
 refine (DG1.out _).mono ?_
 rintro _ _ ⟨rfl, rfl⟩
 clear DG1 X d17
 go_wp2_with fail
 go_ret
 exact RetB.mk (by rw [HR.out]; simp [bs]) HB
end Go.Proofs.YtkcbffldncmbcaaGreatDoor

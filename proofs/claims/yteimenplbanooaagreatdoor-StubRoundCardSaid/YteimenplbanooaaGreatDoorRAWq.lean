/-
  Go's strconv.FormatInt at base 16, of numbers of at most four digits.
-/
import Derived.Test.YteimenplbanooaaGreatDoorRAVq
import Derived.Laws.BitsLemmas
import Derived.Laws.Bits64b
import Derived.Deep.CutBlock
namespace Go.Proofs.YteimenplbanooaaGreatDoor
open _root_.Go.Proofs.Tryz
open Go.RowKit
set_option maxRecDepth 100000
set_option linter.unusedVariables false
set_option linter.unusedSimpArgs false
theorem tz64_16 (w : World) (hT : Tb w) : Calls prog 315 #[.int .u64 16] w (Ret (.int .i64 4) w) := by
 have d := hT.tz
 have e1 : IntKind.u64.wrap (-16) = 18446744073709551600 := by kernel_rfl
 have e2 : bits BinOp.and IntKind.u64 16 18446744073709551600 = 16 := by kernel_rfl
 have e3 : IntKind.u64.wrap 4573923408821661840 = 4573923408821661840 := by kernel_rfl
 go_enter func315, ntmps315
 go_wp2_with fail
 go_ret
 exact ⟨rfl, rfl⟩
theorem tz_16 (w : World) (hT : Tb w) : Calls prog 293 #[.int .u64 16] w (Ret (.int .i64 4) w) := by
 have T := Hh (tz64_16 w hT)
 go_enter func293, ntmps293
 go_wp2_with fail
 refine T.out.mono ?_
 rintro _ _ ⟨rfl, rfl⟩
 go_wp2_with fail
 go_ret
 exact ⟨rfl, rfl⟩
theorem pow2_16 (w : World) : Calls prog 292 #[.int .i64 16] w (Ret (.bool true) w) := by
 go_enter func292, ntmps292
 go_wp2_with fail
 go_ret
 exact ⟨rfl, rfl⟩
theorem set_rep (m : Nat) (z v : Value) (L : List Value) : (List.replicate (m + 1) z ++ L).set m v = List.replicate m z ++ v :: L := by
 rw [List.replicate_succ', List.append_assoc, List.set_append_right _ _ (by simp)]
 simp
theorem dig36 (j : Nat) (h : j < 16) (h2 : j < (⟨#[48, 49, 50, 51, 52, 53, 54, 55, 56, 57, 97, 98, 99, 100, 101, 102, 103, 104, 105, 106, 107, 108, 109, 110, 111, 112, 113, 114, 115, 116, 117, 118, 119, 120, 121, 122]⟩ : ByteArray).size) : (⟨#[48, 49, 50, 51, 52, 53, 54, 55, 56, 57, 97, 98, 99, 100, 101, 102, 103, 104, 105, 106, 107, 108, 109, 110, 111, 112, 113, 114, 115, 116, 117, 118, 119, 120, 121, 122]⟩ : ByteArray)[j] = hexD j := by
 match j, h, h2 with
 | 0, _, _ | 1, _, _ | 2, _, _ | 3, _, _ | 4, _, _ | 5, _, _ | 6, _, _ | 7, _, _ | 8, _, _ | 9, _, _ | 10, _, _ | 11, _, _ | 12, _, _ | 13, _, _ | 14, _, _ | 15, _, _ => rfl
 | j + 16, h, _ => omega
theorem u8Info1 : (prog.info? 5).map (·.size) = some 1 := by kernel_rfl
theorem and15 (u : Nat) (h : u < 65536) : bits .and .u64 (u : Int) 15 = ((u % 16 : Nat) : Int) := by
 rw [show (15 : Int) = ((15 : Nat) : Int) from rfl, bits_and_u64_nat u 15 (by omega) (by decide)]
 congr 1
 exact Nat.and_two_pow_sub_one_eq_mod u 4
def zB : Value := .int .u8 0
set_option maxHeartbeats 4000000 in
theorem fbits_any (n : Nat) (h : n < 65536) (w : World) (hT : Tb w) : Calls prog 263 #[.slice none 0 0, .int .u64 n, .int .i64 16, .bool false, .bool false] w (RetB (.tuple #[.slice none 0 0, .string (bs (hexN n))]) w) := by
 obtain ⟨R, hR⟩ : ∃ R, Hid (hexN n = R) := ⟨_, Hh rfl⟩
 rw [hR.out]
 have P2 := Hh (fun V => pow2_16 V)
 have TZ := Hh (fun V hV => tz_16 V (hT.below hV))
 obtain ⟨Z, hZ⟩ : ∃ Z, Hid (List.replicate 65 zB = Z) := ⟨_, Hh rfl⟩
 have HA : Below w.heap.size w (w.alloc (.cells Z.toArray 397)) := (Below.refl _ _).alloc (Nat.le_refl _) _
 have B0 := Blk.new w 397 Z
 have hz : Hid (Tryz.zeroCells397 = Z.toArray) := Hh (by rw [← hZ.out]; kernel_rfl)
 have HS : Hid (n = 0 ∧ R = [48] ∨ 0 < n ∧ hexF (4 - 0) n [] = R) := Hh (by
  rw [← hR.out]
  unfold hexN
  by_cases h0 : n = 0
  ·
   exact .inl ⟨h0, by rw [if_pos h0]⟩
  ·
   exact .inr ⟨by omega, by rw [if_neg h0]⟩)
 clear hT hR
 go_enter func263, ntmps263
 go_wp2_with fail
 rw [hz.out]
 refine (P2.out _).mono ?_
 rintro _ _ ⟨rfl, rfl⟩
 go_wp2_with fail
 refine (TZ.out _ HA).mono ?_
 rintro _ _ ⟨rfl, rfl⟩
 obtain ⟨W, hW⟩ : ∃ W, Hid (w.alloc (.cells Z.toArray 397) = W) := ⟨_, Hh rfl⟩
 rw [hW.out] at B0 HA ⊢
 rw [← hZ.out] at B0
 clear TZ P2 hW hz
 go_wp2_with fail
 go_loopw [1, 13] (fun uv iv wr => ∃ (k u : Nat) (ds : List UInt8), k ≤ 3 ∧ ds.length = k ∧ u < 16 ^ (4 - k) ∧ uv = .int .u64 u ∧ iv = .int .i64 (65 - k : Int) ∧ Hid (u = 0 ∧ k = 0 ∧ R = [48] ∨ 0 < u ∧ hexF (4 - k) u ds = R) ∧ Blk wr w.heap.size 397 (List.replicate (65 - k) zB ++ octs ds) ∧ Below w.heap.size w wr) (fun uv _ _ => (intOf uv).toNat)
 case atStart => exact ⟨0, n, [], by omega, rfl, by simpa using h, by first | rfl | go_num, by first | rfl | go_num, Hh (HS.out.elim (fun x => .inl ⟨x.1, rfl, x.2⟩) .inr), by simpa [octs] using B0, HA⟩
 clear HS B0 HA
 obtain ⟨k, u, ds, hk, hds, hu, rfl, rfl, HR, B, HB⟩ := hrel
 have hu6 : u < 65536 := Nat.lt_of_lt_of_le hu (Nat.le_trans (Nat.pow_le_pow_right (by decide) (show 4 - k ≤ 4 by omega)) (by decide))
 by_cases hlt : 16 ≤ u
 case pos =>
  have hlt' : (16 : Int) ≤ u := by omega
  have hk3 : k < 3 := by
   rcases Nat.lt_or_ge k 3 with h | h
   ·
    exact h
   ·
    obtain rfl : k = 3 := by omega
    simp at hu; omega
  have hA := and15 u hu6
  have hL : (List.replicate (65 - k) zB ++ octs ds).length = 65 := by simp [octs_length]; omega
  go_wp2_with (refine at_op (.store 5 (.tmp 54) (.tmp 53)) rfl ?_; go_must (refine wpList_stC rfl 5 (.tmp 54) (.tmp 53) rfl w.heap.size (65 - k - 1) rfl (.int .u8 ((hexD (u % 16)).toNat : Int)) (by show Value.int .u8 ((_ : UInt8).toNat : Int) = _; rw [dig36 _ (Nat.mod_lt _ (by decide))]) B (by rw [hL]; omega) u8Info1 rfl rfl ?_))
  intro w2 B2 g2 sw
  clear sw
  have B3 : Blk w2 w.heap.size 397 (List.replicate (65 - (k + 1)) zB ++ octs (hexD (u % 16) :: ds)) := by
   obtain ⟨m, hm⟩ : ∃ m, 65 - k = m + 1 := ⟨64 - k, by omega⟩
   rw [hm, show m + 1 - 1 = m from rfl, set_rep] at B2
   rw [show 65 - (k + 1) = m by omega]
   exact B2
  have HB2 := below_grown HB g2 HB.size (Nat.le_refl _)
  have HR2 : Hid (u / 16 = 0 ∧ k + 1 = 0 ∧ R = [48] ∨ 0 < u / 16 ∧ hexF (4 - (k + 1)) (u / 16) (hexD (u % 16) :: ds) = R) := Hh (by
   rcases HR.out with ⟨h0, _⟩ | ⟨_, h1⟩
   ·
    omega
   ·
    refine .inr ⟨by omega, ?_⟩
    rw [← h1, show 4 - k = (4 - (k + 1)) + 1 by omega]
    show _ = if u = 0 then _ else _
    rw [if_neg (by omega)])
  have hu2 : u / 16 < 16 ^ (4 - (k + 1)) := by
   rw [show 4 - k = (4 - (k + 1)) + 1 by omega, Nat.pow_succ] at hu
   omega
  clear B B2 g2 HB HR hA hu
  go_wp2_with fail
  exact ⟨⟨k + 1, u / 16, hexD (u % 16) :: ds, by omega, by simp [hds], hu2, by first | rfl | (congr 1; done) | go_num, by congr 1; omega, HR2, B3, HB2⟩, by simp [intOf]; omega⟩
 have hlt' : ¬ (16 : Int) ≤ u := by omega
 have hRd : Hid (R = hexD u :: ds) := Hh (by
  rcases HR.out with ⟨h0, h1, h2⟩ | ⟨h1, h2⟩
  ·
   subst h0 h1
   obtain rfl := List.length_eq_zero_iff.1 hds
   exact h2
  ·
   rw [← h2, show 4 - k = (4 - k - 1) + 1 by omega]
   show (if u = 0 then _ else _) = _
   rw [if_neg (by omega), show u / 16 = 0 by omega, Nat.mod_eq_of_lt (by omega)]
   cases 4 - k - 1 <;> simp [hexF])
 have hL : (List.replicate (65 - k) zB ++ octs ds).length = 65 := by simp [octs_length]; omega
 have hu36 : u < 36 := by omega
 clear HR
 go_wp2_with (refine at_op (.store 5 (.tmp 63) (.tmp 62)) rfl ?_; go_must (refine wpList_stC rfl 5 (.tmp 63) (.tmp 62) rfl w.heap.size (65 - k - 1) rfl (.int .u8 ((hexD u).toNat : Int)) (by show Value.int .u8 ((_ : UInt8).toNat : Int) = _; rw [dig36 _ (by omega)]) B (by rw [hL]; omega) u8Info1 rfl rfl ?_))
 intro w2 B2 g2 sw
 clear sw
 have B3 : Blk w2 w.heap.size 397 (List.replicate (65 - k - 1) zB ++ octs (hexD u :: ds)) := by
  obtain ⟨m, hm⟩ : ∃ m, 65 - k = m + 1 := ⟨64 - k, by omega⟩
  rw [hm, show m + 1 - 1 = m from rfl, set_rep] at B2
  rw [show 65 - k - 1 = m by omega]
  exact B2
 have HB2 := below_grown HB g2 HB.size (Nat.le_refl _)
 rw [← hRd.out] at B3
 have hRl : R.length = k + 1 := by rw [hRd.out]; simp [hds]
 clear B B2 g2 HB hL
 have RSL : ∀ V : World, (Instr.sliceAt 397 (.pointer (some ⟨w.heap.size, 0, none⟩)) (some (.int .i64 (65 - k - 1 : Int))) none none).run prog V = .ok (.slice (some ⟨w.heap.size, 64 - k, none⟩) (k + 1) (k + 1)) V := fun V => by
  have hal : prog.arrayLen 397 = 65 := by kernel_rfl
  rw [run_sliceAt_array_l V 397 ⟨w.heap.size, 0, none⟩ (by simp [Program.arrayLen, Program.elem, underlying397]) .i64 (65 - k - 1 : Int) (by omega) (by rw [hal]; omega)]
  have he : prog.elem 397 = 5 := by kernel_rfl
  have hsz : (sizeOf (prog.elem 397)).run prog V = .ok 1 V := by rw [he]; exact Tryz.sizeOf5 V
  rw [hsz, Result.andThen_ok, hal]
  unfold slicedAt
  rw [show (65 - (k : Int) - 1).toNat = 64 - k by omega, if_neg (by omega), Lib.add_plain, show 65 - (64 - k) = k + 1 by omega, Nat.mul_one, Nat.zero_add]
 have RCV : ∀ V : World, Below w2.heap.size w2 V → (convert 131 9 (.slice (some ⟨w.heap.size, 64 - k, none⟩) (k + 1) (k + 1))).run prog V = .ok (.string (bs R)) V := fun V hV => by
  have := run_convert_bytes_back V 131 9 5 ⟨w.heap.size, 64 - k, none⟩ (k + 1) R underlying131 underlying5 underlying9 (fun j hj => by
   rw [Lib.add_plain]
   refine (B3.below hV B3.lt).cell_ _ ?_
   rw [List.getElem?_append_right (by simp; omega), List.length_replicate, show 64 - k + j - (65 - k - 1) = j by omega]
   exact octs_get R j hj)
  rwa [hRl] at this
 have RCV0 := RCV w2 (Below.refl _ _)
 clear RCV B3
 go_wp2_with fail
 go_ret2
 exact RetB.mk rfl HB2
theorem fmtI16_any (n : Nat) (h : n < 65536) (w : World) (hT : Tb w) : Calls prog 221 #[.int .i64 n, .int .i64 16] w (RetB (.string (bs (hexN n))) w) := by
 have FB := Hh (fbits_any n h w hT)
 generalize hexN n = R at *
 have hn : ¬ (n : Int) < 0 := by omega
 clear hT
 go_enter func221, ntmps221
 go_wp2_with fail
 refine FB.out.mono ?_
 rintro _ w1 ⟨rfl, hB⟩
 clear FB
 go_wp2_with fail
 go_ret
 exact RetB.mk rfl hB
theorem fmt16_any (n : Nat) (h : n < 65536) (w : World) (hT : Tb w) : Calls prog 222 #[.int .i64 n, .int .i64 16] w (RetB (.string (bs (hexN n))) w) := by
 have FB := Hh (fmtI16_any n h w hT)
 generalize hexN n = R at *
 clear hT
 go_enter func222, ntmps222
 go_wp2_with fail
 refine FB.out.mono ?_
 rintro _ w1 ⟨rfl, hB⟩
 clear FB
 go_wp2_with fail
 go_ret
 exact RetB.mk rfl hB
def grpV (ip : List UInt8) (i : Nat) : Value := .int .i64 (grp ip i : Int)
def grpsC (ip : List UInt8) : List Value := (List.range 8).map (grpV ip)
theorem grpsC_len (ip : List UInt8) : (grpsC ip).length = 8 := by simp [grpsC]
theorem grpsC_at (ip : List UInt8) {i : Nat} (h : i < 8) : (grpsC ip)[i]? = some (grpV ip i) := by simp [grpsC, h]
theorem or_grp (x y : Nat) (hx : x < 256) (hy : y < 256) : bits .or .i64 ((x : Int) * 256) (y : Int) = ((256 * x + y : Nat) : Int) := by
 rw [bits_join .i64 32 (by decide) (fun n h0 h1 => IntWalk.i64_in _ (by omega)) 8 _ _ (by omega) (by omega) (by omega) (by omega) (by omega) (by omega)]
 omega
def zI : Value := .int .i64 0
theorem i8Info : (prog.info? 269).map (·.size) = some 8 := by kernel_rfl
set_option maxHeartbeats 4000000 in
theorem groups_any (a : Adr) (hip : a.ip.length = 16) (w : World) : Calls prog 175 #[.agg a.cells.toArray] w (RetB (.agg (grpsC a.ip).toArray) w) := by
 have LI := Hh (fun i (h : i < 16) => adr_ip (a := a) (i := i) (by omega))
 have GL : Hid (∀ i : Nat, grp a.ip i = 256 * ipN a.ip (2 * i) + ipN a.ip (2 * i + 1)) := Hh (fun i => rfl)
 have IL := Hh (fun i => ipN_lt a.ip i)
 obtain ⟨ac, hac⟩ : ∃ ac, Hid (a.cells = ac) := ⟨_, Hh rfl⟩
 rw [hac.out] at LI ⊢
 obtain ⟨Z8, hZ8⟩ : ∃ Z8 : List Value, Hid ([zI, zI, zI, zI, zI, zI, zI, zI] = Z8) := ⟨_, Hh rfl⟩
 have A0 := Blk.new w 24 ac
 have A1 := A0.alloc (.cells Z8.toArray 269)
 have A2 := A1.alloc (.cells Z8.toArray 269)
 have R1 := Blk.new' (w.alloc (.cells ac.toArray 24)) 269 Z8 (w.heap.size + 1) (by simp)
 have R2 := R1.alloc (.cells Z8.toArray 269)
 have G2 := Blk.new' ((w.alloc (.cells ac.toArray 24)).alloc (.cells Z8.toArray 269)) 269 Z8 (w.heap.size + 1 + 1) (by simp)
 have H2 : Below w.heap.size w (((w.alloc (.cells ac.toArray 24)).alloc (.cells Z8.toArray 269)).alloc (.cells Z8.toArray 269)) := (((Below.refl _ _).alloc (Nat.le_refl _) _).alloc (by simp) _).alloc (by simp; omega) _
 clear A0 A1 R1
 go_enter func175, ntmps175
 go_wp2_with fail
 obtain ⟨W, hW⟩ : ∃ W, Hid (((w.alloc (.cells ac.toArray 24)).alloc (.cells Z8.toArray 269)).alloc (.cells Z8.toArray 269) = W) := ⟨_, Hh rfl⟩
 have hZW : Hid (((w.alloc (.cells ac.toArray 24)).alloc (.cells #[.int .i64 0, .int .i64 0, .int .i64 0, .int .i64 0, .int .i64 0, .int .i64 0, .int .i64 0, .int .i64 0] 269)).alloc (.cells #[.int .i64 0, .int .i64 0, .int .i64 0, .int .i64 0, .int .i64 0, .int .i64 0, .int .i64 0, .int .i64 0] 269) = W) := Hh (by rw [← hW.out, ← hZ8.out]; rfl)
 rw [hW.out] at A2 R2 G2 H2
 rw [hZW.out]
 clear hW hZW
 go_loopw [5] (fun iv wr => ∃ k : Nat, k ≤ 8 ∧ iv = .int .i64 k ∧ Blk wr w.heap.size 24 ac ∧ Blk wr (w.heap.size + 1) 269 Z8 ∧ Blk wr (w.heap.size + 1 + 1) 269 ((grpsC a.ip).take k ++ List.replicate (8 - k) zI) ∧ Hid (Below w.heap.size w wr)) (fun iv _ => 8 - (intOf iv).toNat)
 case atStart => exact ⟨0, Nat.zero_le _, rfl, A2, R2, by rw [← hZ8.out] at G2; exact G2, Hh H2⟩
 clear A2 R2 G2 H2
 obtain ⟨k, hk, rfl, BA, BR, BG, HB⟩ := hrel
 by_cases hlt : k < 8
 case pos =>
  have hlt' : (k : Int) < 8 := by omega
  have i0 := LI.out (2 * k) (by omega)
  have i1 := LI.out (2 * k + 1) (by omega)
  have x0 := IL.out (2 * k)
  have x1 := IL.out (2 * k + 1)
  have HG := GL.out k
  have hL : ((grpsC a.ip).take k ++ List.replicate (8 - k) zI).length = 8 := by simp [grpsC_len]; omega
  have HS : Hid (∀ v, v = grpV a.ip k → ((grpsC a.ip).take k ++ List.replicate (8 - k) zI).set k v = (grpsC a.ip).take (k + 1) ++ List.replicate (8 - (k + 1)) zI) := Hh (fun v hv => by
   have hkl : k < (grpsC a.ip).length := by rw [grpsC_len]; exact hlt
   rw [List.set_append_right _ _ (by simp; omega), List.length_take, show k - min k (grpsC a.ip).length = 0 by omega, show 8 - k = (8 - (k + 1)) + 1 by omega, List.replicate_succ, List.set_cons_zero, List.take_succ_eq_append_getElem hkl, List.append_assoc]
   congr 2
   have := grpsC_at a.ip hlt
   rw [List.getElem?_eq_getElem hkl] at this
   rw [hv, Option.some.inj this]
   )
  have HO := or_grp _ _ x0 x1
  have HGV : Hid (grpV a.ip k = .int .i64 ((256 * ipN a.ip (2 * k) + ipN a.ip (2 * k + 1) : Nat) : Int)) := Hh (by unfold grpV; rw [HG])
  clear HG IL LI GL
  generalize ipN a.ip (2 * k) = x at *
  generalize ipN a.ip (2 * k + 1) = y at *
  go_upto_block 1 with fail
  go_cut [] (fun wx => Blk wx w.heap.size 24 ac ∧ Blk wx (w.heap.size + 1) 269 Z8 ∧ Blk wx (w.heap.size + 1 + 1) 269 ((grpsC a.ip).take (k + 1) ++ List.replicate (8 - (k + 1)) zI) ∧ Hid (Below w.heap.size w wx))
  case first =>
   go_wp2_with fail
   refine wp_region_held_drew (S := fun V => Blk V w.heap.size 24 ac) (by kernel_rfl) BA.drew (fun hS => ?_)
   refine held_seq hS 17 [0,1,2,3,4,5,6,7,8,9,10,11,12,13,14,15,16] rfl (by kernel_rfl) (fun _ _ _ _ _ h => h) rfl rfl ?_
   (refine ⟨_, (.int .i64 (k : Int)), rfl, .inl ⟨rfl, fun V hV => rfl⟩, ?_⟩; simp only [Act.put, lsA, lsB, lsC])
   (refine ⟨_, (.int .i64 (k : Int)), rfl, .inl ⟨rfl, fun V hV => rfl⟩, ?_⟩; simp only [Act.put, lsA, lsB, lsC])
   (refine ⟨_, (.int .i64 ((2 * k : Nat) : Int)), rfl, .inl ⟨rfl, fun V hV => (by go_simp; exact IntWalk.i64_in _ (by omega))⟩, ?_⟩; simp only [Act.put, lsA, lsB, lsC])
   (refine ⟨_, (.pointer (some ⟨w.heap.size, 1, none⟩)), rfl, .inl ⟨rfl, fun V hV => rfl⟩, ?_⟩; simp only [Act.put, lsA, lsB, lsC])
   (refine ⟨_, (.pointer (some ⟨w.heap.size, 1 + 2 * k, none⟩)), rfl, .inl ⟨rfl, fun V hV => (by go_simp; rw [if_pos (by omega), show (2 * (k : Int)).toNat = 2 * k by omega])⟩, ?_⟩; simp only [Act.put, lsA, lsB, lsC])
   (refine ⟨_, _, rfl, .inl ⟨rfl, fun V hV => (exec_ld 5 (.tmp 12) ⟨w.heap.size, 1 + 2 * k, none⟩ rfl rfl (run_load1 underlying5 rfl (hV.cell_ _ i0)))⟩, ?_⟩; simp only [Act.put, lsA, lsB, lsC])
   (refine ⟨_, (.int .i64 (x : Int)), rfl, .inl ⟨rfl, fun V hV => (by go_simp; exact IntWalk.i64_in _ (by omega))⟩, ?_⟩; simp only [Act.put, lsA, lsB, lsC])
   (refine ⟨_, (.int .i64 ((x : Int) * 256)), rfl, .inl ⟨rfl, fun V hV => (by go_simp; exact IntWalk.i64_in _ (by omega))⟩, ?_⟩; simp only [Act.put, lsA, lsB, lsC])
   (refine ⟨_, (.int .i64 (k : Int)), rfl, .inl ⟨rfl, fun V hV => rfl⟩, ?_⟩; simp only [Act.put, lsA, lsB, lsC])
   (refine ⟨_, (.int .i64 ((2 * k : Nat) : Int)), rfl, .inl ⟨rfl, fun V hV => (by go_simp; exact IntWalk.i64_in _ (by omega))⟩, ?_⟩; simp only [Act.put, lsA, lsB, lsC])
   (refine ⟨_, (.int .i64 ((2 * k + 1 : Nat) : Int)), rfl, .inl ⟨rfl, fun V hV => (by go_simp; exact IntWalk.i64_in _ (by omega))⟩, ?_⟩; simp only [Act.put, lsA, lsB, lsC])
   (refine ⟨_, (.pointer (some ⟨w.heap.size, 1, none⟩)), rfl, .inl ⟨rfl, fun V hV => rfl⟩, ?_⟩; simp only [Act.put, lsA, lsB, lsC])
   (refine ⟨_, (.pointer (some ⟨w.heap.size, 1 + (2 * k + 1), none⟩)), rfl, .inl ⟨rfl, fun V hV => (by go_simp; rw [if_pos (by omega), show (2 * (k : Int) + 1).toNat = 2 * k + 1 by omega])⟩, ?_⟩; simp only [Act.put, lsA, lsB, lsC])
   (refine ⟨_, _, rfl, .inl ⟨rfl, fun V hV => (exec_ld 5 (.tmp 20) ⟨w.heap.size, 1 + (2 * k + 1), none⟩ rfl rfl (run_load1 underlying5 rfl (hV.cell_ _ i1)))⟩, ?_⟩; simp only [Act.put, lsA, lsB, lsC])
   (refine ⟨_, (.int .i64 (y : Int)), rfl, .inl ⟨rfl, fun V hV => (by go_simp; exact IntWalk.i64_in _ (by omega))⟩, ?_⟩; simp only [Act.put, lsA, lsB, lsC])
   (refine ⟨_, (.int .i64 ((256 * x + y : Nat) : Int)), rfl, .inl ⟨rfl, fun V hV => (by go_simp)⟩, ?_⟩; simp only [Act.put, lsA, lsB, lsC])
   (refine ⟨_, (.pointer (some ⟨w.heap.size + 1 + 1, k, none⟩)), rfl, .inl ⟨rfl, fun V hV => (by go_simp)⟩, ?_⟩; simp only [Act.put, lsA, lsB, lsC])
   simp only [SeqC]
   refine ord_one 17 (by kernel_rfl) ?_
   refine opw_stC 17 3 (.tmp 24) (.tmp 23) rfl rfl rfl (by kernel_rfl) (w.heap.size + 1 + 1) k rfl (.int .i64 ((256 * x + y : Nat) : Int)) rfl BG.drew (by rw [hL]; exact hlt) intInfo1 rfl rfl ?_
   intro w2 B2 g2 sw
   clear sw
   have e2 := HS.out _ HGV.out.symm
   rw [e2] at B2
   have BA2 := BA.drew.grown g2 (by simp; omega)
   have BR2 := BR.drew.grown g2 (by simp)
   have HB2 := Hh (below_grown HB.out.drew g2 HB.out.size (by omega))
   refine ⟨BA2, ?_⟩
   simp only [Act.put, lsA, lsB, lsC]
   refine wpAnyH_done (by kernel_rfl) ?_ _
   go_wp2_with fail
   go_meet
   case rel => exact ⟨BA2, BR2, B2, HB2⟩
  obtain ⟨BA2, BR2, BG2, HB2⟩ := hcut
  obtain ⟨w2, rfl⟩ : ∃ w2, w2 = wc := ⟨_, rfl⟩
  clear BA BR BG HB HS
  go_wp2_with fail
  go_roundw
  case rel => exact ⟨k + 1, by omega, by go_num, BA2, BR2, BG2, HB2⟩
  case measure => simp [intOf]; omega
 obtain rfl : k = 8 := by omega
 have hlt' : ¬ (8 : Int) < 8 := by decide
 have hG : (grpsC a.ip).take 8 ++ List.replicate (8 - 8) zI = grpsC a.ip := by
  rw [List.take_of_length_le (by rw [grpsC_len]; exact Nat.le_refl 8)]
  exact List.append_nil _
 have hGl := grpsC_len a.ip
 have hG1 : ∀ v ∈ grpsC a.ip, v.oneCell' = true := by
  intro v hv
  obtain ⟨i, _, rfl⟩ := List.mem_map.1 hv
  rfl
 rw [hG] at BG
 clear LI GL IL hG BA
 generalize grpsC a.ip = G at *
 have hZl : Z8.length = 8 := by rw [← hZ8.out]; rfl
 go_wp2_with (first
  | (refine at_op (.load 269 (.tmp 3)) rfl ?_; go_must (refine wpList_ldB rfl _ _ rfl (w.heap.size + 1 + 1) 0 rfl BG 8 (by omega) _ underlying269 rfl i8Info G (tk0 (by omega)) ?_))
  | (refine at_op (.store 269 (.tmp 2) (.tmp 26)) rfl ?_; go_must (refine wpList_stB rfl _ _ _ rfl (w.heap.size + 1) 0 rfl G rfl BR (by omega) (by rw [hGl]; exact i8Info) hG1 ?_)))
 intro w2 B2 g2 sw
 clear sw
 have B3 : Blk w2 (w.heap.size + 1) 269 G := blkAll (M := Z8) (n := 8) (by simpa [hGl] using B2) (by omega)
 have HB2 := below_grown HB.out g2 HB.out.size (by omega)
 clear B2 g2 BG BR HB
 go_wp2_with fail
 refine ret_cell rfl (w.heap.size + 1) rfl B3 _ underlying269 rfl (by rw [hGl]; exact i8Info) rfl ?_
 exact RetB.mk rfl HB2
theorem runZ_step : ∀ (z : List Bool) (n : Nat), n ≤ runZ z → z[n]? = some true → n + 1 ≤ runZ z
 | [], n, _, h => by simp at h
 | true :: z, 0, _, _ => by simp [runZ]
 | true :: z, n + 1, h, h2 => by
  have := runZ_step z n (by simp [runZ] at h; exact h) (by simpa using h2)
  simp [runZ]; omega
 | false :: z, 0, _, h => by simp at h
 | false :: z, n + 1, h, _ => by simp [runZ] at h
theorem runZ_stop : ∀ (z : List Bool) (n : Nat), n ≤ runZ z → z[n]? ≠ some true → runZ z = n
 | [], n, h, _ => by simp [runZ] at h ⊢; omega
 | true :: z, 0, _, h => by simp at h
 | true :: z, n + 1, h, h2 => by
  have := runZ_stop z n (by simp [runZ] at h; exact h) (by simpa using h2)
  simp [runZ]; omega
 | false :: z, 0, _, _ => by simp [runZ]
 | false :: z, n + 1, h, _ => by simp [runZ] at h
theorem zerosG_at (ip : List UInt8) {i : Nat} (h : i < 8) : (zerosG ip)[i]? = some (decide (grp ip i = 0)) := by simp [zerosG, h]
theorem zerosG_len (ip : List UInt8) : (zerosG ip).length = 8 := by simp [zerosG]
theorem rowStep_le (z : List Bool) (hz : z.length = 8) : ∀ k, k ≤ 8 → ((List.range k).foldl (rowStep z) (0, 0)).1 ≤ 8 ∧ ((List.range k).foldl (rowStep z) (0, 0)).2 ≤ 8 := by
 have hr : ∀ z : List Bool, runZ z ≤ z.length := by
  intro z
  induction z with
  | nil => simp [runZ]
  | cons b z ih => cases b <;> simp [runZ]; omega
 intro k
 induction k with
 | zero => intro _; simp
 | succ k ih =>
  intro h
  rw [List.range_succ, List.foldl_append]
  simp only [List.foldl_cons, List.foldl_nil]
  have := ih (by omega)
  unfold rowStep
  split
  ·
   have := hr (z.drop k)
   rw [List.length_drop] at this
   exact ⟨by simp; omega, by simp; omega⟩
  ·
   exact this
set_option maxHeartbeats 4000000 in
theorem row_any (ip : List UInt8) (w : World) : Calls prog 176 #[.agg (grpsC ip).toArray] w (RetB (.tuple #[.int .i64 ((rowP (zerosG ip)).1 : Int), .int .i64 ((rowP (zerosG ip)).2 : Int)]) w) := by
 have GA := Hh (fun (i : Nat) (h : i < 8) => grpsC_at ip h)
 have ZA := Hh (fun (i : Nat) (h : i < 8) => zerosG_at ip h)
 have RL := Hh (rowStep_le (zerosG ip) (zerosG_len ip))
 obtain ⟨R, hR⟩ : ∃ R, Hid (rowP (zerosG ip) = R) := ⟨_, Hh rfl⟩
 rw [hR.out]
 obtain ⟨z, hz⟩ : ∃ z, Hid (zerosG ip = z) := ⟨_, Hh rfl⟩
 have HR : Hid ((List.range 8).foldl (rowStep z) (0, 0) = R) := Hh (by rw [← hz.out]; exact hR.out)
 have hzl : z.length = 8 := by rw [← hz.out]; exact zerosG_len ip
 rw [hz.out] at ZA RL
 clear hR hz
 obtain ⟨G, hG⟩ : ∃ G, Hid (grpsC ip = G) := ⟨_, Hh rfl⟩
 rw [hG.out] at GA ⊢
 have B0 := Blk.new w 269 G
 have H0 : Below w.heap.size w (w.alloc (.cells G.toArray 269)) := (Below.refl _ _).alloc (Nat.le_refl _) _
 go_enter func176, ntmps176
 go_wp2_with fail
 obtain ⟨W, hW⟩ : ∃ W, Hid (w.alloc (.cells G.toArray 269) = W) := ⟨_, Hh rfl⟩
 rw [hW.out] at B0 H0 ⊢
 clear hW
 go_loopw [4, 5, 8] (fun bv mv iv wr => ∃ k b m : Nat, k ≤ 8 ∧ bv = .int .i64 b ∧ mv = .int .i64 m ∧ iv = .int .i64 k ∧ Hid ((b, m) = (List.range k).foldl (rowStep z) (0, 0)) ∧ wr = W) (fun _ _ iv _ => 8 - (intOf iv).toNat)
 case atStart => exact ⟨0, 0, 0, Nat.zero_le _, rfl, rfl, rfl, Hh rfl, rfl⟩
 obtain ⟨k, b, m, hk, rfl, rfl, rfl, HF, hwr⟩ := hrel
 subst hwr
 have hb8 : b ≤ 8 ∧ m ≤ 8 := by have := RL.out k hk; rw [← HF.out] at this; exact this
 by_cases hlt : k < 8
 case neg =>
  obtain rfl : k = 8 := by omega
  have hE : Hid ((b, m) = R) := Hh (by rw [HF.out, HR.out])
  clear HF HR GA ZA RL
  go_wp2_with fail
  go_ret2
  rw [← hE.out]
  exact RetB.mk rfl H0
 have hlt' : (k : Int) < 8 := by omega
 have HFn : Hid ((List.range (k + 1)).foldl (rowStep z) (0, 0) = if m < runZ (z.drop k) then (k, runZ (z.drop k)) else (b, m)) := Hh (by
  rw [List.range_succ, List.foldl_append, ← HF.out]; rfl)
 go_wp2_with fail
 go_loopw [7] (fun nv wx => ∃ n : Nat, nv = .int .i64 n ∧ n ≤ runZ (z.drop k) ∧ k + n ≤ 8 ∧ wx = wr) (fun nv _ => 8 - (intOf nv).toNat)
 case atStart => exact ⟨0, rfl, Nat.zero_le _, by omega, rfl⟩
 obtain ⟨n, rfl, hn, hkn, hwx⟩ := hrel
 subst hwx
 have HFn := HFn.out
 by_cases h8 : k + n < 8
 case neg =>
  have h8' : ¬ (k : Int) + n < 8 := by omega
  have hrun : runZ (z.drop k) = n := runZ_stop _ _ hn (by
   rw [List.getElem?_drop, List.getElem?_eq_none (by omega)]
   exact fun c => by cases c)
  rw [hrun] at HFn
  by_cases hmn : m < n
  ·
   rw [if_pos hmn] at HFn
   have hmn' : (m : Int) < n := by omega
   have HF2 := Hh HFn.symm
   clear HF HFn hrun hmn
   go_wp2_with fail
   go_roundw
   case rel => exact ⟨k + 1, k, n, by omega, rfl, rfl, by go_num, HF2, trivial⟩
   case measure => simp [intOf]; omega
  ·
   rw [if_neg hmn] at HFn
   have hmn' : ¬ (m : Int) < n := by omega
   have HF2 := Hh HFn.symm
   clear HF HFn hrun hmn
   go_wp2_with fail
   go_roundw
   case rel => exact ⟨k + 1, b, m, by omega, rfl, rfl, by go_num, HF2, trivial⟩
   case measure => simp [intOf]; omega
 have h8' : (k : Int) + n < 8 := by omega
 have d := B0.cell_ (k + n) (u := .int .i64 (grp ip (k + n) : Int)) (GA.out _ h8)
 have hz1 := ZA.out _ h8
 by_cases h0 : grp ip (k + n) = 0
 case neg =>
  have hrun : runZ (z.drop k) = n := runZ_stop _ _ hn (by
   rw [List.getElem?_drop, hz1, decide_eq_false h0]
   exact fun c => by cases c)
  have h0' : ((grp ip (k + n) : Int) == 0) = false := by simp; omega
  clear h0 hz1
  rw [hrun] at HFn
  by_cases hmn : m < n
  ·
   rw [if_pos hmn] at HFn
   have hmn' : (m : Int) < n := by omega
   have HF2 := Hh HFn.symm
   clear HF HFn hrun hmn
   go_wp2_with fail
   go_roundw
   case rel => exact ⟨k + 1, k, n, by omega, rfl, rfl, by go_num, HF2, trivial⟩
   case measure => simp [intOf]; omega
  ·
   rw [if_neg hmn] at HFn
   have hmn' : ¬ (m : Int) < n := by omega
   have HF2 := Hh HFn.symm
   clear HF HFn hrun hmn
   go_wp2_with fail
   go_roundw
   case rel => exact ⟨k + 1, b, m, by omega, rfl, rfl, by go_num, HF2, trivial⟩
   case measure => simp [intOf]; omega
 have hs : n + 1 ≤ runZ (z.drop k) := runZ_step _ _ hn (by rw [List.getElem?_drop, hz1, decide_eq_true h0])
 rw [h0] at d
 clear hz1 h0 HFn HF
 go_wp2_with fail
 go_roundw
 case rel => exact ⟨n + 1, by go_num, hs, by omega, trivial⟩
 case measure => simp [intOf]; omega
def NatsR (w : World) (A : Option Addr) (ns : List Nat) : Prop := 0 < ns.length → ∃ b o, A = some ⟨b, o, none⟩ ∧ b < w.heap.size ∧ ∀ i (hi : i < ns.length), w.cell? ⟨b, o + i, none⟩ = some (.int .i64 (ns[i] : Int))
theorem hexs_len : ∀ (ls : List (List UInt8)), (∀ l ∈ ls, l.length ≤ 4) → (joinC 58 ls).length ≤ 5 * ls.length := by
 intro ls h
 cases ls with
 | nil => simp [joinC]
 | cons l ls =>
  have key : ∀ (ls : List (List UInt8)), (∀ l ∈ ls, l.length ≤ 4) → (ls.flatMap (fun x => (58 : UInt8) :: x)).length ≤ 5 * ls.length := by
   intro ls
   induction ls with
   | nil => intro _; simp
   | cons a ls ih =>
    intro h
    have h1 := h a (by simp)
    have h2 := ih (fun x hx => h x (by simp [hx]))
    simp only [List.flatMap_cons, List.length_append, List.length_cons]
    omega
  have h1 := h l (by simp)
  have h2 := key ls (fun x hx => h x (by simp [hx]))
  simp only [joinC, List.length_append, List.length_cons]
  omega
set_option maxHeartbeats 4000000 in
theorem joined_any (A : Option Addr) (c : Nat) (ns : List Nat) (w : World) (hT : Tb w) (hA : NatsR w A ns) (hn : ns.length ≤ 8) (hl : ∀ n ∈ ns, n < 65536) :
  Calls prog 177 #[.slice A ns.length c] w (RetB (.string (bs (joinC 58 (ns.map hexN)))) w) := by
 obtain ⟨W1, hmk, ho1, hb1⟩ := mk0 (t := 70) (e := 9) underlying70 strInfo w.heap.size ns.length (by omega) (by simp only [maxLen]; omega) w (Nat.le_refl _)
 have FM := Hh (fun n (h : n < 65536) V (hV : Below w.heap.size w V) => fmt16_any n h V (hT.below hV))
 have HL := Hh hl
 obtain ⟨Sx, hSx⟩ : ∃ Sx, Hid ((ns.map hexN).map (fun t => Value.string (bs t)) = Sx) := ⟨_, Hh rfl⟩
 have hSl : Sx.length = ns.length := by rw [← hSx.out]; simp
 clear hT hl
 go_enter func177, ntmps177
 go_wp2_with fail
 clear hmk
 go_loopw [3, 11] (fun v iv wr => ∃ k : Nat, k ≤ ns.length ∧ iv = .int .i64 k ∧ wr.ownsRow w.heap.size 9 1 v k (Sx.take k) ∧ Below w.heap.size w wr) (fun _ iv _ => ns.length - (intOf iv).toNat)
 case atStart => exact ⟨0, Nat.zero_le _, rfl, ho1, hb1⟩
 clear ho1 hb1
 obtain ⟨k, hk, rfl, hb, hB⟩ := hrel
 obtain ⟨A', c', hv⟩ := own_form hb
 subst hv
 by_cases hlt : k < ns.length
 case pos =>
  have hlt' : (k : Int) < ns.length := by omega
  obtain ⟨ba, oa, rfl, la, xa⟩ := hA (by omega)
  have c1 : wr.cell? ⟨ba, oa + k, none⟩ = some (.int .i64 (ns[k] : Int)) := (hB.cell (p := ⟨ba, oa + k, none⟩) la).trans (xa k hlt)
  have S := Hh (FM.out ns[k] (HL.out _ (List.getElem_mem hlt)) wr hB)
  have HX : Hid (Sx.take (k + 1) = Sx.take k ++ [Value.string (bs (hexN ns[k]))]) := Hh (by
   rw [List.take_succ_eq_append_getElem (by rw [hSl]; exact hlt)]
   congr 2
   simp [← hSx.out])
  clear xa
  generalize hexN ns[k] = t at *
  generalize ns[k] = nk at *
  go_wp2_with fail
  refine S.out.mono ?_
  rintro _ w1 ⟨rfl, b1⟩
  have hb1 := own_below hb b1
  have hB1 := below_then hB hB.size b1
  clear S b1 c1 hb hB
  go_wp2_with (at_builtin; go_must (refine wpList_appB _ rfl (.tmp 15) (.tmp 18) 70 rfl 9 (.string ⟨#[]⟩) 1 16 underlying70 strInfo rfl (by decide) w.heap.size _ k _ rfl (World.ownsRow.alloc hb1 _) (by have := hB1.size; simp; omega) ⟨w1.heap.size, 0, none⟩ 1 1 [.string (bs t)] rfl rfl (new_one _ _ _ _ rfl) (one_cell1 rfl) (by decide) (by simp only [maxLen]; omega) (by omega) ?_))
  intro g2 cap2 w2 hb2 hgr2 hlt2
  have hB2 := below_own (hB1.alloc hB1.size _) (by have := hB1.size; simp; omega) (hb1.alloc _) hgr2
  have hb3 : w2.ownsRow w.heap.size 9 1 (.slice (some ⟨g2, 0, none⟩) (k + 1) cap2) (k + 1) (Sx.take (k + 1)) := by rw [HX.out]; exact hb2
  clear hb1 hb2 hgr2 hB1 HX
  go_wp2_with fail
  go_roundw
  case rel => exact ⟨k + 1, by omega, by go_num, hb3, hB2⟩
  case measure => simp [intOf]; omega
 obtain rfl : k = ns.length := by omega
 have hlt' : ¬ (ns.length : Int) < ns.length := by omega
 rw [List.take_of_length_le (by rw [hSl]; exact Nat.le_refl _)] at hb
 have hTx : Txts wr (.slice A' ns.length c') (ns.map hexN) := by
  unfold Txts
  rw [List.length_map, hSx.out]
  exact ⟨hb.1, hb.2.imp id (fun ⟨g, cap, cur, h1, _, h3⟩ => ⟨g, cap, cur, h1, Nat.zero_le _, h3⟩)⟩
 have JN := Hh (joinT_any 58 _ (ns.map hexN) wr hTx (by simp; omega) (by
  have := hexs_len (ns.map hexN) (fun l hl => by obtain ⟨n, _, rfl⟩ := List.mem_map.1 hl; exact hexN_len n)
  rw [List.length_map] at this
  omega))
 clear hb hTx HL FM
 generalize joinC 58 (ns.map hexN) = R at *
 go_wp2_with fail
 refine JN.out.mono ?_
 rintro _ w2 ⟨rfl, b2⟩
 have hB2 := below_then hB hB.size b2
 clear JN
 go_wp2_with fail
 go_ret
 exact RetB.mk rfl hB2
end Go.Proofs.YteimenplbanooaaGreatDoor

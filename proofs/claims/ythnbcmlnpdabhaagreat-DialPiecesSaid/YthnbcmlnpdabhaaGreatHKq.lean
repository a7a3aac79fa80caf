/-
  Layer 13, the reference: name, Get of what is raw, and of addresses.
-/
import Derived.Test.YthnbcmlnpdabhaaGreatHCq
namespace Go.Proofs.YthnbcmlnpdabhaaGreat
open _root_.Go.Proofs.Tryz
open Go.RowKit
set_option maxRecDepth 100000
set_option linter.unusedVariables false
set_option linter.unusedSimpArgs false
theorem rname13_any (m : List UInt8) (a : Nat) (w : World) (hl : m.length ≤ 4000000) : Calls prog 219 #[.string (bs m), .int .i64 a] w (NmRet (pget m a) w) := by
 have G := Hh (refGet_any m a w hl)
 generalize pget m a = o at *
 have hE : Hid (nE o = if goE o = 1 then 5 else goE o) := Hh rfl
 unfold GetRet at G
 unfold NmRet
 generalize nE o = y at *
 generalize goE o = x at *
 generalize goB o = b at *
 go_enter func219, ntmps219
 go_wp2_with fail
 refine G.out.mono ?_
 rintro _ w1 ⟨v, rfl, hT, hB, _⟩
 by_cases hx : x = 1
 ·
  subst hx
  obtain rfl : y = 5 := by rw [hE.out]; rfl
  go_wp2_with fail
  go_ret3
  exact ⟨v, rfl, hT, hB⟩
 ·
  have hx' : (x == 1) = false := by simpa using hx
  obtain rfl : y = x := by rw [hE.out, if_neg hx]
  clear hx hE
  go_wp2_with fail
  go_ret3
  exact ⟨v, rfl, hT, hB⟩
theorem rname13_ok {m : List UInt8} {a : Nat} {l : List (List UInt8)} {n : Nat} (h : pget m a = .ok l n) (w : World) (hl : m.length ≤ 4000000) :
  Calls prog 219 #[.string (bs m), .int .i64 a] w (fun e w' => ∃ v, e = .returned (.tuple #[v, .int .i64 (n : Int), .int .i64 0]) ∧ Txts w' v l ∧ Below w.heap.size w w') := by
 have := rname13_any m a w hl
 rw [h] at this
 exact this
theorem rname13_no {m : List UInt8} {a : Nat} {x : Int} (h : pget m a = .err x) (w : World) (hl : m.length ≤ 4000000) :
  Calls prog 219 #[.string (bs m), .int .i64 a] w (fun e w' => ∃ v, e = .returned (.tuple #[v, .int .i64 0, .int .i64 (if x = 1 then 5 else x)]) ∧ Txts w' v [] ∧ Below w.heap.size w w') := by
 have := rname13_any m a w hl
 rw [h] at this
 exact this
def bitsV (f : Int) : Int := if f = 4 then 32 else if f = 6 then 128 else 0
theorem bits_any (f : Int) (L : List Value) (hL : L.length = 18) (h0 : ∀ hi : 0 < L.length, L[0]'hi = .int .i64 f) (hf : f = 4 ∨ f = 6) (w : World) : Calls prog 192 #[.agg L.toArray] w (RetB (.int .i64 (bitsV f)) w) := by
 rcases hf with rfl | rfl
 all_goals
  go_enter func192, ntmps192
  go_wp2_with fail
  go_ret
  exact RetB.mk rfl ((Below.refl _ _).alloc (Nat.le_refl _) _)
theorem kindR_ty {ty cl k : Int} (h : kindR ty cl = k) (hk : k ≠ 0) : ty = k := by
 unfold kindR at h
 split at h
 ·
  exact h
 ·
  omega
set_option maxHeartbeats 1000000 in
theorem r13_raw (m : List UInt8) (a n : Nat) (ty cl : Int) (w : World) (hm : a + n ≤ m.length) (hl : m.length ≤ 4000000) (hk : kindR ty cl = 0) :
  Calls prog 182 #[.string (bs m), .int .i64 a, .int .i64 n, .int .i64 ty, .int .i64 cl] w (GetR (.ok { RR.zero with raw := (m.take (a + n)).drop a }) w) := by
 have K := Hh (fun w => refKind13_any ty cl w)
 rw [hk] at K
 clear hk
 have hSl : (m.take (a + n)).length = a + n := by simp; omega
 have hse : (((a : Int) + n) != (((m.take (a + n)).length : Nat) : Int)) = false := by rw [hSl]; simp
 have k1 : (0 : Int) ≤ a := by omega
 have k2 : (0 : Int) ≤ n := by omega
 have k3 : (a : Int) ≤ m.length := by omega
 have k4 : n ≤ (m.length : Int) - a := by omega
 have k5 : (a : Int) + n ≤ m.length := by omega
 have hs0 : ((a : Int) + n).toNat = a + n := by omega
 obtain ⟨z1, hz1⟩ : ∃ z1, z1 = w.alloc (.cells rrZ.toArray 119) := ⟨_, rfl⟩
 obtain ⟨X, hX⟩ : ∃ X, X = z1.alloc (.cells rrZ.toArray 119) := ⟨_, rfl⟩
 have C10 : Blk X w.heap.size 119 rrZ := by rw [hX, hz1]; exact (Blk.new w 119 rrZ).alloc _
 have C12 : Blk X (w.heap.size + 1) 119 rrZ := by rw [hX, hz1]; exact Blk.new' _ _ rrZ _ (by simp)
 have CB : Below w.heap.size w X := by rw [hX, hz1]; exact ((Below.refl _ _).alloc (Nat.le_refl _) _).alloc (by simp) _
 have HW : Hid ((w.alloc (.cells #[.slice none 0 0, .int .i64 0, .int .i64 0, .int .i64 0, .int .i64 0, .int .u8 0, .int .u8 0, .int .u8 0, .int .u8 0, .int .u8 0, .int .u8 0, .int .u8 0, .int .u8 0, .int .u8 0, .int .u8 0, .int .u8 0, .int .u8 0, .int .u8 0, .int .u8 0, .int .u8 0, .int .u8 0, .int .i64 0, .slice none 0 0, .slice none 0 0, .int .i64 0, .int .i64 0, .int .i64 0, .int .i64 0, .int .i64 0, .int .i64 0, .int .i64 0, .int .i64 0, .string ⟨#[]⟩] 119)).alloc (.cells #[.slice none 0 0, .int .i64 0, .int .i64 0, .int .i64 0, .int .i64 0, .int .u8 0, .int .u8 0, .int .u8 0, .int .u8 0, .int .u8 0, .int .u8 0, .int .u8 0, .int .u8 0, .int .u8 0, .int .u8 0, .int .u8 0, .int .u8 0, .int .u8 0, .int .u8 0, .int .u8 0, .int .u8 0, .int .i64 0, .slice none 0 0, .slice none 0 0, .int .i64 0, .int .i64 0, .int .i64 0, .int .i64 0, .int .i64 0, .int .i64 0, .int .i64 0, .int .i64 0, .string ⟨#[]⟩] 119) = X) := Hh (by rw [hX, hz1, rrZ_lit])
 have CS : w.heap.size + 2 ≤ X.heap.size := by rw [hX, hz1]; simp
 clear hX hz1
 rw [← HW.out] at C10 C12 CB CS
 clear HW
 go_enter func182, ntmps182
 go_wp2_with (refine at_op (.store 119 (.tmp 13) (.tmp 56)) rfl ?_; go_must (refine wpList_stB rfl _ _ _ rfl (w.heap.size + 1) 0 rfl rrZ rfl C12 (by rw [rrZ_len]; omega) (by rw [rrZ_len]; exact rrInfo) rrZ_one ?_))
 intro W B12 g1 _
 replace B12 : Blk W (w.heap.size + 1) 119 rrZ := B12
 have B10 := C10.grown g1 (by simp)
 have HB := below_grown CB g1 (by omega) (by omega)
 clear C10 C12 CB g1 CS
 go_wp2_with fail
 refine (K.out W).mono ?_
 rintro _ w1 ⟨rfl, rfl⟩
 clear K
 have hl33 : rrZ.length = 33 := rrZ_len
 go_wp2_with (refine at_op (.store 9 (.tmp 66) (.tmp 65)) rfl ?_; go_must (refine wpList_stC rfl 9 (.tmp 66) (.tmp 65) rfl (w.heap.size + 1) 32 rfl _ rfl B12 (by omega) strInfo1 rfl rfl ?_))
 intro w2 B2 g2 _
 have A2 := B10.grown g2 (by simp)
 have HB2 := below_grown HB g2 HB.size (by omega)
 rw [List.take_take, Nat.min_self] at B2
 clear B12 B10 HB g2
 obtain ⟨L, hL⟩ : ∃ L, L = rrZ.set 32 (.string (bs ((m.take (a + n)).drop a))) := ⟨_, rfl⟩
 rw [← hL] at B2
 replace hL : L = rrC nilS nilS nilS { RR.zero with raw := (m.take (a + n)).drop a } := hL
 have ll : L.length = 33 := rget_len hL ⟨rfl, rfl⟩
 have l1 : Hid (∀ v ∈ L, v.oneCell' = true) := Hh (by rw [hL]; exact rrC_one rfl rfl rfl)
 have OW : Hid (∀ w', Stays w2 w' → RRown w' L { RR.zero with raw := (m.take (a + n)).drop a }) := Hh (fun w' _ => ⟨nilS, nilS, nilS, hL, ⟨rfl, rfl⟩, NmO.nil _, NmO.nil _, NmO.nil _, by simp; omega⟩)
 clear hL
 go_wp2_with (first
  | (refine at_op (.load 119 (.tmp 13)) rfl ?_; go_must (refine wpList_ldB rfl _ _ rfl (w.heap.size + 1) 0 rfl B2 33 (by omega) _ underlying119 rfl rrInfo L (tk0 (by omega)) ?_))
  | (refine at_op (.store 119 (.tmp 10) (.tmp 217)) rfl ?_; go_must (refine wpList_stB rfl _ _ _ rfl w.heap.size 0 rfl L rfl A2 (by rw [rrZ_len]; omega) (by rw [ll]; exact rrInfo) l1.out ?_)))
 intro w3 hb3 hg3 _
 rw [List.drop_of_length_le (by rw [rrZ_len]; omega), List.append_nil] at hb3
 have S3 := Stays.blk hg3 A2 (by decide)
 have HB3 := below_grown HB2 hg3 HB2.size (Nat.le_refl _)
 clear hg3 A2 B2 HB2
 go_wp2_with fail
 refine ret_cell_tmp rfl w.heap.size rfl hb3 _ underlying119 rfl (by rw [ll]; exact rrInfo) rfl (.int .i64 0) rfl ?_
 exact ⟨L, rfl, OW.out _ S3, HB3⟩
def adK (fam : Int) (d : List UInt8) (k : Nat) : RR := { RR.zero with ad := ⟨fam, d.take k ++ List.replicate (16 - k) 0, 0⟩ }
theorem adK_wf (fam : Int) (d : List UInt8) (k : Nat) (hk : k ≤ d.length) (h16 : k ≤ 16) : (adK fam d k).wf := ⟨by simp [adK]; omega, rfl⟩
theorem adK_all (fam : Int) (d : List UInt8) : adK fam d d.length = adR fam d := by unfold adK adR; rw [List.take_length]
theorem fill_step (d : List UInt8) (k : Nat) (hk : k < d.length) (h16 : k < 16) : (d.take k ++ List.replicate (16 - k) 0).set k d[k] = d.take (k + 1) ++ List.replicate (16 - (k + 1)) 0 := by
 have hl : (d.take k).length = k := by simp; omega
 rw [List.set_append_right _ _ (by omega), hl, Nat.sub_self, show 16 - k = (16 - (k + 1)) + 1 by omega, List.replicate_succ, List.set_cons_zero, List.take_succ_eq_append_getElem hk, List.append_assoc]
 rfl
theorem adK_set (fam : Int) (d : List UInt8) (k : Nat) (hk : k < d.length) (h16 : k < 16) : (rrC nilS nilS nilS (adK fam d k)).set (5 + k) (.int .u8 (d[k].toNat : Int)) = rrC nilS nilS nilS (adK fam d (k + 1)) := by
 have e : (octs (d.take k ++ List.replicate (16 - k) 0)).set k (.int .u8 (d[k].toNat : Int)) = octs (d.take (k + 1) ++ List.replicate (16 - (k + 1)) 0) := by
  rw [← fill_step d k hk h16]
  unfold octs
  rw [List.map_set]
 have hl : k < (octs (d.take k ++ List.replicate (16 - k) 0)).length := by simp [octs]; omega
 unfold rrC adK Adr.cells
 simp only
 rw [Nat.add_comm 5 k]
 simp only [List.set_cons_succ, List.cons_append, List.append_assoc]
 rw [List.set_append_left _ _ hl, e]
theorem adInfo18 : (prog.info? 24).map (·.size) = some 18 := by kernel_rfl
theorem u8Info1 : (prog.info? 5).map (·.size) = some 1 := by kernel_rfl
set_option maxHeartbeats 2000000 in
theorem r13_adr (k : Nat) (fam : Int) (hkf : (k = 1 ∧ fam = 4) ∨ (k = 28 ∧ fam = 6)) (m : List UInt8) (a n : Nat) (ty cl : Int) (w : World) (hm : a + n ≤ m.length) (hl : m.length ≤ 4000000) (hk : kindR ty cl = k) (hn : n = if k = 1 then 4 else 16) :
  Calls prog 182 #[.string (bs m), .int .i64 a, .int .i64 n, .int .i64 ty, .int .i64 cl] w (GetR (.ok (adR fam ((m.take (a + n)).drop a))) w) := by
 have K := Hh (fun w => refKind13_any ty cl w)
 have hty : ty = k := kindR_ty hk (by rcases hkf with ⟨rfl, _⟩ | ⟨rfl, _⟩ <;> decide)
 rw [hk] at K
 clear hk
 subst hty
 have hl33 : rrZ.length = 33 := rrZ_len
 have hSl : (m.take (a + n)).length = a + n := by simp; omega
 have hdl : ((m.take (a + n)).drop a).length = n := by simp; omega
 have hRR : adR fam ((m.take (a + n)).drop a) = adK fam ((m.take (a + n)).drop a) n := by rw [← adK_all, hdl]
 rw [hRR]
 clear hRR hdl
 have BI := Hh (fun L h1 h2 w => bits_any fam L h1 h2 (by omega) w)
 rcases hkf with ⟨rfl, rfl⟩ | ⟨rfl, rfl⟩
 case inl =>
  obtain rfl : n = 4 := by simpa using hn
  clear hn
  have k1 : (0 : Int) ≤ a := by omega
  have k2 : (0 : Int) ≤ 4 := by omega
  have k3 : (a : Int) ≤ m.length := by omega
  have k4 : 4 ≤ (m.length : Int) - a := by omega
  have k5 : (a : Int) + 4 ≤ m.length := by omega
  have hs0 : ((a : Int) + 4).toNat = a + 4 := by omega
  obtain ⟨z1, hz1⟩ : ∃ z1, z1 = w.alloc (.cells rrZ.toArray 119) := ⟨_, rfl⟩
  obtain ⟨X, hX⟩ : ∃ X, X = z1.alloc (.cells rrZ.toArray 119) := ⟨_, rfl⟩
  have C10 : Blk X w.heap.size 119 rrZ := by rw [hX, hz1]; exact (Blk.new w 119 rrZ).alloc _
  have C12 : Blk X (w.heap.size + 1) 119 rrZ := by rw [hX, hz1]; exact Blk.new' _ _ rrZ _ (by simp)
  have CB : Below w.heap.size w X := by rw [hX, hz1]; exact ((Below.refl _ _).alloc (Nat.le_refl _) _).alloc (by simp) _
  have HW : Hid ((w.alloc (.cells #[.slice none 0 0, .int .i64 0, .int .i64 0, .int .i64 0, .int .i64 0, .int .u8 0, .int .u8 0, .int .u8 0, .int .u8 0, .int .u8 0, .int .u8 0, .int .u8 0, .int .u8 0, .int .u8 0, .int .u8 0, .int .u8 0, .int .u8 0, .int .u8 0, .int .u8 0, .int .u8 0, .int .u8 0, .int .i64 0, .slice none 0 0, .slice none 0 0, .int .i64 0, .int .i64 0, .int .i64 0, .int .i64 0, .int .i64 0, .int .i64 0, .int .i64 0, .int .i64 0, .string ⟨#[]⟩] 119)).alloc (.cells #[.slice none 0 0, .int .i64 0, .int .i64 0, .int .i64 0, .int .i64 0, .int .u8 0, .int .u8 0, .int .u8 0, .int .u8 0, .int .u8 0, .int .u8 0, .int .u8 0, .int .u8 0, .int .u8 0, .int .u8 0, .int .u8 0, .int .u8 0, .int .u8 0, .int .u8 0, .int .u8 0, .int .u8 0, .int .i64 0, .slice none 0 0, .slice none 0 0, .int .i64 0, .int .i64 0, .int .i64 0, .int .i64 0, .int .i64 0, .int .i64 0, .int .i64 0, .int .i64 0, .string ⟨#[]⟩] 119) = X) := Hh (by rw [hX, hz1, rrZ_lit])
  have CS : w.heap.size + 2 ≤ X.heap.size := by rw [hX, hz1]; simp
  clear hX hz1
  rw [← HW.out] at C10 C12 CB CS
  clear HW
  go_enter func182, ntmps182
  go_wp2_with (refine at_op (.store 119 (.tmp 13) (.tmp 56)) rfl ?_; go_must (refine wpList_stB rfl _ _ _ rfl (w.heap.size + 1) 0 rfl rrZ rfl C12 (by rw [rrZ_len]; omega) (by rw [rrZ_len]; exact rrInfo) rrZ_one ?_))
  intro W B12 g1 _
  replace B12 : Blk W (w.heap.size + 1) 119 rrZ := B12
  have B10 := C10.grown g1 (by simp)
  have HB := below_grown CB g1 (by omega) (by omega)
  clear C10 C12 CB g1 CS
  go_wp2_with fail
  refine (K.out W).mono ?_
  rintro _ w1 ⟨rfl, rfl⟩
  clear K
  generalize m.take (a + 4) = S at *
  go_wp2_with (refine at_op (.store 3 (.tmp 71) (.const (.int .i64 4))) rfl ?_; go_must (refine wpList_stC rfl 3 (.tmp 71) (.const (.int .i64 4)) rfl (w.heap.size + 1) 4 rfl (.int .i64 4) rfl B12 (by omega) intInfo1 rfl rfl ?_))
  intro w2 B2 g2 _
  have A2 := B10.grown g2 (by simp)
  have HB2 := below_grown HB g2 HB.size (by omega)
  replace B2 : Blk w2 (w.heap.size + 1) 119 (rrC nilS nilS nilS (adK 4 (S.drop a) 0)) := B2
  clear B12 B10 HB g2
  have ll := rrC_len (vn := nilS) (vt := nilS) (vm := nilS) (adK_wf 4 (S.drop a) 0 (by omega) (by omega))
  have hsub := rrC_ad (vn := nilS) (vt := nilS) (vm := nilS) (adK_wf 4 (S.drop a) 0 (by omega) (by omega))
  have hal := (adK 4 (S.drop a) 0).ad.cells_len (by simp [adK])
  have BJ := Hh (BI.out (adK 4 (S.drop a) 0).ad.cells hal (fun hi => rfl))
  clear BI
  obtain ⟨LL, hLL⟩ : ∃ LL, Hid (LL = rrC nilS nilS nilS (adK 4 (S.drop a) 0)) := ⟨_, Hh rfl⟩
  rw [← hLL.out] at ll hsub B2
  generalize (adK 4 (S.drop a) 0).ad.cells = ac at *
  go_wp2_with (refine at_op (.load 24 (.tmp 77)) rfl ?_; go_must (refine wpList_ldB rfl _ _ rfl (w.heap.size + 1) 4 rfl B2 18 (by omega) _ underlying24 rfl adInfo18 ac hsub ?_))
  refine (BJ.out _).mono ?_
  rintro _ w3 ⟨rfl, b3⟩
  replace A2 := A2.below b3 A2.lt
  replace B2 := B2.below b3 B2.lt
  replace HB2 := below_then HB2 HB2.size b3
  rw [hLL.out] at B2
  clear BJ b3 hLL ll hsub hal
  simp only [bitsV]
  go_wp2_with fail
  go_loopw [16] (fun iv wr => ∃ k : Nat, k ≤ 4 ∧ iv = .int .i64 k ∧ Blk wr (w.heap.size + 1) 119 (rrC nilS nilS nilS (adK 4 (S.drop a) k)) ∧ Blk wr w.heap.size 119 rrZ ∧ Below w.heap.size w wr) (fun iv _ => 4 - (intOf iv).toNat)
  case atStart => exact ⟨0, by omega, rfl, B2, A2, HB2⟩
  clear B2 A2 HB2
  obtain ⟨k, hk, rfl, B2, A2, HB2⟩ := hrel
  by_cases hlt : k < 4
  case pos =>
   have hlt' : (k : Int) < 4 := by omega
   have hkd : k < (S.drop a).length := by simp; omega
   have SL := Hh (adK_set 4 (S.drop a) k hkd (by omega))
   have hwf := adK_wf 4 (S.drop a) k (by omega) (by omega)
   have ll := rrC_len (vn := nilS) (vt := nilS) (vm := nilS) hwf
   obtain ⟨c, hc⟩ : ∃ c, c = (S.getD (a + k) 0).toNat := ⟨_, rfl⟩
   have hcd : (S.drop a)[k].toNat = c := by rw [hc]; simp [List.getD, List.getElem?_eq_getElem (show a + k < S.length by omega)]
   rw [hcd] at SL
   have hidx := fun w => run_idx S (a + k) c (by omega) hc w
   rw [show (((a + k : Nat)) : Int) = (a : Int) + k by omega] at hidx
   clear hcd hc hwf
   generalize rrC nilS nilS nilS (adK 4 (S.drop a) k) = LL at *
   go_wp2_with (refine at_op (.store 5 (.tmp 96) (.tmp 93)) rfl ?_; go_must (refine wpList_stC rfl 5 (.tmp 96) (.tmp 93) rfl (w.heap.size + 1) (5 + k) rfl (.int .u8 (c : Int)) rfl B2 (by omega) u8Info1 rfl rfl ?_))
   intro w4 B4 g4 _
   rw [SL.out] at B4
   have A4 := A2.grown g4 (by simp)
   have HB4 := below_grown HB2 g4 HB2.size (by omega)
   clear B2 A2 HB2 g4 SL hidx
   go_wp2_with fail
   go_roundw
   case rel => exact ⟨k + 1, by omega, by go_num, B4, A4, HB4⟩
   case measure => simp [intOf]; omega
  obtain rfl : k = 4 := by omega
  clear hlt hk
  have hwf := adK_wf 4 (S.drop a) 4 (by simp; omega) (by omega)
  obtain ⟨r, hr⟩ : ∃ r, r = adK 4 (S.drop a) 4 := ⟨_, rfl⟩
  rw [← hr] at hwf B2
  obtain ⟨L, hL⟩ : ∃ L, L = rrC nilS nilS nilS r := ⟨_, rfl⟩
  rw [← hL] at B2
  have ll : L.length = 33 := rget_len hL hwf
  have l1 : Hid (∀ v ∈ L, v.oneCell' = true) := Hh (by rw [hL]; exact rrC_one rfl rfl rfl)
  have OW : Hid (∀ w', Stays wr w' → RRown w' L (adK 4 (S.drop a) 4)) := Hh (fun w' _ => by rw [← hr]; exact ⟨nilS, nilS, nilS, hL, hwf, by rw [hr]; exact NmO.nil _, by rw [hr]; exact NmO.nil _, by rw [hr]; exact NmO.nil _, by rw [hr]; simp [adK, RR.zero]⟩)
  have hlt' : ¬ ((4 : Nat) : Int) < 4 := by omega
  have hse : ((a : Int) + 4 != ((S.length : Nat) : Int)) = false := by rw [hSl]; simp
  clear hL hr hwf
  go_wp2_with (first
   | (refine at_op (.load 119 (.tmp 13)) rfl ?_; go_must (refine wpList_ldB rfl _ _ rfl (w.heap.size + 1) 0 rfl B2 33 (by omega) _ underlying119 rfl rrInfo L (tk0 (by omega)) ?_))
   | (refine at_op (.store 119 (.tmp 10) (.tmp 217)) rfl ?_; go_must (refine wpList_stB rfl _ _ _ rfl w.heap.size 0 rfl L rfl A2 (by rw [rrZ_len]; omega) (by rw [ll]; exact rrInfo) l1.out ?_)))
  intro w3 hb3 hg3 _
  rw [List.drop_of_length_le (by rw [rrZ_len]; omega), List.append_nil] at hb3
  have S3 := Stays.blk hg3 A2 (by decide)
  have HB3 := below_grown HB2 hg3 HB2.size (Nat.le_refl _)
  clear hg3 A2 B2 HB2
  go_wp2_with fail
  refine ret_cell_tmp rfl w.heap.size rfl hb3 _ underlying119 rfl (by rw [ll]; exact rrInfo) rfl (.int .i64 0) rfl ?_
  exact ⟨L, rfl, OW.out _ S3, HB3⟩
 case inr =>
  obtain rfl : n = 16 := by simpa using hn
  clear hn
  have k1 : (0 : Int) ≤ a := by omega
  have k2 : (0 : Int) ≤ 16 := by omega
  have k3 : (a : Int) ≤ m.length := by omega
  have k4 : 16 ≤ (m.length : Int) - a := by omega
  have k5 : (a : Int) + 16 ≤ m.length := by omega
  have hs0 : ((a : Int) + 16).toNat = a + 16 := by omega
  obtain ⟨z1, hz1⟩ : ∃ z1, z1 = w.alloc (.cells rrZ.toArray 119) := ⟨_, rfl⟩
  obtain ⟨X, hX⟩ : ∃ X, X = z1.alloc (.cells rrZ.toArray 119) := ⟨_, rfl⟩
  have C10 : Blk X w.heap.size 119 rrZ := by rw [hX, hz1]; exact (Blk.new w 119 rrZ).alloc _
  have C12 : Blk X (w.heap.size + 1) 119 rrZ := by rw [hX, hz1]; exact Blk.new' _ _ rrZ _ (by simp)
  have CB : Below w.heap.size w X := by rw [hX, hz1]; exact ((Below.refl _ _).alloc (Nat.le_refl _) _).alloc (by simp) _
  have HW : Hid ((w.alloc (.cells #[.slice none 0 0, .int .i64 0, .int .i64 0, .int .i64 0, .int .i64 0, .int .u8 0, .int .u8 0, .int .u8 0, .int .u8 0, .int .u8 0, .int .u8 0, .int .u8 0, .int .u8 0, .int .u8 0, .int .u8 0, .int .u8 0, .int .u8 0, .int .u8 0, .int .u8 0, .int .u8 0, .int .u8 0, .int .i64 0, .slice none 0 0, .slice none 0 0, .int .i64 0, .int .i64 0, .int .i64 0, .int .i64 0, .int .i64 0, .int .i64 0, .int .i64 0, .int .i64 0, .string ⟨#[]⟩] 119)).alloc (.cells #[.slice none 0 0, .int .i64 0, .int .i64 0, .int .i64 0, .int .i64 0, .int .u8 0, .int .u8 0, .int .u8 0, .int .u8 0, .int .u8 0, .int .u8 0, .int .u8 0, .int .u8 0, .int .u8 0, .int .u8 0, .int .u8 0, .int .u8 0, .int .u8 0, .int .u8 0, .int .u8 0, .int .u8 0, .int .i64 0, .slice none 0 0, .slice none 0 0, .int .i64 0, .int .i64 0, .int .i64 0, .int .i64 0, .int .i64 0, .int .i64 0, .int .i64 0, .int .i64 0, .string ⟨#[]⟩] 119) = X) := Hh (by rw [hX, hz1, rrZ_lit])
  have CS : w.heap.size + 2 ≤ X.heap.size := by rw [hX, hz1]; simp
  clear hX hz1
  rw [← HW.out] at C10 C12 CB CS
  clear HW
  go_enter func182, ntmps182
  go_wp2_with (refine at_op (.store 119 (.tmp 13) (.tmp 56)) rfl ?_; go_must (refine wpList_stB rfl _ _ _ rfl (w.heap.size + 1) 0 rfl rrZ rfl C12 (by rw [rrZ_len]; omega) (by rw [rrZ_len]; exact rrInfo) rrZ_one ?_))
  intro W B12 g1 _
  replace B12 : Blk W (w.heap.size + 1) 119 rrZ := B12
  have B10 := C10.grown g1 (by simp)
  have HB := below_grown CB g1 (by omega) (by omega)
  clear C10 C12 CB g1 CS
  go_wp2_with fail
  refine (K.out W).mono ?_
  rintro _ w1 ⟨rfl, rfl⟩
  clear K
  generalize m.take (a + 16) = S at *
  go_wp2_with (refine at_op (.store 3 (.tmp 71) (.const (.int .i64 4))) rfl ?_; go_must (refine wpList_stC rfl 3 (.tmp 71) (.const (.int .i64 4)) rfl (w.heap.size + 1) 4 rfl (.int .i64 4) rfl B12 (by omega) intInfo1 rfl rfl ?_))
  intro w1 B1 g1 _
  have A1 := B10.grown g1 (by simp)
  have HB1 := below_grown HB g1 HB.size (by omega)
  clear B12 B10 HB g1
  go_wp2_with (refine at_op (.store 3 (.tmp 75) (.const (.int .i64 6))) rfl ?_; go_must (refine wpList_stC rfl 3 (.tmp 75) (.const (.int .i64 6)) rfl (w.heap.size + 1) 4 rfl (.int .i64 6) rfl B1 (by rw [List.length_set]; omega) intInfo1 rfl rfl ?_))
  intro w2 B2 g2 _
  have A2 := A1.grown g2 (by simp)
  have HB2 := below_grown HB1 g2 HB1.size (by omega)
  replace B2 : Blk w2 (w.heap.size + 1) 119 (rrC nilS nilS nilS (adK 6 (S.drop a) 0)) := B2
  clear B1 A1 HB1 g2
  have ll := rrC_len (vn := nilS) (vt := nilS) (vm := nilS) (adK_wf 6 (S.drop a) 0 (by omega) (by omega))
  have hsub := rrC_ad (vn := nilS) (vt := nilS) (vm := nilS) (adK_wf 6 (S.drop a) 0 (by omega) (by omega))
  have hal := (adK 6 (S.drop a) 0).ad.cells_len (by simp [adK])
  have BJ := Hh (BI.out (adK 6 (S.drop a) 0).ad.cells hal (fun hi => rfl))
  clear BI
  obtain ⟨LL, hLL⟩ : ∃ LL, Hid (LL = rrC nilS nilS nilS (adK 6 (S.drop a) 0)) := ⟨_, Hh rfl⟩
  rw [← hLL.out] at ll hsub B2
  generalize (adK 6 (S.drop a) 0).ad.cells = ac at *
  go_wp2_with (refine at_op (.load 24 (.tmp 77)) rfl ?_; go_must (refine wpList_ldB rfl _ _ rfl (w.heap.size + 1) 4 rfl B2 18 (by omega) _ underlying24 rfl adInfo18 ac hsub ?_))
  refine (BJ.out _).mono ?_
  rintro _ w3 ⟨rfl, b3⟩
  replace A2 := A2.below b3 A2.lt
  replace B2 := B2.below b3 B2.lt
  replace HB2 := below_then HB2 HB2.size b3
  rw [hLL.out] at B2
  clear BJ b3 hLL ll hsub hal
  simp only [bitsV]
  go_wp2_with fail
  go_loopw [16] (fun iv wr => ∃ k : Nat, k ≤ 16 ∧ iv = .int .i64 k ∧ Blk wr (w.heap.size + 1) 119 (rrC nilS nilS nilS (adK 6 (S.drop a) k)) ∧ Blk wr w.heap.size 119 rrZ ∧ Below w.heap.size w wr) (fun iv _ => 16 - (intOf iv).toNat)
  case atStart => exact ⟨0, by omega, rfl, B2, A2, HB2⟩
  clear B2 A2 HB2
  obtain ⟨k, hk, rfl, B2, A2, HB2⟩ := hrel
  by_cases hlt : k < 16
  case pos =>
   have hlt' : (k : Int) < 16 := by omega
   have hkd : k < (S.drop a).length := by simp; omega
   have SL := Hh (adK_set 6 (S.drop a) k hkd (by omega))
   have hwf := adK_wf 6 (S.drop a) k (by omega) (by omega)
   have ll := rrC_len (vn := nilS) (vt := nilS) (vm := nilS) hwf
   obtain ⟨c, hc⟩ : ∃ c, c = (S.getD (a + k) 0).toNat := ⟨_, rfl⟩
   have hcd : (S.drop a)[k].toNat = c := by rw [hc]; simp [List.getD, List.getElem?_eq_getElem (show a + k < S.length by omega)]
   rw [hcd] at SL
   have hidx := fun w => run_idx S (a + k) c (by omega) hc w
   rw [show (((a + k : Nat)) : Int) = (a : Int) + k by omega] at hidx
   clear hcd hc hwf
   generalize rrC nilS nilS nilS (adK 6 (S.drop a) k) = LL at *
   go_wp2_with (refine at_op (.store 5 (.tmp 96) (.tmp 93)) rfl ?_; go_must (refine wpList_stC rfl 5 (.tmp 96) (.tmp 93) rfl (w.heap.size + 1) (5 + k) rfl (.int .u8 (c : Int)) rfl B2 (by omega) u8Info1 rfl rfl ?_))
   intro w4 B4 g4 _
   rw [SL.out] at B4
   have A4 := A2.grown g4 (by simp)
   have HB4 := below_grown HB2 g4 HB2.size (by omega)
   clear B2 A2 HB2 g4 SL hidx
   go_wp2_with fail
   go_roundw
   case rel => exact ⟨k + 1, by omega, by go_num, B4, A4, HB4⟩
   case measure => simp [intOf]; omega
  obtain rfl : k = 16 := by omega
  clear hlt hk
  have hwf := adK_wf 6 (S.drop a) 16 (by simp; omega) (by omega)
  obtain ⟨r, hr⟩ : ∃ r, r = adK 6 (S.drop a) 16 := ⟨_, rfl⟩
  rw [← hr] at hwf B2
  obtain ⟨L, hL⟩ : ∃ L, L = rrC nilS nilS nilS r := ⟨_, rfl⟩
  rw [← hL] at B2
  have ll : L.length = 33 := rget_len hL hwf
  have l1 : Hid (∀ v ∈ L, v.oneCell' = true) := Hh (by rw [hL]; exact rrC_one rfl rfl rfl)
  have OW : Hid (∀ w', Stays wr w' → RRown w' L (adK 6 (S.drop a) 16)) := Hh (fun w' _ => by rw [← hr]; exact ⟨nilS, nilS, nilS, hL, hwf, by rw [hr]; exact NmO.nil _, by rw [hr]; exact NmO.nil _, by rw [hr]; exact NmO.nil _, by rw [hr]; simp [adK, RR.zero]⟩)
  have hlt' : ¬ ((16 : Nat) : Int) < 16 := by omega
  have hse : ((a : Int) + 16 != ((S.length : Nat) : Int)) = false := by rw [hSl]; simp
  clear hL hr hwf
  go_wp2_with (first
   | (refine at_op (.load 119 (.tmp 13)) rfl ?_; go_must (refine wpList_ldB rfl _ _ rfl (w.heap.size + 1) 0 rfl B2 33 (by omega) _ underlying119 rfl rrInfo L (tk0 (by omega)) ?_))
   | (refine at_op (.store 119 (.tmp 10) (.tmp 217)) rfl ?_; go_must (refine wpList_stB rfl _ _ _ rfl w.heap.size 0 rfl L rfl A2 (by rw [rrZ_len]; omega) (by rw [ll]; exact rrInfo) l1.out ?_)))
  intro w3 hb3 hg3 _
  rw [List.drop_of_length_le (by rw [rrZ_len]; omega), List.append_nil] at hb3
  have S3 := Stays.blk hg3 A2 (by decide)
  have HB3 := below_grown HB2 hg3 HB2.size (Nat.le_refl _)
  clear hg3 A2 B2 HB2
  go_wp2_with fail
  refine ret_cell_tmp rfl w.heap.size rfl hb3 _ underlying119 rfl (by rw [ll]; exact rrInfo) rfl (.int .i64 0) rfl ?_
  exact ⟨L, rfl, OW.out _ S3, HB3⟩
set_option maxHeartbeats 2000000 in
theorem r13_adr_no (k : Nat) (hkf : k = 1 ∨ k = 28) (m : List UInt8) (a n : Nat) (ty cl : Int) (w : World) (hm : a + n ≤ m.length) (hl : m.length ≤ 4000000) (hk : kindR ty cl = k) (hn : n ≠ if k = 1 then 4 else 16) :
  Calls prog 182 #[.string (bs m), .int .i64 a, .int .i64 n, .int .i64 ty, .int .i64 cl] w (GetR (.error 5) w) := by
 have K := Hh (fun w => refKind13_any ty cl w)
 have hty : ty = k := kindR_ty hk (by rcases hkf with rfl | rfl <;> decide)
 rw [hk] at K
 clear hk
 subst hty
 have hl33 : rrZ.length = 33 := rrZ_len
 have hSl : (m.take (a + n)).length = a + n := by simp; omega
 rcases hkf with rfl | rfl
 case inl =>
  have hne : ((n : Int) != 4) = true := by simp at hn; simp; omega
  have BI := Hh (fun L h1 h2 w => bits_any 4 L h1 h2 (by omega) w)
  clear hn
  have k1 : (0 : Int) ≤ a := by omega
  have k2 : (0 : Int) ≤ n := by omega
  have k3 : (a : Int) ≤ m.length := by omega
  have k4 : n ≤ (m.length : Int) - a := by omega
  have k5 : (a : Int) + n ≤ m.length := by omega
  have hs0 : ((a : Int) + n).toNat = a + n := by omega
  obtain ⟨z1, hz1⟩ : ∃ z1, z1 = w.alloc (.cells rrZ.toArray 119) := ⟨_, rfl⟩
  obtain ⟨X, hX⟩ : ∃ X, X = z1.alloc (.cells rrZ.toArray 119) := ⟨_, rfl⟩
  have C10 : Blk X w.heap.size 119 rrZ := by rw [hX, hz1]; exact (Blk.new w 119 rrZ).alloc _
  have C12 : Blk X (w.heap.size + 1) 119 rrZ := by rw [hX, hz1]; exact Blk.new' _ _ rrZ _ (by simp)
  have CB : Below w.heap.size w X := by rw [hX, hz1]; exact ((Below.refl _ _).alloc (Nat.le_refl _) _).alloc (by simp) _
  have HW : Hid ((w.alloc (.cells #[.slice none 0 0, .int .i64 0, .int .i64 0, .int .i64 0, .int .i64 0, .int .u8 0, .int .u8 0, .int .u8 0, .int .u8 0, .int .u8 0, .int .u8 0, .int .u8 0, .int .u8 0, .int .u8 0, .int .u8 0, .int .u8 0, .int .u8 0, .int .u8 0, .int .u8 0, .int .u8 0, .int .u8 0, .int .i64 0, .slice none 0 0, .slice none 0 0, .int .i64 0, .int .i64 0, .int .i64 0, .int .i64 0, .int .i64 0, .int .i64 0, .int .i64 0, .int .i64 0, .string ⟨#[]⟩] 119)).alloc (.cells #[.slice none 0 0, .int .i64 0, .int .i64 0, .int .i64 0, .int .i64 0, .int .u8 0, .int .u8 0, .int .u8 0, .int .u8 0, .int .u8 0, .int .u8 0, .int .u8 0, .int .u8 0, .int .u8 0, .int .u8 0, .int .u8 0, .int .u8 0, .int .u8 0, .int .u8 0, .int .u8 0, .int .u8 0, .int .i64 0, .slice none 0 0, .slice none 0 0, .int .i64 0, .int .i64 0, .int .i64 0, .int .i64 0, .int .i64 0, .int .i64 0, .int .i64 0, .int .i64 0, .string ⟨#[]⟩] 119) = X) := Hh (by rw [hX, hz1, rrZ_lit])
  have CS : w.heap.size + 2 ≤ X.heap.size := by rw [hX, hz1]; simp
  clear hX hz1
  rw [← HW.out] at C10 C12 CB CS
  clear HW
  go_enter func182, ntmps182
  go_wp2_with (refine at_op (.store 119 (.tmp 13) (.tmp 56)) rfl ?_; go_must (refine wpList_stB rfl _ _ _ rfl (w.heap.size + 1) 0 rfl rrZ rfl C12 (by rw [rrZ_len]; omega) (by rw [rrZ_len]; exact rrInfo) rrZ_one ?_))
  intro W B12 g1 _
  replace B12 : Blk W (w.heap.size + 1) 119 rrZ := B12
  have B10 := C10.grown g1 (by simp)
  have HB := below_grown CB g1 (by omega) (by omega)
  clear C10 C12 CB g1 CS
  go_wp2_with fail
  refine (K.out W).mono ?_
  rintro _ w1 ⟨rfl, rfl⟩
  clear K
  generalize m.take (a + n) = S at *
  go_wp2_with (refine at_op (.store 3 (.tmp 71) (.const (.int .i64 4))) rfl ?_; go_must (refine wpList_stC rfl 3 (.tmp 71) (.const (.int .i64 4)) rfl (w.heap.size + 1) 4 rfl (.int .i64 4) rfl B12 (by omega) intInfo1 rfl rfl ?_))
  intro w2 B2 g2 _
  have A2 := B10.grown g2 (by simp)
  have HB2 := below_grown HB g2 HB.size (by omega)
  replace B2 : Blk w2 (w.heap.size + 1) 119 (rrC nilS nilS nilS (adK 4 (S.drop a) 0)) := B2
  clear B12 B10 HB g2
  have ll := rrC_len (vn := nilS) (vt := nilS) (vm := nilS) (adK_wf 4 (S.drop a) 0 (by omega) (by omega))
  have hsub := rrC_ad (vn := nilS) (vt := nilS) (vm := nilS) (adK_wf 4 (S.drop a) 0 (by omega) (by omega))
  have hal := (adK 4 (S.drop a) 0).ad.cells_len (by simp [adK])
  have BJ := Hh (BI.out (adK 4 (S.drop a) 0).ad.cells hal (fun hi => rfl))
  clear BI
  obtain ⟨LL, hLL⟩ : ∃ LL, Hid (LL = rrC nilS nilS nilS (adK 4 (S.drop a) 0)) := ⟨_, Hh rfl⟩
  rw [← hLL.out] at ll hsub B2
  generalize (adK 4 (S.drop a) 0).ad.cells = ac at *
  go_wp2_with (refine at_op (.load 24 (.tmp 77)) rfl ?_; go_must (refine wpList_ldB rfl _ _ rfl (w.heap.size + 1) 4 rfl B2 18 (by omega) _ underlying24 rfl adInfo18 ac hsub ?_))
  refine (BJ.out _).mono ?_
  rintro _ w3 ⟨rfl, b3⟩
  replace A2 := A2.below b3 A2.lt
  replace B2 := B2.below b3 B2.lt
  replace HB2 := below_then HB2 HB2.size b3
  rw [hLL.out] at B2
  clear BJ b3 hLL ll hsub hal
  simp only [bitsV]
  clear B2
  go_wp2_with (refine at_op (.store 119 (.tmp 10) (.tmp 82)) rfl ?_; go_must (refine wpList_stB rfl _ _ _ rfl w.heap.size 0 rfl rrZ rfl A2 (by rw [rrZ_len]; omega) (by rw [rrZ_len]; exact rrInfo) rrZ_one ?_))
  intro w5 hb3 hg3 _
  rw [List.drop_of_length_le (by rw [rrZ_len]; omega), List.append_nil] at hb3
  have HB3 := below_grown HB2 hg3 HB2.size (Nat.le_refl _)
  clear hg3 A2 HB2
  go_wp2_with fail
  refine ret_cell_tmp rfl w.heap.size rfl hb3 _ underlying119 rfl (by rw [rrZ_len]; exact rrInfo) rfl (.int .i64 5) rfl ?_
  exact ⟨by decide, rfl, HB3⟩
 case inr =>
  have hne : ((n : Int) != 16) = true := by simp at hn; simp; omega
  have BI := Hh (fun L h1 h2 w => bits_any 6 L h1 h2 (by omega) w)
  clear hn
  have k1 : (0 : Int) ≤ a := by omega
  have k2 : (0 : Int) ≤ n := by omega
  have k3 : (a : Int) ≤ m.length := by omega
  have k4 : n ≤ (m.length : Int) - a := by omega
  have k5 : (a : Int) + n ≤ m.length := by omega
  have hs0 : ((a : Int) + n).toNat = a + n := by omega
  obtain ⟨z1, hz1⟩ : ∃ z1, z1 = w.alloc (.cells rrZ.toArray 119) := ⟨_, rfl⟩
  obtain ⟨X, hX⟩ : ∃ X, X = z1.alloc (.cells rrZ.toArray 119) := ⟨_, rfl⟩
  have C10 : Blk X w.heap.size 119 rrZ := by rw [hX, hz1]; exact (Blk.new w 119 rrZ).alloc _
  have C12 : Blk X (w.heap.size + 1) 119 rrZ := by rw [hX, hz1]; exact Blk.new' _ _ rrZ _ (by simp)
  have CB : Below w.heap.size w X := by rw [hX, hz1]; exact ((Below.refl _ _).alloc (Nat.le_refl _) _).alloc (by simp) _
  have HW : Hid ((w.alloc (.cells #[.slice none 0 0, .int .i64 0, .int .i64 0, .int .i64 0, .int .i64 0, .int .u8 0, .int .u8 0, .int .u8 0, .int .u8 0, .int .u8 0, .int .u8 0, .int .u8 0, .int .u8 0, .int .u8 0, .int .u8 0, .int .u8 0, .int .u8 0, .int .u8 0, .int .u8 0, .int .u8 0, .int .u8 0, .int .i64 0, .slice none 0 0, .slice none 0 0, .int .i64 0, .int .i64 0, .int .i64 0, .int .i64 0, .int .i64 0, .int .i64 0, .int .i64 0, .int .i64 0, .string ⟨#[]⟩] 119)).alloc (.cells #[.slice none 0 0, .int .i64 0, .int .i64 0, .int .i64 0, .int .i64 0, .int .u8 0, .int .u8 0, .int .u8 0, .int .u8 0, .int .u8 0, .int .u8 0, .int .u8 0, .int .u8 0, .int .u8 0, .int .u8 0, .int .u8 0, .int .u8 0, .int .u8 0, .int .u8 0, .int .u8 0, .int .u8 0, .int .i64 0, .slice none 0 0, .slice none 0 0, .int .i64 0, .int .i64 0, .int .i64 0, .int .i64 0, .int .i64 0, .int .i64 0, .int .i64 0, .int .i64 0, .string ⟨#[]⟩] 119) = X) := Hh (by rw [hX, hz1, rrZ_lit])
  have CS : w.heap.size + 2 ≤ X.heap.size := by rw [hX, hz1]; simp
  clear hX hz1
  rw [← HW.out] at C10 C12 CB CS
  clear HW
  go_enter func182, ntmps182
  go_wp2_with (refine at_op (.store 119 (.tmp 13) (.tmp 56)) rfl ?_; go_must (refine wpList_stB rfl _ _ _ rfl (w.heap.size + 1) 0 rfl rrZ rfl C12 (by rw [rrZ_len]; omega) (by rw [rrZ_len]; exact rrInfo) rrZ_one ?_))
  intro W B12 g1 _
  replace B12 : Blk W (w.heap.size + 1) 119 rrZ := B12
  have B10 := C10.grown g1 (by simp)
  have HB := below_grown CB g1 (by omega) (by omega)
  clear C10 C12 CB g1 CS
  go_wp2_with fail
  refine (K.out W).mono ?_
  rintro _ w1 ⟨rfl, rfl⟩
  clear K
  generalize m.take (a + n) = S at *
  go_wp2_with (refine at_op (.store 3 (.tmp 71) (.const (.int .i64 4))) rfl ?_; go_must (refine wpList_stC rfl 3 (.tmp 71) (.const (.int .i64 4)) rfl (w.heap.size + 1) 4 rfl (.int .i64 4) rfl B12 (by omega) intInfo1 rfl rfl ?_))
  intro w1 B1 g1 _
  have A1 := B10.grown g1 (by simp)
  have HB1 := below_grown HB g1 HB.size (by omega)
  clear B12 B10 HB g1
  go_wp2_with (refine at_op (.store 3 (.tmp 75) (.const (.int .i64 6))) rfl ?_; go_must (refine wpList_stC rfl 3 (.tmp 75) (.const (.int .i64 6)) rfl (w.heap.size + 1) 4 rfl (.int .i64 6) rfl B1 (by rw [List.length_set]; omega) intInfo1 rfl rfl ?_))
  intro w2 B2 g2 _
  have A2 := A1.grown g2 (by simp)
  have HB2 := below_grown HB1 g2 HB1.size (by omega)
  replace B2 : Blk w2 (w.heap.size + 1) 119 (rrC nilS nilS nilS (adK 6 (S.drop a) 0)) := B2
  clear B1 A1 HB1 g2
  have ll := rrC_len (vn := nilS) (vt := nilS) (vm := nilS) (adK_wf 6 (S.drop a) 0 (by omega) (by omega))
  have hsub := rrC_ad (vn := nilS) (vt := nilS) (vm := nilS) (adK_wf 6 (S.drop a) 0 (by omega) (by omega))
  have hal := (adK 6 (S.drop a) 0).ad.cells_len (by simp [adK])
  have BJ := Hh (BI.out (adK 6 (S.drop a) 0).ad.cells hal (fun hi => rfl))
  clear BI
  obtain ⟨LL, hLL⟩ : ∃ LL, Hid (LL = rrC nilS nilS nilS (adK 6 (S.drop a) 0)) := ⟨_, Hh rfl⟩
  rw [← hLL.out] at ll hsub B2
  generalize (adK 6 (S.drop a) 0).ad.cells = ac at *
  go_wp2_with (refine at_op (.load 24 (.tmp 77)) rfl ?_; go_must (refine wpList_ldB rfl _ _ rfl (w.heap.size + 1) 4 rfl B2 18 (by omega) _ underlying24 rfl adInfo18 ac hsub ?_))
  refine (BJ.out _).mono ?_
  rintro _ w3 ⟨rfl, b3⟩
  replace A2 := A2.below b3 A2.lt
  replace B2 := B2.below b3 B2.lt
  replace HB2 := below_then HB2 HB2.size b3
  rw [hLL.out] at B2
  clear BJ b3 hLL ll hsub hal
  simp only [bitsV]
  clear B2
  go_wp2_with (refine at_op (.store 119 (.tmp 10) (.tmp 82)) rfl ?_; go_must (refine wpList_stB rfl _ _ _ rfl w.heap.size 0 rfl rrZ rfl A2 (by rw [rrZ_len]; omega) (by rw [rrZ_len]; exact rrInfo) rrZ_one ?_))
  intro w5 hb3 hg3 _
  rw [List.drop_of_length_le (by rw [rrZ_len]; omega), List.append_nil] at hb3
  have HB3 := below_grown HB2 hg3 HB2.size (Nat.le_refl _)
  clear hg3 A2 HB2
  go_wp2_with fail
  refine ret_cell_tmp rfl w.heap.size rfl hb3 _ underlying119 rfl (by rw [rrZ_len]; exact rrInfo) rfl (.int .i64 5) rfl ?_
  exact ⟨by decide, rfl, HB3⟩
end Go.Proofs.YthnbcmlnpdabhaaGreat

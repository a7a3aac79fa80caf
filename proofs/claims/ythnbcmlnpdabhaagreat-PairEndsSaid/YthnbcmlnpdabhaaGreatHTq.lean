/-
  Layer 11 (head): a head and its counts, read.
-/
import Derived.Test.YthnbcmlnpdabhaaGreatGAq
namespace Go.Proofs.YthnbcmlnpdabhaaGreat
open _root_.Go.Proofs.Tryz
open Go.RowKit
set_option maxRecDepth 100000
structure Hd where
 id : Int
 qr : Bool
 op : Int
 aa : Bool
 tc : Bool
 rd : Bool
 ra : Bool
 ad : Bool
 cd : Bool
 rc : Int
deriving DecidableEq
def Hd.vals (h : Hd) : List Value := [.int .i64 h.id, .bool h.qr, .int .i64 h.op, .bool h.aa, .bool h.tc, .bool h.rd, .bool h.ra, .bool h.ad, .bool h.cd, .int .i64 h.rc]
def Hd.agg (h : Hd) : Value := .agg #[.int .i64 h.id, .bool h.qr, .int .i64 h.op, .bool h.aa, .bool h.tc, .bool h.rd, .bool h.ra, .bool h.ad, .bool h.cd, .int .i64 h.rc]
def Hd.zero : Hd := ⟨0, false, 0, false, false, false, false, false, false, 0⟩
def cnts (a b c d : Int) : Value := .agg #[.int .i64 a, .int .i64 b, .int .i64 c, .int .i64 d]
theorem headGet_short (l : List UInt8) (w : World) (hl : l.length < 12) : Calls prog 213 #[.string (bs l)] w (RetB (.tuple #[Hd.zero.agg, cnts 0 0 0 0, .int .i64 1]) w) := by
 have hl' : (l.length : Int) < 12 := by omega
 go_enter func213, ntmps213
 go_wp2_with fail
 go_region
 go_wp2_with fail
 refine bodyPost_ret (v := .tuple #[Hd.zero.agg, cnts 0 0 0 0, .int .i64 1]) (by simp [results, Tryz.results213, go_sem, Hd.agg, Hd.zero, cnts]) rfl (RetB.mk rfl (by go_grown))
theorem hnum2 (g : Nat) (rest : List UInt8) (w : World) (h : EyeAt w g rest false) (hl : rest.length ≤ maxLen) (h2 : 2 ≤ rest.length) :
  Calls prog 177 #[.pointer (some ⟨g, 0, none⟩), .int .i64 2] w (EyeRet (.int .i64 (numB (rest.take 2))) g (rest.drop 2) false w) := by
 have e : (rest.length < 2) = False := by simp; omega
 have h' := num_any g rest false 2 w h hl
 rw [show takeV rest false (hw 2) = rest.take 2 by simp [takeV, hw, e], show takeR rest false (hw 2) = rest.drop 2 by simp [takeR, hw, e], show takeS rest false (hw 2) = false by simp [takeS, hw, e]] at h'
 exact h'
def at2 (l : List UInt8) (k : Nat) : Nat := numB ((l.drop k).take 2)
theorem at2_lt (l : List UInt8) (k : Nat) : at2 l k < 65536 := numB_le _ 2 (by simp; omega)
def bitv (n : Nat) (k : Nat) : Bool := n / k % 2 == 1
def hdOf (id n : Nat) : Hd := ⟨id, bitv n 32768, (n : Int) / 2048 % 16, bitv n 1024, bitv n 512, bitv n 256, bitv n 128, bitv n 32, bitv n 16, (n : Int) % 16⟩
theorem and_nat (a b : Nat) (ha : a < 65536) (hb : b < 65536) : bits .and .i64 (a : Int) (b : Int) = ((a &&& b : Nat) : Int) := by
 have hx : a &&& b < 2 ^ 16 := Nat.and_lt_two_pow _ (by omega)
 show IntKind.i64.wrap ((BitVec.ofInt 64 (a : Int) &&& BitVec.ofInt 64 (b : Int)).toNat : Int) = _
 rw [BitVec.toNat_and, BitVec.ofInt_natCast, BitVec.ofInt_natCast, BitVec.toNat_ofNat, BitVec.toNat_ofNat, Nat.mod_eq_of_lt (by omega), Nat.mod_eq_of_lt (by omega), IntKind.wrap_i64]
 omega
theorem and_bit (n k : Nat) (hn : n < 65536) (hk : 2 ^ k < 65536) : (bits .and .i64 (n : Int) ((2 ^ k : Nat) : Int) != 0) = bitv n (2 ^ k) := by
 rw [and_nat n _ hn hk]
 have h1 : (n &&& 2 ^ k = 0) ↔ n.testBit k = false := by
  constructor
  ·
   intro h
   have := congrArg (fun x => x.testBit k) h
   simpa [Nat.testBit_and, Nat.testBit_two_pow_self] using this
  ·
   intro h
   apply Nat.eq_of_testBit_eq
   intro i
   rw [Nat.testBit_and, Nat.testBit_two_pow]
   by_cases hi : k = i
   ·
    subst hi; simp [h]
   ·
    simp [hi]
 have h2 : n.testBit k = bitv n (2 ^ k) := by
  rw [Nat.testBit_eq_decide_div_mod_eq]; unfold bitv
  rw [Bool.eq_iff_iff]; simp
 rw [← h2]
 cases h : n.testBit k
 ·
  have := h1.2 h
  simp [this]
 ·
  have : n &&& 2 ^ k ≠ 0 := fun e => by rw [h1.1 e] at h; cases h
  simp; omega
theorem and_15 (n : Nat) (hn : n < 65536) : bits .and .i64 (n : Int) 15 = ((n % 16 : Nat) : Int) := by
 have := and_nat n 15 hn (by omega)
 rw [show ((15 : Nat) : Int) = 15 from rfl] at this
 rw [this, show (15 : Nat) = 2 ^ 4 - 1 from rfl, Nat.and_two_pow_sub_one_eq_mod]
def cntV (l : List UInt8) (k : Nat) : List Value := [.int .i64 (if 0 < k then at2 l 4 else 0 : Nat), .int .i64 (if 1 < k then at2 l 6 else 0 : Nat), .int .i64 (if 2 < k then at2 l 8 else 0 : Nat), .int .i64 (if 3 < k then at2 l 10 else 0 : Nat)]
theorem cntV_set (l : List UInt8) (k : Nat) (hk : k < 4) : (cntV l k).set k (.int .i64 (at2 l (4 + 2 * k) : Nat)) = cntV l (k + 1) := by
 have : k = 0 ∨ k = 1 ∨ k = 2 ∨ k = 3 := by omega
 rcases this with rfl | rfl | rfl | rfl <;> rfl
theorem cntV_get (l : List UInt8) (k : Nat) (hk : k < 4) : ∃ u : Int, (cntV l k)[k]? = some (.int .i64 u) := by
 have : k = 0 ∨ k = 1 ∨ k = 2 ∨ k = 3 := by omega
 rcases this with rfl | rfl | rfl | rfl <;> exact ⟨_, rfl⟩
theorem take12 (l : List UInt8) (k : Nat) (hk : k + 2 ≤ 12) : ((l.take 12).drop k).take 2 = (l.drop k).take 2 := by
 rw [List.drop_take, List.take_take]
 congr 1
 omega
def GetInv (w : World) (l : List UInt8) (k : Nat) (wr : World) : Prop :=
 Blk wr w.heap.size 46 Hd.zero.vals ∧ Blk wr (w.heap.size + 1) 210 (cntV l 0) ∧ Blk wr (w.heap.size + 1 + 1) 210 (cntV l k) ∧
  EyeAt wr (w.heap.size + 1 + 1 + 1) ((l.take 12).drop (4 + 2 * k)) false ∧ Below w.heap.size w wr
set_option maxHeartbeats 1000000 in
theorem headGet_long (l : List UInt8) (w : World) (hl : 12 ≤ l.length) (hm : l.length ≤ maxLen) :
  Calls prog 213 #[.string (bs l)] w (RetB (.tuple #[(hdOf (at2 l 0) (at2 l 2)).agg, cnts (at2 l 4) (at2 l 6) (at2 l 8) (at2 l 10), .int .i64 0]) w) := by
 have hl' : (12 : Int) ≤ l.length := by omega
 have hl2 : ¬ (l.length : Int) < 12 := by omega
 have h12 : (l.take 12).length = 12 := by simp; omega
 have h12m : (l.take 12).length ≤ maxLen := by omega
 have H12 := Hh h12
 clear h12
 go_enter func213, ntmps213
 go_wp2_with fail
 refine (new_any (l.take 12) _).mono ?_
 rintro e w1 ⟨rfl, hE, hb⟩
 have k0 : Blk w1 w.heap.size 46 Hd.zero.vals := (((Blk.new w _ Hd.zero.vals).alloc _).alloc _).below hb (by simp; omega)
 have k1 : Blk w1 (w.heap.size + 1) 210 (cntV l 0) := ((Blk.new' _ _ (cntV l 0) _ (by simp)).alloc _).below hb (by simp)
 have k2 : Blk w1 (w.heap.size + 1 + 1) 210 (cntV l 0) := (Blk.new' _ _ (cntV l 0) _ (by simp)).below hb (by simp)
 have hB : Below w.heap.size w w1 := ((((Below.refl _ _).alloc (Nat.le_refl _) _).alloc (by simp) _).alloc (by simp; omega) _).trans (hb.mono (by simp; omega))
 clear hb
 simp only [World.size_alloc] at hE ⊢
 go_wp2_with fail
 refine (hnum2 _ _ _ hE h12m (by rw [H12.out]; omega)).mono ?_
 rintro e w2 ⟨rfl, hE2, hg2⟩
 have hB2 := below_grown hB hg2 hB.size (by omega)
 have m0 := k0.grown hg2 (by simp; omega)
 have m1 := k1.grown hg2 (by simp)
 have m2 := k2.grown hg2 (by simp)
 clear k0 k1 k2 hB hE hg2
 rw [show numB (List.take 2 (List.take 12 l)) = at2 l 0 from by rw [at2, ← take12 l 0 (by omega)]; rfl]
 go_wp2_with fail
 refine (hnum2 _ _ _ hE2 (by rw [List.length_drop]; omega) (by rw [List.length_drop, H12.out]; omega)).mono ?_
 rintro e w3 ⟨rfl, hE3, hg3⟩
 rw [take12 l 2 (by omega), show numB (List.take 2 (List.drop 2 l)) = at2 l 2 from rfl]
 have hinv : GetInv w l 0 w3 := ⟨m0.grown hg3 (by simp; omega), m1.grown hg3 (by simp), m2.grown hg3 (by simp), by rw [List.drop_drop] at hE3; exact hE3, below_grown hB2 hg3 hB2.size (by omega)⟩
 clear m0 m1 m2 hB2 hE2 hg3 hE3
 have hlt0 := at2_lt l 0
 have hlt2 := at2_lt l 2
 generalize hid0 : at2 l 0 = n0 at *
 generalize hid2 : at2 l 2 = n2 at *
 clear hid0 hid2 w2 w1
 go_wp2_with fail
 go_loopw [23] (fun i wr => ∃ k : Nat, k ≤ 4 ∧ i = .int .i64 k ∧ GetInv w l k wr) (fun i _ => 4 - (intOf i).toNat)
 case atStart => exact ⟨0, by omega, rfl, hinv⟩
 case round =>
  obtain ⟨k, hk, rfl, q0, q1, q2, q3, q4⟩ := hrel
  clear hinv
  by_cases hlt : k < 4
  ·
   have hlt' : (k : Int) < 4 := by omega
   go_wp2_with fail
   refine (hnum2 _ _ _ q3 (by rw [List.length_drop]; omega) (by rw [List.length_drop, H12.out]; omega)).mono ?_
   rintro e w4 ⟨rfl, hE4, hg4⟩
   rw [take12 l (4 + 2 * k) (by omega), show numB (List.take 2 (List.drop (4 + 2 * k) l)) = at2 l (4 + 2 * k) from rfl]
   have r0 := q0.grown hg4 (by simp; omega)
   have r1 := q1.grown hg4 (by simp)
   have r2 := q2.grown hg4 (by simp)
   have r4 := below_grown q4 hg4 q4.size (by omega)
   obtain ⟨u, hu⟩ := cntV_get l k hlt
   have hc := r2.cell_ k hu
   have hf := r2.frozen k
   clear q0 q1 q2 q3 q4 hg4
   go_wp2_with fail
   go_roundw
   case rel =>
    refine ⟨k + 1, by omega, by go_num, r0.far (by simp; omega) _, r1.far (by simp) _, by rw [← cntV_set l k hlt]; exact r2.set k _, ?_, r4.setCell (by simp; omega) _⟩
    have := hE4.far (p := ⟨w.heap.size + 1 + 1, k, none⟩) (by simp) (.int .i64 (at2 l (4 + 2 * k) : Nat))
    rw [List.drop_drop] at this
    exact this
   case measure => simp [intOf]; omega
  ·
   obtain rfl : k = 4 := by omega
   have hlt' : ¬ ((4 : Nat) : Int) < 4 := by omega
   have g15 : (bits .and .i64 (n2 : Int) 32768 != 0) = bitv n2 32768 := and_bit n2 15 hlt2 (by decide)
   have g10 : (bits .and .i64 (n2 : Int) 1024 != 0) = bitv n2 1024 := and_bit n2 10 hlt2 (by decide)
   have g9 : (bits .and .i64 (n2 : Int) 512 != 0) = bitv n2 512 := and_bit n2 9 hlt2 (by decide)
   have g8 : (bits .and .i64 (n2 : Int) 256 != 0) = bitv n2 256 := and_bit n2 8 hlt2 (by decide)
   have g7 : (bits .and .i64 (n2 : Int) 128 != 0) = bitv n2 128 := and_bit n2 7 hlt2 (by decide)
   have g5 : (bits .and .i64 (n2 : Int) 32 != 0) = bitv n2 32 := and_bit n2 5 hlt2 (by decide)
   have g4 : (bits .and .i64 (n2 : Int) 16 != 0) = bitv n2 16 := and_bit n2 4 hlt2 (by decide)
   have gop : bits .and .i64 ((n2 : Int) / 2048) 15 = ((n2 / 2048 % 16 : Nat) : Int) := by
    have := and_15 (n2 / 2048) (by omega)
    rw [← this]; congr 1
   have grc : bits .and .i64 (n2 : Int) 15 = ((n2 % 16 : Nat) : Int) := and_15 n2 hlt2
   go_wp2_with fail
   obtain ⟨W, hW⟩ : ∃ W, W = wr.alloc (.cells (hdOf n0 n2).vals.toArray 46) := ⟨_, rfl⟩
   show Code.wp _ _ _ _ (wr.alloc (.cells (hdOf n0 n2).vals.toArray 46))
   rw [← hW]
   have p0 : Blk W w.heap.size 46 Hd.zero.vals := hW ▸ q0.alloc _
   have p1 : Blk W (w.heap.size + 1) 210 (cntV l 0) := hW ▸ q1.alloc _
   have p2 : Blk W (w.heap.size + 1 + 1) 210 (cntV l 4) := hW ▸ q2.alloc _
   have p3 : Blk W wr.heap.size 46 (hdOf n0 n2).vals := hW ▸ Blk.new _ _ _
   have hBW : Below w.heap.size w W := hW ▸ q4.alloc q4.size _
   have hlt3 : w.heap.size + 1 + 1 < wr.heap.size := q2.lt
   clear hW q0 q1 q2 q3 q4 g15 g10 g9 g8 g7 g5 g4 gop grc
   have c00 := p0.cell_ 0 rfl
   have f00 := p0.frozen 0
   have c30 := p3.cell_ 0 rfl
   have c01 := p0.cell_ 1 rfl
   have f01 := p0.frozen 1
   have c31 := p3.cell_ 1 rfl
   have c02 := p0.cell_ 2 rfl
   have f02 := p0.frozen 2
   have c32 := p3.cell_ 2 rfl
   have c03 := p0.cell_ 3 rfl
   have f03 := p0.frozen 3
   have c33 := p3.cell_ 3 rfl
   have c04 := p0.cell_ 4 rfl
   have f04 := p0.frozen 4
   have c34 := p3.cell_ 4 rfl
   have c05 := p0.cell_ 5 rfl
   have f05 := p0.frozen 5
   have c35 := p3.cell_ 5 rfl
   have c06 := p0.cell_ 6 rfl
   have f06 := p0.frozen 6
   have c36 := p3.cell_ 6 rfl
   have c07 := p0.cell_ 7 rfl
   have f07 := p0.frozen 7
   have c37 := p3.cell_ 7 rfl
   have c08 := p0.cell_ 8 rfl
   have f08 := p0.frozen 8
   have c38 := p3.cell_ 8 rfl
   have c09 := p0.cell_ 9 rfl
   have f09 := p0.frozen 9
   have c39 := p3.cell_ 9 rfl
   have c10 := p1.cell_ 0 rfl
   have f10 := p1.frozen 0
   have c20 := p2.cell_ 0 rfl
   have c11 := p1.cell_ 1 rfl
   have f11 := p1.frozen 1
   have c21 := p2.cell_ 1 rfl
   have c12 := p1.cell_ 2 rfl
   have f12 := p1.frozen 2
   have c22 := p2.cell_ 2 rfl
   have c13 := p1.cell_ 3 rfl
   have f13 := p1.frozen 3
   have c23 := p2.cell_ 3 rfl
   simp only [Nat.zero_lt_succ, if_true, show ((1 : Nat) < 4) = True by decide, show ((2 : Nat) < 4) = True by decide, show ((3 : Nat) < 4) = True by decide] at c20 c21 c22 c23
   go_region
   go_wp2_with fail
   refine bodyPost_ret (v := .tuple #[(hdOf n0 n2).agg, cnts (at2 l 4) (at2 l 6) (at2 l 8) (at2 l 10), .int .i64 0]) (by simp [results, Tryz.results213, go_sem, Hd.agg, cnts, c00, c01, c02, c03, c04, c05, c06, c07, c08, c09, c10, c11, c12, c13]) rfl (RetB.mk rfl ?_)
   clear p0 p1 p2 p3
   clear c00 f00 c30 c01 f01 c31 c02 f02 c32 c03 f03 c33 c04 f04 c34 c05 f05 c35 c06 f06 c36 c07 f07 c37 c08 f08 c38 c09 f09 c39 c10 f10 c20 c11 f11 c21 c12 f12 c22 c13 f13 c23
   go_grown
theorem bitvI (n k : Nat) : ((n : Int) / (k : Int) % 2 == 1) = bitv n k := by
 unfold bitv
 rw [Bool.eq_iff_iff]
 simp only [beq_iff_eq]
 constructor <;> intro h <;> omega
theorem within_any (n m : Int) (w : World) : Calls prog 207 #[.int .i64 n, .int .i64 m] w (Ret (.bool (decide (0 ≤ n ∧ n ≤ m))) w) := by
 by_cases h0 : 0 ≤ n
 ·
  by_cases h1 : n ≤ m
  all_goals
   go_enter func207, ntmps207
   go_wp2
   go_ret
   exact Ret.mk (ret_bool (by simp [h0, h1])) rfl
 ·
  go_enter func207, ntmps207
  go_wp2
  go_ret
  exact Ret.mk (ret_bool (by simp; omega)) rfl
theorem within_yes (n m : Int) (w : World) (h : 0 ≤ n ∧ n ≤ m) : Calls prog 207 #[.int .i64 n, .int .i64 m] w (Ret (.bool true) w) := by
 have := within_any n m w; rwa [decide_eq_true h] at this
theorem within_no (n m : Int) (w : World) (h : ¬ (0 ≤ n ∧ n ≤ m)) : Calls prog 207 #[.int .i64 n, .int .i64 m] w (Ret (.bool false) w) := by
 have := within_any n m w; rwa [decide_eq_false h] at this
def Hd.ok (h : Hd) : Bool := decide (0 ≤ h.id ∧ h.id ≤ 65535) && decide (0 ≤ h.op ∧ h.op ≤ 15) && decide (0 ≤ h.rc ∧ h.rc ≤ 15)
def bitw (b : Bool) (n : Int) : Int := if b then n else 0
theorem bitw_le (b : Bool) (n : Int) (h : 0 ≤ n) : 0 ≤ bitw b n ∧ bitw b n ≤ n := by cases b <;> simp [bitw] <;> omega
theorem bit_any (b : Bool) (n : Int) (w : World) : Calls prog 206 #[.bool b, .int .i64 n] w (Ret (.int .i64 (bitw b n)) w) := by
 cases b
 all_goals
  go_enter func206, ntmps206
  go_wp2
  go_ret
  exact Ret.mk rfl rfl
theorem check_any (h : Hd) (w : World) : Calls prog 203 #[h.agg] w (RetB (.int .i64 (if h.ok then 0 else 4)) w) := by
 obtain ⟨id, qr, op, aa, tc, rd, ra, ad, cd, rc⟩ := h
 simp only [Hd.agg]
 by_cases h1 : 0 ≤ id ∧ id ≤ 65535
 ·
  by_cases h2 : 0 ≤ op ∧ op ≤ 15
  ·
   by_cases h3 : 0 ≤ rc ∧ rc ≤ 15
   ·
    rw [show Hd.ok _ = true by simp [Hd.ok, h1, h2, h3]]
    go_enter func203, ntmps203
    go_wp2_with (go_at_call 207; refine (within_yes _ _ _ (by assumption)).mono ?_; rintro e w' ⟨rfl, rfl⟩)
    go_ret
    exact RetB.mk rfl (by go_grown)
   ·
    rw [show Hd.ok _ = false by simp [Hd.ok, h1, h2, h3]]
    go_enter func203, ntmps203
    go_wp2_with (go_at_call 207; first | (refine (within_yes _ _ _ (by assumption)).mono ?_; rintro e w' ⟨rfl, rfl⟩) | (refine (within_no _ _ _ (by assumption)).mono ?_; rintro e w' ⟨rfl, rfl⟩))
    go_ret
    exact RetB.mk rfl (by go_grown)
  ·
   rw [show Hd.ok _ = false by simp [Hd.ok, h1, h2]]
   go_enter func203, ntmps203
   go_wp2_with (go_at_call 207; first | (refine (within_yes _ _ _ (by assumption)).mono ?_; rintro e w' ⟨rfl, rfl⟩) | (refine (within_no _ _ _ (by assumption)).mono ?_; rintro e w' ⟨rfl, rfl⟩))
   go_ret
   exact RetB.mk rfl (by go_grown)
 ·
  rw [show Hd.ok _ = false by simp [Hd.ok, h1]]
  go_enter func203, ntmps203
  go_wp2_with (go_at_call 207; refine (within_no _ _ _ (by assumption)).mono ?_; rintro e w' ⟨rfl, rfl⟩)
  go_ret
  exact RetB.mk rfl (by go_grown)
def Hd.num (h : Hd) : Int := bitw h.qr 32768 + h.op * 2048 + bitw h.aa 1024 + bitw h.tc 512 + bitw h.rd 256 + bitw h.ra 128 + bitw h.ad 32 + bitw h.cd 16 + h.rc
def putHead (h : Hd) (c0 c1 c2 c3 : Int) : List UInt8 := putB 2 h.id ++ putB 2 h.num ++ putB 2 c0 ++ putB 2 c1 ++ putB 2 c2 ++ putB 2 c3
theorem headPut_bad (h : Hd) (c0 c1 c2 c3 : Int) (w : World) (hk : h.ok = false) :
  Calls prog 166 #[h.agg, cnts c0 c1 c2 c3] w (RetB (.tuple #[.string (bs []), .int .i64 4]) w) := by
 simp only [Hd.agg, cnts]
 go_enter func166, ntmps166
 go_wp2_with fail
 refine (check_any h _).mono ?_
 rw [hk]
 rintro e w1 ⟨rfl, b1⟩
 go_wp2_with fail
 go_ret2
 exact RetB.mk rfl (below_then (by go_grown) (by simp; omega) b1)
set_option maxHeartbeats 1000000 in
theorem headPut_ok (h : Hd) (c0 c1 c2 c3 : Int) (w : World) (hk : h.ok = true) (g0 : 0 ≤ c0 ∧ c0 ≤ 65535) (g1 : 0 ≤ c1 ∧ c1 ≤ 65535) (g2 : 0 ≤ c2 ∧ c2 ≤ 65535) (g3 : 0 ≤ c3 ∧ c3 ≤ 65535) :
  Calls prog 166 #[h.agg, cnts c0 c1 c2 c3] w (RetB (.tuple #[.string (bs (putHead h c0 c1 c2 c3)), .int .i64 0]) w) := by
 have hr : (0 ≤ h.id ∧ h.id ≤ 65535) ∧ (0 ≤ h.op ∧ h.op ≤ 15) ∧ (0 ≤ h.rc ∧ h.rc ≤ 15) := by simpa [Hd.ok, and_assoc] using hk
 obtain ⟨⟨i0, i1⟩, ⟨o0, o1⟩, ⟨r0, r1⟩⟩ := hr
 have i10 : ∀ w : World, (Instr.index 210 (.agg #[.int .i64 c0, .int .i64 c1, .int .i64 c2, .int .i64 c3]) (.int .i64 0)).run prog w = .ok (.int .i64 c0) w := fun _ => by kernel_rfl
 have i11 : ∀ w : World, (Instr.index 210 (.agg #[.int .i64 c0, .int .i64 c1, .int .i64 c2, .int .i64 c3]) (.int .i64 1)).run prog w = .ok (.int .i64 c1) w := fun _ => by kernel_rfl
 have i12 : ∀ w : World, (Instr.index 210 (.agg #[.int .i64 c0, .int .i64 c1, .int .i64 c2, .int .i64 c3]) (.int .i64 2)).run prog w = .ok (.int .i64 c2) w := fun _ => by kernel_rfl
 have i13 : ∀ w : World, (Instr.index 210 (.agg #[.int .i64 c0, .int .i64 c1, .int .i64 c2, .int .i64 c3]) (.int .i64 3)).run prog w = .ok (.int .i64 c3) w := fun _ => by kernel_rfl
 have HK := Hh hk
 clear hk
 simp only [Hd.agg, cnts]
 go_enter func166, ntmps166
 go_wp2_with fail
 refine (check_any h _).mono ?_
 rw [HK.out]
 rintro e w1 ⟨rfl, b1⟩
 have k0 : Blk w1 w.heap.size 46 h.vals := ((Blk.new w _ h.vals).alloc _).below b1 (by simp; omega)
 have k1 : Blk w1 (w.heap.size + 1) 210 [.int .i64 c0, .int .i64 c1, .int .i64 c2, .int .i64 c3] := (Blk.new' _ _ [.int .i64 c0, .int .i64 c1, .int .i64 c2, .int .i64 c3] _ (by simp)).below b1 (by simp)
 have hB : Below w.heap.size w w1 := below_then (by go_grown) (by simp; omega) b1
 clear b1
 have e0 := k0.cell_ 0 rfl
 have e1 := k0.cell_ 1 rfl
 have e2 := k0.cell_ 2 rfl
 have e3 := k0.cell_ 3 rfl
 have e4 := k0.cell_ 4 rfl
 have e5 := k0.cell_ 5 rfl
 have e6 := k0.cell_ 6 rfl
 have e7 := k0.cell_ 7 rfl
 have e8 := k0.cell_ 8 rfl
 have e9 := k0.cell_ 9 rfl
 obtain ⟨l32768, m32768⟩ := bitw_le h.qr 32768 (by decide)
 obtain ⟨l1024, m1024⟩ := bitw_le h.aa 1024 (by decide)
 obtain ⟨l512, m512⟩ := bitw_le h.tc 512 (by decide)
 obtain ⟨l256, m256⟩ := bitw_le h.rd 256 (by decide)
 obtain ⟨l128, m128⟩ := bitw_le h.ra 128 (by decide)
 obtain ⟨l32, m32⟩ := bitw_le h.ad 32 (by decide)
 obtain ⟨l16, m16⟩ := bitw_le h.cd 16 (by decide)
 go_wp2_with fail
 go_quiet ((go_at_call 206; exact Ret.quiet (bit_any _ _ _)))
 obtain ⟨W, hW⟩ : ∃ W, W = w1.drewN nq := ⟨_, rfl⟩
 rw [← hW]
 have hBW : Below w.heap.size w W := hW ▸ below_drewN hB nq
 have k2 : Blk W (w.heap.size + 1) 210 [.int .i64 c0, .int .i64 c1, .int .i64 c2, .int .i64 c3] := hW ▸ k1.drewN nq
 have k3 : Blk W w.heap.size 46 h.vals := hW ▸ k0.drewN nq
 clear hW k0 k1 hB e0 e1 e2 e3 e4 e5 e6 e7 e8 e9 l32768 l1024 l512 l256 l128 l32 l16 m32768 m1024 m512 m256 m128 m32 m16
 clear w1
 have e0 := k3.cell_ 0 rfl
 rw [show bitw h.qr 32768 + h.op * 2048 + bitw h.aa 1024 + bitw h.tc 512 + bitw h.rd 256 + bitw h.ra 128 + bitw h.ad 32 + bitw h.cd 16 + h.rc = h.num from rfl]
 go_wp2_with fail
 refine (put_any _ _ _).mono ?_
 rintro e w2 ⟨rfl, b2⟩
 rw [show hw 2 = 2 from rfl]
 have hB2 := below_then hBW hBW.size b2
 go_wp2_with fail
 refine (put_any _ _ _).mono ?_
 rintro e w3 ⟨rfl, b3⟩
 rw [show hw 2 = 2 from rfl]
 have hB3 := below_then hB2 hB2.size b3
 have k4 := (k2.below b2 k2.lt)
 have k5 := k4.below b3 k4.lt
 have d0 := k5.cell_ 0 rfl
 have d1 := k5.cell_ 1 rfl
 have d2 := k5.cell_ 2 rfl
 have d3 := k5.cell_ 3 rfl
 have n0 := putB_length 2 h.id
 have n1 := putB_length 2 h.num
 generalize hp : putB 2 h.id = p at *
 generalize hq : putB 2 h.num = q at *
 have Hp := Hh hp
 have Hq := Hh hq
 have pl : p.length ≤ 2 := by omega
 have ql : q.length ≤ 2 := by omega
 clear hp hq n0 n1 k2 k3 k4 k5 e0 hBW hB2 b2 b3
 go_wp2_with fail
 refine wp_loop_rounds 5 ?_
 rw [rounds_succ]
 go_wp2_with fail
 refine (within_yes _ _ _ g0).mono ?_
 rintro e w' ⟨rfl, rfl⟩
 go_wp2_with fail
 refine (put_any _ _ _).mono ?_
 rintro e v0 ⟨rfl, a0⟩
 rw [show hw 2 = 2 from rfl]
 have hC0 := below_then hB3 hB3.size a0
 have z0 := putB_length 2 c0
 generalize hz0 : putB 2 c0 = y0 at *
 have Hz0 := Hh hz0
 have yl0 : y0.length ≤ 2 := by omega
 clear hz0 z0
 go_wp2_with fail
 rw [rounds_succ]
 go_wp2_with fail
 refine (within_yes _ _ _ g1).mono ?_
 rintro e w' ⟨rfl, rfl⟩
 go_wp2_with fail
 refine (put_any _ _ _).mono ?_
 rintro e v1 ⟨rfl, a1⟩
 rw [show hw 2 = 2 from rfl]
 have hC1 := below_then hC0 hC0.size a1
 have z1 := putB_length 2 c1
 generalize hz1 : putB 2 c1 = y1 at *
 have Hz1 := Hh hz1
 have yl1 : y1.length ≤ 2 := by omega
 clear hz1 z1
 go_wp2_with fail
 rw [rounds_succ]
 go_wp2_with fail
 refine (within_yes _ _ _ g2).mono ?_
 rintro e w' ⟨rfl, rfl⟩
 go_wp2_with fail
 refine (put_any _ _ _).mono ?_
 rintro e v2 ⟨rfl, a2⟩
 rw [show hw 2 = 2 from rfl]
 have hC2 := below_then hC1 hC1.size a2
 have z2 := putB_length 2 c2
 generalize hz2 : putB 2 c2 = y2 at *
 have Hz2 := Hh hz2
 have yl2 : y2.length ≤ 2 := by omega
 clear hz2 z2
 go_wp2_with fail
 rw [rounds_succ]
 go_wp2_with fail
 refine (within_yes _ _ _ g3).mono ?_
 rintro e w' ⟨rfl, rfl⟩
 go_wp2_with fail
 refine (put_any _ _ _).mono ?_
 rintro e v3 ⟨rfl, a3⟩
 rw [show hw 2 = 2 from rfl]
 have hC3 := below_then hC2 hC2.size a3
 have z3 := putB_length 2 c3
 generalize hz3 : putB 2 c3 = y3 at *
 have Hz3 := Hh hz3
 have yl3 : y3.length ≤ 2 := by omega
 clear hz3 z3
 go_wp2_with fail
 rw [rounds_succ]
 go_wp2_with fail
 go_ret2
 refine RetB.mk ?_ hC3
 simp only [putHead, Hp.out, Hq.out, Hz0.out, Hz1.out, Hz2.out, Hz3.out, List.append_assoc]
 rfl
set_option maxHeartbeats 1000000 in
theorem headPut_bad0 (h : Hd) (c0 c1 c2 c3 : Int) (w : World) (hk : h.ok = true) (g0 : ¬ (0 ≤ c0 ∧ c0 ≤ 65535)) :
  Calls prog 166 #[h.agg, cnts c0 c1 c2 c3] w (RetB (.tuple #[.string (bs []), .int .i64 4]) w) := by
 have hr : (0 ≤ h.id ∧ h.id ≤ 65535) ∧ (0 ≤ h.op ∧ h.op ≤ 15) ∧ (0 ≤ h.rc ∧ h.rc ≤ 15) := by simpa [Hd.ok, and_assoc] using hk
 obtain ⟨⟨i0, i1⟩, ⟨o0, o1⟩, ⟨r0, r1⟩⟩ := hr
 have i10 : ∀ w : World, (Instr.index 210 (.agg #[.int .i64 c0, .int .i64 c1, .int .i64 c2, .int .i64 c3]) (.int .i64 0)).run prog w = .ok (.int .i64 c0) w := fun _ => by kernel_rfl
 have i11 : ∀ w : World, (Instr.index 210 (.agg #[.int .i64 c0, .int .i64 c1, .int .i64 c2, .int .i64 c3]) (.int .i64 1)).run prog w = .ok (.int .i64 c1) w := fun _ => by kernel_rfl
 have i12 : ∀ w : World, (Instr.index 210 (.agg #[.int .i64 c0, .int .i64 c1, .int .i64 c2, .int .i64 c3]) (.int .i64 2)).run prog w = .ok (.int .i64 c2) w := fun _ => by kernel_rfl
 have i13 : ∀ w : World, (Instr.index 210 (.agg #[.int .i64 c0, .int .i64 c1, .int .i64 c2, .int .i64 c3]) (.int .i64 3)).run prog w = .ok (.int .i64 c3) w := fun _ => by kernel_rfl
 have HK := Hh hk
 clear hk
 simp only [Hd.agg, cnts]
 go_enter func166, ntmps166
 go_wp2_with fail
 refine (check_any h _).mono ?_
 rw [HK.out]
 rintro e w1 ⟨rfl, b1⟩
 have k0 : Blk w1 w.heap.size 46 h.vals := ((Blk.new w _ h.vals).alloc _).below b1 (by simp; omega)
 have k1 : Blk w1 (w.heap.size + 1) 210 [.int .i64 c0, .int .i64 c1, .int .i64 c2, .int .i64 c3] := (Blk.new' _ _ [.int .i64 c0, .int .i64 c1, .int .i64 c2, .int .i64 c3] _ (by simp)).below b1 (by simp)
 have hB : Below w.heap.size w w1 := below_then (by go_grown) (by simp; omega) b1
 clear b1
 have e0 := k0.cell_ 0 rfl
 have e1 := k0.cell_ 1 rfl
 have e2 := k0.cell_ 2 rfl
 have e3 := k0.cell_ 3 rfl
 have e4 := k0.cell_ 4 rfl
 have e5 := k0.cell_ 5 rfl
 have e6 := k0.cell_ 6 rfl
 have e7 := k0.cell_ 7 rfl
 have e8 := k0.cell_ 8 rfl
 have e9 := k0.cell_ 9 rfl
 obtain ⟨l32768, m32768⟩ := bitw_le h.qr 32768 (by decide)
 obtain ⟨l1024, m1024⟩ := bitw_le h.aa 1024 (by decide)
 obtain ⟨l512, m512⟩ := bitw_le h.tc 512 (by decide)
 obtain ⟨l256, m256⟩ := bitw_le h.rd 256 (by decide)
 obtain ⟨l128, m128⟩ := bitw_le h.ra 128 (by decide)
 obtain ⟨l32, m32⟩ := bitw_le h.ad 32 (by decide)
 obtain ⟨l16, m16⟩ := bitw_le h.cd 16 (by decide)
 go_wp2_with fail
 go_quiet ((go_at_call 206; exact Ret.quiet (bit_any _ _ _)))
 obtain ⟨W, hW⟩ : ∃ W, W = w1.drewN nq := ⟨_, rfl⟩
 rw [← hW]
 have hBW : Below w.heap.size w W := hW ▸ below_drewN hB nq
 have k2 : Blk W (w.heap.size + 1) 210 [.int .i64 c0, .int .i64 c1, .int .i64 c2, .int .i64 c3] := hW ▸ k1.drewN nq
 have k3 : Blk W w.heap.size 46 h.vals := hW ▸ k0.drewN nq
 clear hW k0 k1 hB e0 e1 e2 e3 e4 e5 e6 e7 e8 e9 l32768 l1024 l512 l256 l128 l32 l16 m32768 m1024 m512 m256 m128 m32 m16
 clear w1
 have e0 := k3.cell_ 0 rfl
 rw [show bitw h.qr 32768 + h.op * 2048 + bitw h.aa 1024 + bitw h.tc 512 + bitw h.rd 256 + bitw h.ra 128 + bitw h.ad 32 + bitw h.cd 16 + h.rc = h.num from rfl]
 go_wp2_with fail
 refine (put_any _ _ _).mono ?_
 rintro e w2 ⟨rfl, b2⟩
 rw [show hw 2 = 2 from rfl]
 have hB2 := below_then hBW hBW.size b2
 go_wp2_with fail
 refine (put_any _ _ _).mono ?_
 rintro e w3 ⟨rfl, b3⟩
 rw [show hw 2 = 2 from rfl]
 have hB3 := below_then hB2 hB2.size b3
 have k4 := (k2.below b2 k2.lt)
 have k5 := k4.below b3 k4.lt
 have d0 := k5.cell_ 0 rfl
 have d1 := k5.cell_ 1 rfl
 have d2 := k5.cell_ 2 rfl
 have d3 := k5.cell_ 3 rfl
 have n0 := putB_length 2 h.id
 have n1 := putB_length 2 h.num
 generalize hp : putB 2 h.id = p at *
 generalize hq : putB 2 h.num = q at *
 have Hp := Hh hp
 have Hq := Hh hq
 have pl : p.length ≤ 2 := by omega
 have ql : q.length ≤ 2 := by omega
 clear hp hq n0 n1 k2 k3 k4 k5 e0 hBW hB2 b2 b3
 go_wp2_with fail
 refine wp_loop_rounds 5 ?_
 rw [rounds_succ]
 go_wp2_with fail
 refine (within_no _ _ _ g0).mono ?_
 rintro e w' ⟨rfl, rfl⟩
 go_wp2_with fail
 go_ret2
 exact RetB.mk rfl hB3
set_option maxHeartbeats 1000000 in
theorem headPut_bad1 (h : Hd) (c0 c1 c2 c3 : Int) (w : World) (hk : h.ok = true) (g0 : 0 ≤ c0 ∧ c0 ≤ 65535) (g1 : ¬ (0 ≤ c1 ∧ c1 ≤ 65535)) :
  Calls prog 166 #[h.agg, cnts c0 c1 c2 c3] w (RetB (.tuple #[.string (bs []), .int .i64 4]) w) := by
 have hr : (0 ≤ h.id ∧ h.id ≤ 65535) ∧ (0 ≤ h.op ∧ h.op ≤ 15) ∧ (0 ≤ h.rc ∧ h.rc ≤ 15) := by simpa [Hd.ok, and_assoc] using hk
 obtain ⟨⟨i0, i1⟩, ⟨o0, o1⟩, ⟨r0, r1⟩⟩ := hr
 have i10 : ∀ w : World, (Instr.index 210 (.agg #[.int .i64 c0, .int .i64 c1, .int .i64 c2, .int .i64 c3]) (.int .i64 0)).run prog w = .ok (.int .i64 c0) w := fun _ => by kernel_rfl
 have i11 : ∀ w : World, (Instr.index 210 (.agg #[.int .i64 c0, .int .i64 c1, .int .i64 c2, .int .i64 c3]) (.int .i64 1)).run prog w = .ok (.int .i64 c1) w := fun _ => by kernel_rfl
 have i12 : ∀ w : World, (Instr.index 210 (.agg #[.int .i64 c0, .int .i64 c1, .int .i64 c2, .int .i64 c3]) (.int .i64 2)).run prog w = .ok (.int .i64 c2) w := fun _ => by kernel_rfl
 have i13 : ∀ w : World, (Instr.index 210 (.agg #[.int .i64 c0, .int .i64 c1, .int .i64 c2, .int .i64 c3]) (.int .i64 3)).run prog w = .ok (.int .i64 c3) w := fun _ => by kernel_rfl
 have HK := Hh hk
 clear hk
 simp only [Hd.agg, cnts]
 go_enter func166, ntmps166
 go_wp2_with fail
 refine (check_any h _).mono ?_
 rw [HK.out]
 rintro e w1 ⟨rfl, b1⟩
 have k0 : Blk w1 w.heap.size 46 h.vals := ((Blk.new w _ h.vals).alloc _).below b1 (by simp; omega)
 have k1 : Blk w1 (w.heap.size + 1) 210 [.int .i64 c0, .int .i64 c1, .int .i64 c2, .int .i64 c3] := (Blk.new' _ _ [.int .i64 c0, .int .i64 c1, .int .i64 c2, .int .i64 c3] _ (by simp)).below b1 (by simp)
 have hB : Below w.heap.size w w1 := below_then (by go_grown) (by simp; omega) b1
 clear b1
 have e0 := k0.cell_ 0 rfl
 have e1 := k0.cell_ 1 rfl
 have e2 := k0.cell_ 2 rfl
 have e3 := k0.cell_ 3 rfl
 have e4 := k0.cell_ 4 rfl
 have e5 := k0.cell_ 5 rfl
 have e6 := k0.cell_ 6 rfl
 have e7 := k0.cell_ 7 rfl
 have e8 := k0.cell_ 8 rfl
 have e9 := k0.cell_ 9 rfl
 obtain ⟨l32768, m32768⟩ := bitw_le h.qr 32768 (by decide)
 obtain ⟨l1024, m1024⟩ := bitw_le h.aa 1024 (by decide)
 obtain ⟨l512, m512⟩ := bitw_le h.tc 512 (by decide)
 obtain ⟨l256, m256⟩ := bitw_le h.rd 256 (by decide)
 obtain ⟨l128, m128⟩ := bitw_le h.ra 128 (by decide)
 obtain ⟨l32, m32⟩ := bitw_le h.ad 32 (by decide)
 obtain ⟨l16, m16⟩ := bitw_le h.cd 16 (by decide)
 go_wp2_with fail
 go_quiet ((go_at_call 206; exact Ret.quiet (bit_any _ _ _)))
 obtain ⟨W, hW⟩ : ∃ W, W = w1.drewN nq := ⟨_, rfl⟩
 rw [← hW]
 have hBW : Below w.heap.size w W := hW ▸ below_drewN hB nq
 have k2 : Blk W (w.heap.size + 1) 210 [.int .i64 c0, .int .i64 c1, .int .i64 c2, .int .i64 c3] := hW ▸ k1.drewN nq
 have k3 : Blk W w.heap.size 46 h.vals := hW ▸ k0.drewN nq
 clear hW k0 k1 hB e0 e1 e2 e3 e4 e5 e6 e7 e8 e9 l32768 l1024 l512 l256 l128 l32 l16 m32768 m1024 m512 m256 m128 m32 m16
 clear w1
 have e0 := k3.cell_ 0 rfl
 rw [show bitw h.qr 32768 + h.op * 2048 + bitw h.aa 1024 + bitw h.tc 512 + bitw h.rd 256 + bitw h.ra 128 + bitw h.ad 32 + bitw h.cd 16 + h.rc = h.num from rfl]
 go_wp2_with fail
 refine (put_any _ _ _).mono ?_
 rintro e w2 ⟨rfl, b2⟩
 rw [show hw 2 = 2 from rfl]
 have hB2 := below_then hBW hBW.size b2
 go_wp2_with fail
 refine (put_any _ _ _).mono ?_
 rintro e w3 ⟨rfl, b3⟩
 rw [show hw 2 = 2 from rfl]
 have hB3 := below_then hB2 hB2.size b3
 have k4 := (k2.below b2 k2.lt)
 have k5 := k4.below b3 k4.lt
 have d0 := k5.cell_ 0 rfl
 have d1 := k5.cell_ 1 rfl
 have d2 := k5.cell_ 2 rfl
 have d3 := k5.cell_ 3 rfl
 have n0 := putB_length 2 h.id
 have n1 := putB_length 2 h.num
 generalize hp : putB 2 h.id = p at *
 generalize hq : putB 2 h.num = q at *
 have Hp := Hh hp
 have Hq := Hh hq
 have pl : p.length ≤ 2 := by omega
 have ql : q.length ≤ 2 := by omega
 clear hp hq n0 n1 k2 k3 k4 k5 e0 hBW hB2 b2 b3
 go_wp2_with fail
 refine wp_loop_rounds 5 ?_
 rw [rounds_succ]
 go_wp2_with fail
 refine (within_yes _ _ _ g0).mono ?_
 rintro e w' ⟨rfl, rfl⟩
 go_wp2_with fail
 refine (put_any _ _ _).mono ?_
 rintro e v0 ⟨rfl, a0⟩
 rw [show hw 2 = 2 from rfl]
 have hC0 := below_then hB3 hB3.size a0
 have z0 := putB_length 2 c0
 generalize hz0 : putB 2 c0 = y0 at *
 have Hz0 := Hh hz0
 have yl0 : y0.length ≤ 2 := by omega
 clear hz0 z0
 go_wp2_with fail
 rw [rounds_succ]
 go_wp2_with fail
 refine (within_no _ _ _ g1).mono ?_
 rintro e w' ⟨rfl, rfl⟩
 go_wp2_with fail
 go_ret2
 exact RetB.mk rfl hC0
set_option maxHeartbeats 1000000 in
theorem headPut_bad2 (h : Hd) (c0 c1 c2 c3 : Int) (w : World) (hk : h.ok = true) (g0 : 0 ≤ c0 ∧ c0 ≤ 65535) (g1 : 0 ≤ c1 ∧ c1 ≤ 65535) (g2 : ¬ (0 ≤ c2 ∧ c2 ≤ 65535)) :
  Calls prog 166 #[h.agg, cnts c0 c1 c2 c3] w (RetB (.tuple #[.string (bs []), .int .i64 4]) w) := by
 have hr : (0 ≤ h.id ∧ h.id ≤ 65535) ∧ (0 ≤ h.op ∧ h.op ≤ 15) ∧ (0 ≤ h.rc ∧ h.rc ≤ 15) := by simpa [Hd.ok, and_assoc] using hk
 obtain ⟨⟨i0, i1⟩, ⟨o0, o1⟩, ⟨r0, r1⟩⟩ := hr
 have i10 : ∀ w : World, (Instr.index 210 (.agg #[.int .i64 c0, .int .i64 c1, .int .i64 c2, .int .i64 c3]) (.int .i64 0)).run prog w = .ok (.int .i64 c0) w := fun _ => by kernel_rfl
 have i11 : ∀ w : World, (Instr.index 210 (.agg #[.int .i64 c0, .int .i64 c1, .int .i64 c2, .int .i64 c3]) (.int .i64 1)).run prog w = .ok (.int .i64 c1) w := fun _ => by kernel_rfl
 have i12 : ∀ w : World, (Instr.index 210 (.agg #[.int .i64 c0, .int .i64 c1, .int .i64 c2, .int .i64 c3]) (.int .i64 2)).run prog w = .ok (.int .i64 c2) w := fun _ => by kernel_rfl
 have i13 : ∀ w : World, (Instr.index 210 (.agg #[.int .i64 c0, .int .i64 c1, .int .i64 c2, .int .i64 c3]) (.int .i64 3)).run prog w = .ok (.int .i64 c3) w := fun _ => by kernel_rfl
 have HK := Hh hk
 clear hk
 simp only [Hd.agg, cnts]
 go_enter func166, ntmps166
 go_wp2_with fail
 refine (check_any h _).mono ?_
 rw [HK.out]
 rintro e w1 ⟨rfl, b1⟩
 have k0 : Blk w1 w.heap.size 46 h.vals := ((Blk.new w _ h.vals).alloc _).below b1 (by simp; omega)
 have k1 : Blk w1 (w.heap.size + 1) 210 [.int .i64 c0, .int .i64 c1, .int .i64 c2, .int .i64 c3] := (Blk.new' _ _ [.int .i64 c0, .int .i64 c1, .int .i64 c2, .int .i64 c3] _ (by simp)).below b1 (by simp)
 have hB : Below w.heap.size w w1 := below_then (by go_grown) (by simp; omega) b1
 clear b1
 have e0 := k0.cell_ 0 rfl
 have e1 := k0.cell_ 1 rfl
 have e2 := k0.cell_ 2 rfl
 have e3 := k0.cell_ 3 rfl
 have e4 := k0.cell_ 4 rfl
 have e5 := k0.cell_ 5 rfl
 have e6 := k0.cell_ 6 rfl
 have e7 := k0.cell_ 7 rfl
 have e8 := k0.cell_ 8 rfl
 have e9 := k0.cell_ 9 rfl
 obtain ⟨l32768, m32768⟩ := bitw_le h.qr 32768 (by decide)
 obtain ⟨l1024, m1024⟩ := bitw_le h.aa 1024 (by decide)
 obtain ⟨l512, m512⟩ := bitw_le h.tc 512 (by decide)
 obtain ⟨l256, m256⟩ := bitw_le h.rd 256 (by decide)
 obtain ⟨l128, m128⟩ := bitw_le h.ra 128 (by decide)
 obtain ⟨l32, m32⟩ := bitw_le h.ad 32 (by decide)
 obtain ⟨l16, m16⟩ := bitw_le h.cd 16 (by decide)
 go_wp2_with fail
 go_quiet ((go_at_call 206; exact Ret.quiet (bit_any _ _ _)))
 obtain ⟨W, hW⟩ : ∃ W, W = w1.drewN nq := ⟨_, rfl⟩
 rw [← hW]
 have hBW : Below w.heap.size w W := hW ▸ below_drewN hB nq
 have k2 : Blk W (w.heap.size + 1) 210 [.int .i64 c0, .int .i64 c1, .int .i64 c2, .int .i64 c3] := hW ▸ k1.drewN nq
 have k3 : Blk W w.heap.size 46 h.vals := hW ▸ k0.drewN nq
 clear hW k0 k1 hB e0 e1 e2 e3 e4 e5 e6 e7 e8 e9 l32768 l1024 l512 l256 l128 l32 l16 m32768 m1024 m512 m256 m128 m32 m16
 clear w1
 have e0 := k3.cell_ 0 rfl
 rw [show bitw h.qr 32768 + h.op * 2048 + bitw h.aa 1024 + bitw h.tc 512 + bitw h.rd 256 + bitw h.ra 128 + bitw h.ad 32 + bitw h.cd 16 + h.rc = h.num from rfl]
 go_wp2_with fail
 refine (put_any _ _ _).mono ?_
 rintro e w2 ⟨rfl, b2⟩
 rw [show hw 2 = 2 from rfl]
 have hB2 := below_then hBW hBW.size b2
 go_wp2_with fail
 refine (put_any _ _ _).mono ?_
 rintro e w3 ⟨rfl, b3⟩
 rw [show hw 2 = 2 from rfl]
 have hB3 := below_then hB2 hB2.size b3
 have k4 := (k2.below b2 k2.lt)
 have k5 := k4.below b3 k4.lt
 have d0 := k5.cell_ 0 rfl
 have d1 := k5.cell_ 1 rfl
 have d2 := k5.cell_ 2 rfl
 have d3 := k5.cell_ 3 rfl
 have n0 := putB_length 2 h.id
 have n1 := putB_length 2 h.num
 generalize hp : putB 2 h.id = p at *
 generalize hq : putB 2 h.num = q at *
 have Hp := Hh hp
 have Hq := Hh hq
 have pl : p.length ≤ 2 := by omega
 have ql : q.length ≤ 2 := by omega
 clear hp hq n0 n1 k2 k3 k4 k5 e0 hBW hB2 b2 b3
 go_wp2_with fail
 refine wp_loop_rounds 5 ?_
 rw [rounds_succ]
 go_wp2_with fail
 refine (within_yes _ _ _ g0).mono ?_
 rintro e w' ⟨rfl, rfl⟩
 go_wp2_with fail
 refine (put_any _ _ _).mono ?_
 rintro e v0 ⟨rfl, a0⟩
 rw [show hw 2 = 2 from rfl]
 have hC0 := below_then hB3 hB3.size a0
 have z0 := putB_length 2 c0
 generalize hz0 : putB 2 c0 = y0 at *
 have Hz0 := Hh hz0
 have yl0 : y0.length ≤ 2 := by omega
 clear hz0 z0
 go_wp2_with fail
 rw [rounds_succ]
 go_wp2_with fail
 refine (within_yes _ _ _ g1).mono ?_
 rintro e w' ⟨rfl, rfl⟩
 go_wp2_with fail
 refine (put_any _ _ _).mono ?_
 rintro e v1 ⟨rfl, a1⟩
 rw [show hw 2 = 2 from rfl]
 have hC1 := below_then hC0 hC0.size a1
 have z1 := putB_length 2 c1
 generalize hz1 : putB 2 c1 = y1 at *
 have Hz1 := Hh hz1
 have yl1 : y1.length ≤ 2 := by omega
 clear hz1 z1
 go_wp2_with fail
 rw [rounds_succ]
 go_wp2_with fail
 refine (within_no _ _ _ g2).mono ?_
 rintro e w' ⟨rfl, rfl⟩
 go_wp2_with fail
 go_ret2
 exact RetB.mk rfl hC1
set_option maxHeartbeats 1000000 in
theorem headPut_bad3 (h : Hd) (c0 c1 c2 c3 : Int) (w : World) (hk : h.ok = true) (g0 : 0 ≤ c0 ∧ c0 ≤ 65535) (g1 : 0 ≤ c1 ∧ c1 ≤ 65535) (g2 : 0 ≤ c2 ∧ c2 ≤ 65535) (g3 : ¬ (0 ≤ c3 ∧ c3 ≤ 65535)) :
  Calls prog 166 #[h.agg, cnts c0 c1 c2 c3] w (RetB (.tuple #[.string (bs []), .int .i64 4]) w) := by
 have hr : (0 ≤ h.id ∧ h.id ≤ 65535) ∧ (0 ≤ h.op ∧ h.op ≤ 15) ∧ (0 ≤ h.rc ∧ h.rc ≤ 15) := by simpa [Hd.ok, and_assoc] using hk
 obtain ⟨⟨i0, i1⟩, ⟨o0, o1⟩, ⟨r0, r1⟩⟩ := hr
 have i10 : ∀ w : World, (Instr.index 210 (.agg #[.int .i64 c0, .int .i64 c1, .int .i64 c2, .int .i64 c3]) (.int .i64 0)).run prog w = .ok (.int .i64 c0) w := fun _ => by kernel_rfl
 have i11 : ∀ w : World, (Instr.index 210 (.agg #[.int .i64 c0, .int .i64 c1, .int .i64 c2, .int .i64 c3]) (.int .i64 1)).run prog w = .ok (.int .i64 c1) w := fun _ => by kernel_rfl
 have i12 : ∀ w : World, (Instr.index 210 (.agg #[.int .i64 c0, .int .i64 c1, .int .i64 c2, .int .i64 c3]) (.int .i64 2)).run prog w = .ok (.int .i64 c2) w := fun _ => by kernel_rfl
 have i13 : ∀ w : World, (Instr.index 210 (.agg #[.int .i64 c0, .int .i64 c1, .int .i64 c2, .int .i64 c3]) (.int .i64 3)).run prog w = .ok (.int .i64 c3) w := fun _ => by kernel_rfl
 have HK := Hh hk
 clear hk
 simp only [Hd.agg, cnts]
 go_enter func166, ntmps166
 go_wp2_with fail
 refine (check_any h _).mono ?_
 rw [HK.out]
 rintro e w1 ⟨rfl, b1⟩
 have k0 : Blk w1 w.heap.size 46 h.vals := ((Blk.new w _ h.vals).alloc _).below b1 (by simp; omega)
 have k1 : Blk w1 (w.heap.size + 1) 210 [.int .i64 c0, .int .i64 c1, .int .i64 c2, .int .i64 c3] := (Blk.new' _ _ [.int .i64 c0, .int .i64 c1, .int .i64 c2, .int .i64 c3] _ (by simp)).below b1 (by simp)
 have hB : Below w.heap.size w w1 := below_then (by go_grown) (by simp; omega) b1
 clear b1
 have e0 := k0.cell_ 0 rfl
 have e1 := k0.cell_ 1 rfl
 have e2 := k0.cell_ 2 rfl
 have e3 := k0.cell_ 3 rfl
 have e4 := k0.cell_ 4 rfl
 have e5 := k0.cell_ 5 rfl
 have e6 := k0.cell_ 6 rfl
 have e7 := k0.cell_ 7 rfl
 have e8 := k0.cell_ 8 rfl
 have e9 := k0.cell_ 9 rfl
 obtain ⟨l32768, m32768⟩ := bitw_le h.qr 32768 (by decide)
 obtain ⟨l1024, m1024⟩ := bitw_le h.aa 1024 (by decide)
 obtain ⟨l512, m512⟩ := bitw_le h.tc 512 (by decide)
 obtain ⟨l256, m256⟩ := bitw_le h.rd 256 (by decide)
 obtain ⟨l128, m128⟩ := bitw_le h.ra 128 (by decide)
 obtain ⟨l32, m32⟩ := bitw_le h.ad 32 (by decide)
 obtain ⟨l16, m16⟩ := bitw_le h.cd 16 (by decide)
 go_wp2_with fail
 go_quiet ((go_at_call 206; exact Ret.quiet (bit_any _ _ _)))
 obtain ⟨W, hW⟩ : ∃ W, W = w1.drewN nq := ⟨_, rfl⟩
 rw [← hW]
 have hBW : Below w.heap.size w W := hW ▸ below_drewN hB nq
 have k2 : Blk W (w.heap.size + 1) 210 [.int .i64 c0, .int .i64 c1, .int .i64 c2, .int .i64 c3] := hW ▸ k1.drewN nq
 have k3 : Blk W w.heap.size 46 h.vals := hW ▸ k0.drewN nq
 clear hW k0 k1 hB e0 e1 e2 e3 e4 e5 e6 e7 e8 e9 l32768 l1024 l512 l256 l128 l32 l16 m32768 m1024 m512 m256 m128 m32 m16
 clear w1
 have e0 := k3.cell_ 0 rfl
 rw [show bitw h.qr 32768 + h.op * 2048 + bitw h.aa 1024 + bitw h.tc 512 + bitw h.rd 256 + bitw h.ra 128 + bitw h.ad 32 + bitw h.cd 16 + h.rc = h.num from rfl]
 go_wp2_with fail
 refine (put_any _ _ _).mono ?_
 rintro e w2 ⟨rfl, b2⟩
 rw [show hw 2 = 2 from rfl]
 have hB2 := below_then hBW hBW.size b2
 go_wp2_with fail
 refine (put_any _ _ _).mono ?_
 rintro e w3 ⟨rfl, b3⟩
 rw [show hw 2 = 2 from rfl]
 have hB3 := below_then hB2 hB2.size b3
 have k4 := (k2.below b2 k2.lt)
 have k5 := k4.below b3 k4.lt
 have d0 := k5.cell_ 0 rfl
 have d1 := k5.cell_ 1 rfl
 have d2 := k5.cell_ 2 rfl
 have d3 := k5.cell_ 3 rfl
 have n0 := putB_length 2 h.id
 have n1 := putB_length 2 h.num
 generalize hp : putB 2 h.id = p at *
 generalize hq : putB 2 h.num = q at *
 have Hp := Hh hp
 have Hq := Hh hq
 have pl : p.length ≤ 2 := by omega
 have ql : q.length ≤ 2 := by omega
 clear hp hq n0 n1 k2 k3 k4 k5 e0 hBW hB2 b2 b3
 go_wp2_with fail
 refine wp_loop_rounds 5 ?_
 rw [rounds_succ]
 go_wp2_with fail
 refine (within_yes _ _ _ g0).mono ?_
 rintro e w' ⟨rfl, rfl⟩
 go_wp2_with fail
 refine (put_any _ _ _).mono ?_
 rintro e v0 ⟨rfl, a0⟩
 rw [show hw 2 = 2 from rfl]
 have hC0 := below_then hB3 hB3.size a0
 have z0 := putB_length 2 c0
 generalize hz0 : putB 2 c0 = y0 at *
 have Hz0 := Hh hz0
 have yl0 : y0.length ≤ 2 := by omega
 clear hz0 z0
 go_wp2_with fail
 rw [rounds_succ]
 go_wp2_with fail
 refine (within_yes _ _ _ g1).mono ?_
 rintro e w' ⟨rfl, rfl⟩
 go_wp2_with fail
 refine (put_any _ _ _).mono ?_
 rintro e v1 ⟨rfl, a1⟩
 rw [show hw 2 = 2 from rfl]
 have hC1 := below_then hC0 hC0.size a1
 have z1 := putB_length 2 c1
 generalize hz1 : putB 2 c1 = y1 at *
 have Hz1 := Hh hz1
 have yl1 : y1.length ≤ 2 := by omega
 clear hz1 z1
 go_wp2_with fail
 rw [rounds_succ]
 go_wp2_with fail
 refine (within_yes _ _ _ g2).mono ?_
 rintro e w' ⟨rfl, rfl⟩
 go_wp2_with fail
 refine (put_any _ _ _).mono ?_
 rintro e v2 ⟨rfl, a2⟩
 rw [show hw 2 = 2 from rfl]
 have hC2 := below_then hC1 hC1.size a2
 have z2 := putB_length 2 c2
 generalize hz2 : putB 2 c2 = y2 at *
 have Hz2 := Hh hz2
 have yl2 : y2.length ≤ 2 := by omega
 clear hz2 z2
 go_wp2_with fail
 rw [rounds_succ]
 go_wp2_with fail
 refine (within_no _ _ _ g3).mono ?_
 rintro e w' ⟨rfl, rfl⟩
 go_wp2_with fail
 go_ret2
 exact RetB.mk rfl hC2
def putRes (h : Hd) (c0 c1 c2 c3 : Int) : List UInt8 × Int :=
 if h.ok = true ∧ (0 ≤ c0 ∧ c0 ≤ 65535) ∧ (0 ≤ c1 ∧ c1 ≤ 65535) ∧ (0 ≤ c2 ∧ c2 ≤ 65535) ∧ (0 ≤ c3 ∧ c3 ≤ 65535) then (putHead h c0 c1 c2 c3, 0) else ([], 4)
theorem headPut_any (h : Hd) (c0 c1 c2 c3 : Int) (w : World) :
  Calls prog 166 #[h.agg, cnts c0 c1 c2 c3] w (RetB (.tuple #[.string (bs (putRes h c0 c1 c2 c3).1), .int .i64 (putRes h c0 c1 c2 c3).2]) w) := by
 unfold putRes
 cases hk : h.ok with
 | false => rw [if_neg (by simp)]; exact headPut_bad h c0 c1 c2 c3 w hk
 | true =>
  by_cases g0 : 0 ≤ c0 ∧ c0 ≤ 65535
  ·
   by_cases g1 : 0 ≤ c1 ∧ c1 ≤ 65535
   ·
    by_cases g2 : 0 ≤ c2 ∧ c2 ≤ 65535
    ·
     by_cases g3 : 0 ≤ c3 ∧ c3 ≤ 65535
     ·
      rw [if_pos ⟨rfl, g0, g1, g2, g3⟩]; exact headPut_ok h c0 c1 c2 c3 w hk g0 g1 g2 g3
     ·
      rw [if_neg (fun hh => g3 hh.2.2.2.2)]; exact headPut_bad3 h c0 c1 c2 c3 w hk g0 g1 g2 g3
    ·
     rw [if_neg (fun hh => g2 hh.2.2.2.1)]; exact headPut_bad2 h c0 c1 c2 c3 w hk g0 g1 g2
   ·
    rw [if_neg (fun hh => g1 hh.2.2.1)]; exact headPut_bad1 h c0 c1 c2 c3 w hk g0 g1
  ·
   rw [if_neg (fun hh => g0 hh.2.1)]; exact headPut_bad0 h c0 c1 c2 c3 w hk g0
end Go.Proofs.YthnbcmlnpdabhaaGreat

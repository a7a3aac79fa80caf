/-
  HeadGets, HeadBack: heads are read as the reference reads them, and got as they were put.
-/
import Derived.Test.YtokcfkfkpcgliaaHead5
import Derived.Test.YtokcfkfkpcgliaaArrEq
namespace Go.Proofs.Ytokcfkfkpcgliaa
open Go.RowKit
set_option maxRecDepth 100000

/-- What Get tells. -/
def getH (l : List UInt8) : Hd := if l.length < 12 then Hd.zero else hdOf (at2 l 0) (at2 l 2)
def getC (l : List UInt8) (k : Nat) : Int := if l.length < 12 then 0 else at2 l k
def getE (l : List UInt8) : Int := if l.length < 12 then 1 else 0
theorem headGet_any (l : List UInt8) (w : World) (hm : l.length ≤ maxLen) :
    Calls Try.prog 33 #[.string (bs l)] w (RetB (.tuple #[(getH l).agg, cnts (getC l 4) (getC l 6) (getC l 8) (getC l 10), .int .i64 (getE l)]) w) := by
  unfold getH getC getE
  by_cases h : l.length < 12
  · simp only [h, if_true]; exact headGet_short l w h
  · simp only [h, if_false]; exact headGet_long l w (by omega) hm
theorem refHeadGet_any (l : List UInt8) (w : World) :
    Calls Try.prog 34 #[.string (bs l)] w (RetB (.tuple #[(getH l).agg, cnts (getC l 4) (getC l 6) (getC l 8) (getC l 10), .int .i64 (getE l)]) w) := by
  unfold getH getC getE
  by_cases h : l.length < 12
  · simp only [h, if_true]; exact refGet_short l w h
  · simp only [h, if_false]; exact refGet_long l w (by omega)

theorem works11 (w : World) : Calls Try.prog 32 #[] w (RetB (.bool true) w) := by
  go_enter Try.func32, Try.ntmps32
  go_wp2_with fail
  refine (headPut_any ⟨1, false, 0, false, false, true, false, false, false, 0⟩ 1 0 0 0 _).mono ?_
  rw [show putRes ⟨1, false, 0, false, false, true, false, false, false, 0⟩ 1 0 0 0 = ([0, 1, 1, 0, 0, 1, 0, 0, 0, 0, 0, 0], 0) by decide]
  rintro e w1 ⟨rfl, b1⟩
  go_wp2_with fail
  go_ret
  exact RetB.mk rfl b1

set_option maxHeartbeats 1000000 in
theorem headGets_any (l : List UInt8) (w : World) (hm : l.length ≤ maxLen) : Calls Try.prog 6 #[.string (bs l)] w (RetB (.bool true) w) := by
  by_cases hl : 100 < l.length
  · have hl' : (100 : Int) < l.length := by omega
    go_enter Try.func6, Try.ntmps6
    go_wp2_with fail
    refine (works11 _).mono ?_
    rintro e w1 ⟨rfl, b1⟩
    go_wp2_with fail
    go_ret
    exact RetB.mk rfl b1
  · have hl' : (l.length : Int) ≤ 100 := by omega
    go_enter Try.func6, Try.ntmps6
    go_wp2_with fail
    refine (headGet_any l _ hm).mono ?_
    rintro e w1 ⟨rfl, b1⟩
    have c2 := refHeadGet_any l
    generalize getH l = hh at *
    generalize getC l 4 = x0 at *
    generalize getC l 6 = x1 at *
    generalize getC l 8 = x2 at *
    generalize getC l 10 = x3 at *
    generalize getE l = ee at *
    obtain ⟨id, qr, op, aa, tc, rd, ra, ad, cd, rc⟩ := hh
    simp only [Hd.agg, cnts] at c2 ⊢
    have C := Lib.hid c2
    clear c2
    go_wp2_with fail
    refine (C.out _).mono ?_
    rintro e w2 ⟨rfl, b2⟩
    have p0 : Blk w2 w1.heap.size 50 [.int .i64 id, .bool qr, .int .i64 op, .bool aa, .bool tc, .bool rd, .bool ra, .bool ad, .bool cd, .int .i64 rc] := ((Blk.new w1 _ [.int .i64 id, .bool qr, .int .i64 op, .bool aa, .bool tc, .bool rd, .bool ra, .bool ad, .bool cd, .int .i64 rc]).alloc _).below b2 (by simp; omega)
    have p1 : Blk w2 (w1.heap.size + 1) 51 [.int .i64 x0, .int .i64 x1, .int .i64 x2, .int .i64 x3] := (Blk.new' _ _ [.int .i64 x0, .int .i64 x1, .int .i64 x2, .int .i64 x3] _ (by simp)).below b2 (by simp)
    have hB2 : Below w.heap.size w w2 := below_then ((b1.alloc b1.size _).alloc (by have := b1.size; simp; omega) _) (by have := b1.size; simp; omega) b2
    clear b2
    go_wp2_with fail
    refine (works11 _).mono ?_
    rintro e w3 ⟨rfl, b3⟩
    have q0 := ((p0.alloc _).alloc _).below b3 (by have := p0.lt; simp; omega)
    have q1 := ((p1.alloc _).alloc _).below b3 (by have := p1.lt; simp; omega)
    have q2 : Blk w3 w2.heap.size 50 [.int .i64 id, .bool qr, .int .i64 op, .bool aa, .bool tc, .bool rd, .bool ra, .bool ad, .bool cd, .int .i64 rc] := ((Blk.new w2 _ [.int .i64 id, .bool qr, .int .i64 op, .bool aa, .bool tc, .bool rd, .bool ra, .bool ad, .bool cd, .int .i64 rc]).alloc _).below b3 (by simp; omega)
    have q3 : Blk w3 (w2.heap.size + 1) 51 [.int .i64 x0, .int .i64 x1, .int .i64 x2, .int .i64 x3] := (Blk.new' _ _ [.int .i64 x0, .int .i64 x1, .int .i64 x2, .int .i64 x3] _ (by simp)).below b3 (by simp)
    have hB3 : Below w.heap.size w w3 := below_then ((hB2.alloc hB2.size _).alloc (by have := hB2.size; simp; omega) _) (by have := hB2.size; simp; omega) b3
    clear b3 p0 p1 hB2 C b1
    have u0 := q0.cell_ 0 rfl
    have v0 := q2.cell_ 0 rfl
    have u1 := q0.cell_ 1 rfl
    have v1 := q2.cell_ 1 rfl
    have u2 := q0.cell_ 2 rfl
    have v2 := q2.cell_ 2 rfl
    have u3 := q0.cell_ 3 rfl
    have v3 := q2.cell_ 3 rfl
    have u4 := q0.cell_ 4 rfl
    have v4 := q2.cell_ 4 rfl
    have u5 := q0.cell_ 5 rfl
    have v5 := q2.cell_ 5 rfl
    have u6 := q0.cell_ 6 rfl
    have v6 := q2.cell_ 6 rfl
    have u7 := q0.cell_ 7 rfl
    have v7 := q2.cell_ 7 rfl
    have u8 := q0.cell_ 8 rfl
    have v8 := q2.cell_ 8 rfl
    have u9 := q0.cell_ 9 rfl
    have v9 := q2.cell_ 9 rfl
    have r0 := q1.cell_ 0 rfl
    have s0 := q3.cell_ 0 rfl
    have r1 := q1.cell_ 1 rfl
    have s1 := q3.cell_ 1 rfl
    have r2 := q1.cell_ 2 rfl
    have s2 := q3.cell_ 2 rfl
    have r3 := q1.cell_ 3 rfl
    have s3 := q3.cell_ 3 rfl
    have eq4 : ∀ w : World, (binOp .eql 51 (.agg #[.int .i64 x0, .int .i64 x1, .int .i64 x2, .int .i64 x3]) (.agg #[.int .i64 x0, .int .i64 x1, .int .i64 x2, .int .i64 x3])).run Try.prog w = .ok (.bool true) w := fun w => by rw [eql_int4]; simp
    go_wp2_with fail
    go_ret
    exact RetB.mk rfl hB3

/-- What a Put that may be is got as. -/
theorem bitw01 (b : Bool) (n : Int) : ∃ x : Int, bitw b n = n * x ∧ 0 ≤ x ∧ x ≤ 1 ∧ (x == 1) = b := by
  cases b
  · exact ⟨0, by simp [bitw], by omega, by omega, rfl⟩
  · exact ⟨1, by simp [bitw], by omega, by omega, rfl⟩
theorem hd_ok_iff (h : Hd) : h.ok = true ↔ (0 ≤ h.id ∧ h.id ≤ 65535) ∧ (0 ≤ h.op ∧ h.op ≤ 15) ∧ (0 ≤ h.rc ∧ h.rc ≤ 15) := by simp [Hd.ok, and_assoc]
theorem hd_num_lt (h : Hd) (hk : h.ok = true) : 0 ≤ h.num ∧ h.num ≤ 65535 := by
  obtain ⟨_, ⟨o0, o1⟩, ⟨r0, r1⟩⟩ := (hd_ok_iff h).1 hk
  have a := bitw_le h.qr 32768 (by decide)
  have b := bitw_le h.aa 1024 (by decide)
  have c := bitw_le h.tc 512 (by decide)
  have d := bitw_le h.rd 256 (by decide)
  have e := bitw_le h.ra 128 (by decide)
  have f := bitw_le h.ad 32 (by decide)
  have g := bitw_le h.cd 16 (by decide)
  unfold Hd.num
  omega
theorem numB2 (n : Int) (h : 0 ≤ n ∧ n ≤ 65535) : (numB (putB 2 n) : Int) = n := by
  rw [numB_putB]
  have : ((256 ^ 2 : Nat) : Int) = 65536 := rfl
  rw [this]; omega
theorem num_bits (h : Hd) (hk : h.ok = true) : hdOf (numB (putB 2 h.id)) (numB (putB 2 h.num)) = h := by
  have hn := numB2 h.num (hd_num_lt h hk)
  obtain ⟨hi, ⟨o0, o1⟩, ⟨r0, r1⟩⟩ := (hd_ok_iff h).1 hk
  have hid := numB2 h.id hi
  generalize numB (putB 2 h.num) = N at *
  generalize numB (putB 2 h.id) = I at *
  obtain ⟨id, qr, op, aa, tc, rd, ra, ad, cd, rc⟩ := h
  simp only [Hd.num] at *
  obtain ⟨x1, e1, p1, q1, rfl⟩ := bitw01 qr 32768
  obtain ⟨x2, e2, p2, q2, rfl⟩ := bitw01 aa 1024
  obtain ⟨x3, e3, p3, q3, rfl⟩ := bitw01 tc 512
  obtain ⟨x4, e4, p4, q4, rfl⟩ := bitw01 rd 256
  obtain ⟨x5, e5, p5, q5, rfl⟩ := bitw01 ra 128
  obtain ⟨x6, e6, p6, q6, rfl⟩ := bitw01 ad 32
  obtain ⟨x7, e7, p7, q7, rfl⟩ := bitw01 cd 16
  rw [e1, e2, e3, e4, e5, e6, e7] at hn
  have key : ∀ (k : Nat) (x : Int), (0 ≤ x ∧ x ≤ 1) → (N : Int) / (k : Int) % 2 = x → bitv N k = (x == 1) := by
    intro k x hx he
    rw [← bitvI, he]
  simp only [hdOf, Hd.mk.injEq]
  refine ⟨hid, key 32768 x1 ⟨p1, q1⟩ ?_, ?_, key 1024 x2 ⟨p2, q2⟩ ?_, key 512 x3 ⟨p3, q3⟩ ?_, key 256 x4 ⟨p4, q4⟩ ?_, key 128 x5 ⟨p5, q5⟩ ?_, key 32 x6 ⟨p6, q6⟩ ?_, key 16 x7 ⟨p7, q7⟩ ?_, ?_⟩
  all_goals omega
theorem at2_cut (a b c : List UInt8) (k : Nat) (ha : a.length = k) (hb : b.length = 2) : at2 (a ++ (b ++ c)) k = numB b := by
  subst ha
  unfold at2
  rw [List.drop_left, ← hb, List.take_left]
theorem at2_put (h : Hd) (c0 c1 c2 c3 : Int) (more : List UInt8) : at2 (putHead h c0 c1 c2 c3 ++ more) 0 = numB (putB 2 h.id) ∧ at2 (putHead h c0 c1 c2 c3 ++ more) 2 = numB (putB 2 h.num) ∧ at2 (putHead h c0 c1 c2 c3 ++ more) 4 = numB (putB 2 c0) ∧
    at2 (putHead h c0 c1 c2 c3 ++ more) 6 = numB (putB 2 c1) ∧ at2 (putHead h c0 c1 c2 c3 ++ more) 8 = numB (putB 2 c2) ∧ at2 (putHead h c0 c1 c2 c3 ++ more) 10 = numB (putB 2 c3) := by
  have l := putB_length 2
  unfold putHead
  refine ⟨?_, ?_, ?_, ?_, ?_, ?_⟩
  · have := at2_cut [] (putB 2 h.id) (putB 2 h.num ++ putB 2 c0 ++ putB 2 c1 ++ putB 2 c2 ++ putB 2 c3 ++ more) 0 rfl (l _)
    simpa [List.append_assoc] using this
  · have := at2_cut (putB 2 h.id) (putB 2 h.num) (putB 2 c0 ++ putB 2 c1 ++ putB 2 c2 ++ putB 2 c3 ++ more) 2 (l _) (l _)
    simpa [List.append_assoc] using this
  · have := at2_cut (putB 2 h.id ++ putB 2 h.num) (putB 2 c0) (putB 2 c1 ++ putB 2 c2 ++ putB 2 c3 ++ more) 4 (by simp [l]) (l _)
    simpa [List.append_assoc] using this
  · have := at2_cut (putB 2 h.id ++ putB 2 h.num ++ putB 2 c0) (putB 2 c1) (putB 2 c2 ++ putB 2 c3 ++ more) 6 (by simp [l]) (l _)
    simpa [List.append_assoc] using this
  · have := at2_cut (putB 2 h.id ++ putB 2 h.num ++ putB 2 c0 ++ putB 2 c1) (putB 2 c2) (putB 2 c3 ++ more) 8 (by simp [l]) (l _)
    simpa [List.append_assoc] using this
  · have := at2_cut (putB 2 h.id ++ putB 2 h.num ++ putB 2 c0 ++ putB 2 c1 ++ putB 2 c2) (putB 2 c3) more 10 (by simp [l]) (l _)
    simpa [List.append_assoc] using this
theorem get_put (h : Hd) (c0 c1 c2 c3 : Int) (more : List UInt8) (hk : h.ok = true) (g0 : 0 ≤ c0 ∧ c0 ≤ 65535) (g1 : 0 ≤ c1 ∧ c1 ≤ 65535) (g2 : 0 ≤ c2 ∧ c2 ≤ 65535) (g3 : 0 ≤ c3 ∧ c3 ≤ 65535) :
    getH (putHead h c0 c1 c2 c3 ++ more) = h ∧ getC (putHead h c0 c1 c2 c3 ++ more) 4 = c0 ∧ getC (putHead h c0 c1 c2 c3 ++ more) 6 = c1 ∧ getC (putHead h c0 c1 c2 c3 ++ more) 8 = c2 ∧ getC (putHead h c0 c1 c2 c3 ++ more) 10 = c3 ∧ getE (putHead h c0 c1 c2 c3 ++ more) = 0 := by
  have hl : ¬ (putHead h c0 c1 c2 c3 ++ more).length < 12 := by simp [putHead, putB_length]; omega
  obtain ⟨a0, a2, a4, a6, a8, a10⟩ := at2_put h c0 c1 c2 c3 more
  unfold getH getC getE
  simp only [hl, if_false, a0, a2, a4, a6, a8, a10]
  exact ⟨num_bits h hk, numB2 c0 g0, numB2 c1 g1, numB2 c2 g2, numB2 c3 g3, trivial⟩

theorem held_stepX {A W w1 : World} (h : Below A.heap.size A W) (b : Below W.heap.size W w1) : Below A.heap.size A w1 := h.trans (b.mono h.size)
theorem both {p q : Prop} (h : p) (f : p → q) : p ∧ q := ⟨h, f h⟩
def Hd.err (h : Hd) : Int := if h.ok then 0 else 4
set_option maxHeartbeats 1000000 in
theorem headBack_bad (h : Hd) (c0 c1 c2 c3 : Int) (more : List UInt8) (w : World) (hm : more.length ≤ 100) (hr : putRes h c0 c1 c2 c3 = ([], 4)) :
    Calls Try.prog 7 #[h.agg, cnts c0 c1 c2 c3, .string (bs more)] w (RetB (.bool true) w) := by
  have hm' : (more.length : Int) ≤ 100 := by omega
  have P1 := headPut_any h c0 c1 c2 c3
  have P2 := refHeadPut_any h c0 c1 c2 c3
  rw [hr] at P1 P2
  replace P1 := Lib.hid P1
  replace P2 := Lib.hid P2
  clear hr
  simp only [Hd.agg, cnts]
  go_enter Try.func7, Try.ntmps7
  go_wp2_with fail
  refine (P1.out _).mono ?_
  rintro e w1 ⟨rfl, b1⟩
  have k0 : Blk w1 w.heap.size 50 h.vals := ((Blk.new w _ h.vals).alloc _).below b1 (by simp; omega)
  have k1 : Blk w1 (w.heap.size + 1) 51 [.int .i64 c0, .int .i64 c1, .int .i64 c2, .int .i64 c3] := (Blk.new' _ _ [.int .i64 c0, .int .i64 c1, .int .i64 c2, .int .i64 c3] _ (by simp)).below b1 (by simp)
  have hB1 : Below w.heap.size w w1 := below_then (by go_grown) (by simp; omega) b1
  clear b1
  have u0 := k0.cell_ 0 rfl
  have u1 := k0.cell_ 1 rfl
  have u2 := k0.cell_ 2 rfl
  have u3 := k0.cell_ 3 rfl
  have u4 := k0.cell_ 4 rfl
  have u5 := k0.cell_ 5 rfl
  have u6 := k0.cell_ 6 rfl
  have u7 := k0.cell_ 7 rfl
  have u8 := k0.cell_ 8 rfl
  have u9 := k0.cell_ 9 rfl
  have v0 := k1.cell_ 0 rfl
  have v1 := k1.cell_ 1 rfl
  have v2 := k1.cell_ 2 rfl
  have v3 := k1.cell_ 3 rfl
  go_wp2_with fail
  refine (P2.out _).mono ?_
  rintro e w2 ⟨rfl, b2⟩
  have hB2 := below_then hB1 hB1.size b2
  have m0 := k0.below b2 k0.lt
  have m1 := k1.below b2 k1.lt
  clear u0 u1 u2 u3 u4 u5 u6 u7 u8 u9 v0 v1 v2 v3 k0 k1 b2 hB1
  have u0 := m0.cell_ 0 rfl
  have u1 := m0.cell_ 1 rfl
  have u2 := m0.cell_ 2 rfl
  have u3 := m0.cell_ 3 rfl
  have u4 := m0.cell_ 4 rfl
  have u5 := m0.cell_ 5 rfl
  have u6 := m0.cell_ 6 rfl
  have u7 := m0.cell_ 7 rfl
  have u8 := m0.cell_ 8 rfl
  have u9 := m0.cell_ 9 rfl
  have hlt0 := m0.lt
  have hS : ∀ W, Below w2.heap.size w2 W → (W.cell? ⟨w.heap.size, 0, none⟩ = some (.int .i64 h.id) ∧ W.cell? ⟨w.heap.size, 1, none⟩ = some (.bool h.qr) ∧ W.cell? ⟨w.heap.size, 2, none⟩ = some (.int .i64 h.op) ∧ W.cell? ⟨w.heap.size, 3, none⟩ = some (.bool h.aa) ∧ W.cell? ⟨w.heap.size, 4, none⟩ = some (.bool h.tc) ∧ W.cell? ⟨w.heap.size, 5, none⟩ = some (.bool h.rd) ∧ W.cell? ⟨w.heap.size, 6, none⟩ = some (.bool h.ra) ∧ W.cell? ⟨w.heap.size, 7, none⟩ = some (.bool h.ad) ∧ W.cell? ⟨w.heap.size, 8, none⟩ = some (.bool h.cd) ∧ W.cell? ⟨w.heap.size, 9, none⟩ = some (.int .i64 h.rc)) := fun W hb => ⟨(hb.cell hlt0).trans u0, (hb.cell hlt0).trans u1, (hb.cell hlt0).trans u2, (hb.cell hlt0).trans u3, (hb.cell hlt0).trans u4, (hb.cell hlt0).trans u5, (hb.cell hlt0).trans u6, (hb.cell hlt0).trans u7, (hb.cell hlt0).trans u8, (hb.cell hlt0).trans u9⟩
  have HS := Lib.hid hS
  clear hS
  have K1 : ∀ w, Calls Try.prog 37 #[h.agg] w (RetB (.int .i64 h.err) w) := check_any h
  have K2 : ∀ w, Calls Try.prog 38 #[h.agg] w (RetB (.int .i64 h.err) w) := refCheck_any h
  go_wp2_with fail
  go_region_held3 (fun w' => Below w2.heap.size w2 w' ∧ w'.cell? ⟨w.heap.size, 0, none⟩ = some (.int .i64 h.id) ∧ w'.cell? ⟨w.heap.size, 1, none⟩ = some (.bool h.qr) ∧ w'.cell? ⟨w.heap.size, 2, none⟩ = some (.int .i64 h.op) ∧ w'.cell? ⟨w.heap.size, 3, none⟩ = some (.bool h.aa) ∧ w'.cell? ⟨w.heap.size, 4, none⟩ = some (.bool h.tc) ∧ w'.cell? ⟨w.heap.size, 5, none⟩ = some (.bool h.rd) ∧ w'.cell? ⟨w.heap.size, 6, none⟩ = some (.bool h.ra) ∧ w'.cell? ⟨w.heap.size, 7, none⟩ = some (.bool h.ad) ∧ w'.cell? ⟨w.heap.size, 8, none⟩ = some (.bool h.cd) ∧ w'.cell? ⟨w.heap.size, 9, none⟩ = some (.int .i64 h.rc)) ((refine both ?_ (HS.out _); first | exact (Below.refl _ _).drew | exact held_stepX (And.left ‹Below w2.heap.size w2 _ ∧ _›) b3))
    (first
      | (go_at_call 32; refine (works11 _).mono ?_; rintro e w3 ⟨rfl, b3⟩)
      | (go_at_call 37; refine (K1 _).mono ?_; rintro e w3 ⟨rfl, b3⟩)
      | (go_at_call 38; refine (K2 _).mono ?_; rintro e w3 ⟨rfl, b3⟩))
  have hB3 := below_then hB2 hB2.size (And.left ‹Below w2.heap.size w2 _ ∧ _›)
  go_wp2_with fail
  go_ret
  exact RetB.mk rfl hB3
set_option maxHeartbeats 1000000 in
theorem headBack_ok (h : Hd) (c0 c1 c2 c3 : Int) (more : List UInt8) (w : World) (hm : more.length ≤ 100) (hk : h.ok = true) (g0 : 0 ≤ c0 ∧ c0 ≤ 65535) (g1 : 0 ≤ c1 ∧ c1 ≤ 65535) (g2 : 0 ≤ c2 ∧ c2 ≤ 65535) (g3 : 0 ≤ c3 ∧ c3 ≤ 65535) :
    Calls Try.prog 7 #[h.agg, cnts c0 c1 c2 c3, .string (bs more)] w (RetB (.bool true) w) := by
  have hm' : (more.length : Int) ≤ 100 := by omega
  have G := get_put h c0 c1 c2 c3 more hk g0 g1 g2 g3
  have hlen : (putHead h c0 c1 c2 c3).length = 12 := by simp [putHead, putB_length]
  have P1 := headPut_any h c0 c1 c2 c3
  have P2 := refHeadPut_any h c0 c1 c2 c3
  rw [show putRes h c0 c1 c2 c3 = (putHead h c0 c1 c2 c3, 0) from if_pos ⟨hk, g0, g1, g2, g3⟩] at P1 P2
  replace P1 := Lib.hid P1
  replace P2 := Lib.hid P2
  have P3 := headGet_any (putHead h c0 c1 c2 c3 ++ more)
  rw [G.1, G.2.1, G.2.2.1, G.2.2.2.1, G.2.2.2.2.1, G.2.2.2.2.2] at P3
  replace P3 := Lib.hid P3
  generalize putHead h c0 c1 c2 c3 = s at *
  have hs12 : s.length ≤ 12 := by omega
  clear hk g0 g1 g2 g3 G hlen
  simp only [Hd.agg, cnts]
  go_enter Try.func7, Try.ntmps7
  go_wp2_with fail
  refine (P1.out _).mono ?_
  rintro e w1 ⟨rfl, b1⟩
  have k0 : Blk w1 w.heap.size 50 h.vals := ((Blk.new w _ h.vals).alloc _).below b1 (by simp; omega)
  have k1 : Blk w1 (w.heap.size + 1) 51 [.int .i64 c0, .int .i64 c1, .int .i64 c2, .int .i64 c3] := (Blk.new' _ _ [.int .i64 c0, .int .i64 c1, .int .i64 c2, .int .i64 c3] _ (by simp)).below b1 (by simp)
  have hB1 : Below w.heap.size w w1 := below_then (by go_grown) (by simp; omega) b1
  clear b1
  have u0 := k0.cell_ 0 rfl
  have u1 := k0.cell_ 1 rfl
  have u2 := k0.cell_ 2 rfl
  have u3 := k0.cell_ 3 rfl
  have u4 := k0.cell_ 4 rfl
  have u5 := k0.cell_ 5 rfl
  have u6 := k0.cell_ 6 rfl
  have u7 := k0.cell_ 7 rfl
  have u8 := k0.cell_ 8 rfl
  have u9 := k0.cell_ 9 rfl
  have v0 := k1.cell_ 0 rfl
  have v1 := k1.cell_ 1 rfl
  have v2 := k1.cell_ 2 rfl
  have v3 := k1.cell_ 3 rfl
  go_wp2_with fail
  refine (P2.out _).mono ?_
  rintro e w2 ⟨rfl, b2⟩
  have hB2 := below_then hB1 hB1.size b2
  have m0 := k0.below b2 k0.lt
  have m1 := k1.below b2 k1.lt
  clear u0 u1 u2 u3 u4 u5 u6 u7 u8 u9 v0 v1 v2 v3 k0 k1 b2 hB1
  have u0 := m0.cell_ 0 rfl
  have u1 := m0.cell_ 1 rfl
  have u2 := m0.cell_ 2 rfl
  have u3 := m0.cell_ 3 rfl
  have u4 := m0.cell_ 4 rfl
  have u5 := m0.cell_ 5 rfl
  have u6 := m0.cell_ 6 rfl
  have u7 := m0.cell_ 7 rfl
  have u8 := m0.cell_ 8 rfl
  have u9 := m0.cell_ 9 rfl
  have hlt0 := m0.lt
  have hS : ∀ W, Below w2.heap.size w2 W → (W.cell? ⟨w.heap.size, 0, none⟩ = some (.int .i64 h.id) ∧ W.cell? ⟨w.heap.size, 1, none⟩ = some (.bool h.qr) ∧ W.cell? ⟨w.heap.size, 2, none⟩ = some (.int .i64 h.op) ∧ W.cell? ⟨w.heap.size, 3, none⟩ = some (.bool h.aa) ∧ W.cell? ⟨w.heap.size, 4, none⟩ = some (.bool h.tc) ∧ W.cell? ⟨w.heap.size, 5, none⟩ = some (.bool h.rd) ∧ W.cell? ⟨w.heap.size, 6, none⟩ = some (.bool h.ra) ∧ W.cell? ⟨w.heap.size, 7, none⟩ = some (.bool h.ad) ∧ W.cell? ⟨w.heap.size, 8, none⟩ = some (.bool h.cd) ∧ W.cell? ⟨w.heap.size, 9, none⟩ = some (.int .i64 h.rc)) := fun W hb => ⟨(hb.cell hlt0).trans u0, (hb.cell hlt0).trans u1, (hb.cell hlt0).trans u2, (hb.cell hlt0).trans u3, (hb.cell hlt0).trans u4, (hb.cell hlt0).trans u5, (hb.cell hlt0).trans u6, (hb.cell hlt0).trans u7, (hb.cell hlt0).trans u8, (hb.cell hlt0).trans u9⟩
  have HS := Lib.hid hS
  clear hS
  have K1 : ∀ w, Calls Try.prog 37 #[h.agg] w (RetB (.int .i64 h.err) w) := check_any h
  have K2 : ∀ w, Calls Try.prog 38 #[h.agg] w (RetB (.int .i64 h.err) w) := refCheck_any h
  go_wp2_with fail
  go_region_held3 (fun w' => Below w2.heap.size w2 w' ∧ w'.cell? ⟨w.heap.size, 0, none⟩ = some (.int .i64 h.id) ∧ w'.cell? ⟨w.heap.size, 1, none⟩ = some (.bool h.qr) ∧ w'.cell? ⟨w.heap.size, 2, none⟩ = some (.int .i64 h.op) ∧ w'.cell? ⟨w.heap.size, 3, none⟩ = some (.bool h.aa) ∧ w'.cell? ⟨w.heap.size, 4, none⟩ = some (.bool h.tc) ∧ w'.cell? ⟨w.heap.size, 5, none⟩ = some (.bool h.rd) ∧ w'.cell? ⟨w.heap.size, 6, none⟩ = some (.bool h.ra) ∧ w'.cell? ⟨w.heap.size, 7, none⟩ = some (.bool h.ad) ∧ w'.cell? ⟨w.heap.size, 8, none⟩ = some (.bool h.cd) ∧ w'.cell? ⟨w.heap.size, 9, none⟩ = some (.int .i64 h.rc)) ((refine both ?_ (HS.out _); first | exact (Below.refl _ _).drew | exact held_stepX (And.left ‹Below w2.heap.size w2 _ ∧ _›) b3))
    (first
      | (go_at_call 32; refine (works11 _).mono ?_; rintro e w3 ⟨rfl, b3⟩)
      | (go_at_call 37; refine (K1 _).mono ?_; rintro e w3 ⟨rfl, b3⟩)
      | (go_at_call 38; refine (K2 _).mono ?_; rintro e w3 ⟨rfl, b3⟩))
  have hbw := And.left ‹Below w2.heap.size w2 _ ∧ _›
  have hB3 := below_then hB2 hB2.size hbw
  have n0 := m0.below hbw m0.lt
  have n1 := m1.below hbw m1.lt
  clear K1 K2 HS u0 u1 u2 u3 u4 u5 u6 u7 u8 u9 m0 m1 hlt0
  clear ‹Below w2.heap.size w2 _ ∧ _›
  go_wp2_with fail
  refine (P3.out _ (by simp only [List.length_append, maxLen]; omega)).mono ?_
  rintro e w4 ⟨rfl, b4⟩
  have o0 := (n0.below b4 n0.lt)
  have o1 := (n1.below b4 n1.lt)
  have hB4 := below_then hB3 hB3.size b4
  have hlo := o1.lt
  clear n0 n1 b4 hB3 hB2 P1 P2 P3
  simp only [Hd.agg, cnts]
  have eq4 : ∀ w : World, (binOp .eql 51 (.agg #[.int .i64 c0, .int .i64 c1, .int .i64 c2, .int .i64 c3]) (.agg #[.int .i64 c0, .int .i64 c1, .int .i64 c2, .int .i64 c3])).run Try.prog w = .ok (.bool true) w := fun w => by rw [eql_int4]; simp
  have x0 : ∀ o, ∀ o', Blk ((w4.alloc o).alloc o') w.heap.size 50 h.vals := fun o o' => (o0.alloc _).alloc _
  have x1 : ∀ o, ∀ o', Blk ((w4.alloc o).alloc o') (w.heap.size + 1) 51 [.int .i64 c0, .int .i64 c1, .int .i64 c2, .int .i64 c3] := fun o o' => (o1.alloc _).alloc _
  have u0 := fun o o' => (x0 o o').cell_ 0 rfl
  have u1 := fun o o' => (x0 o o').cell_ 1 rfl
  have u2 := fun o o' => (x0 o o').cell_ 2 rfl
  have u3 := fun o o' => (x0 o o').cell_ 3 rfl
  have u4 := fun o o' => (x0 o o').cell_ 4 rfl
  have u5 := fun o o' => (x0 o o').cell_ 5 rfl
  have u6 := fun o o' => (x0 o o').cell_ 6 rfl
  have u7 := fun o o' => (x0 o o').cell_ 7 rfl
  have u8 := fun o o' => (x0 o o').cell_ 8 rfl
  have u9 := fun o o' => (x0 o o').cell_ 9 rfl
  have v0 := fun o o' => (x1 o o').cell_ 0 rfl
  have v1 := fun o o' => (x1 o o').cell_ 1 rfl
  have v2 := fun o o' => (x1 o o').cell_ 2 rfl
  have v3 := fun o o' => (x1 o o').cell_ 3 rfl
  clear x0 x1 o0 o1
  go_wp2_with fail
  go_ret
  exact RetB.mk rfl (by go_grown)

theorem headBack_any (h : Hd) (c0 c1 c2 c3 : Int) (more : List UInt8) (w : World) :
    Calls Try.prog 7 #[h.agg, cnts c0 c1 c2 c3, .string (bs more)] w (RetB (.bool true) w) := by
  by_cases hm : more.length ≤ 100
  · by_cases hk : h.ok = true ∧ (0 ≤ c0 ∧ c0 ≤ 65535) ∧ (0 ≤ c1 ∧ c1 ≤ 65535) ∧ (0 ≤ c2 ∧ c2 ≤ 65535) ∧ (0 ≤ c3 ∧ c3 ≤ 65535)
    · obtain ⟨hk, g0, g1, g2, g3⟩ := hk
      exact headBack_ok h c0 c1 c2 c3 more w hm hk g0 g1 g2 g3
    · exact headBack_bad h c0 c1 c2 c3 more w hm (if_neg hk)
  · have hm' : (100 : Int) < more.length := by omega
    simp only [Hd.agg, cnts]
    go_enter Try.func7, Try.ntmps7
    go_wp2_with fail
    refine (works11 _).mono ?_
    rintro e w1 ⟨rfl, b1⟩
    go_wp2_with fail
    go_ret
    exact RetB.mk rfl (below_then (by go_grown) (by simp; omega) b1)
end Go.Proofs.Ytokcfkfkpcgliaa

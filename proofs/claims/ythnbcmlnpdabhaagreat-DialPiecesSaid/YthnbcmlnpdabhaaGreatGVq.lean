/-
  The reference's layer 13: Put, of an SOA apart.
-/
import Derived.Test.YthnbcmlnpdabhaaGreatGUq
namespace Go.Proofs.YthnbcmlnpdabhaaGreat
open _root_.Go.Proofs.Tryz
open Go.RowKit
set_option maxRecDepth 100000
set_option linter.unusedVariables false
set_option linter.unusedSimpArgs false
def RTabO (lo : Nat) (w : World) (p : Option Addr) : Option Tab → Prop
 | none => p = none
 | some T => ∃ g, p = some ⟨g, 0, none⟩ ∧ lo ≤ g ∧ RTab lo w g T
theorem RTabO.below {lo : Nat} {w w' : World} {p : Option Addr} {T : Option Tab} (h : RTabO lo w p T) (hlo : lo ≤ w.heap.size) (hb : Below w.heap.size w w') : RTabO lo w' p T := by
 cases T with
 | none => exact h
 | some T => obtain ⟨g, h1, h2, h3⟩ := h; exact ⟨g, h1, h2, h3.below hlo hb⟩
def RPutO (lo : Nat) (p : Option Addr) (s : List UInt8) (e : Int) (T : Option Tab) (w : World) (x : Ending) (w' : World) : Prop :=
 x = .returned (.tuple #[.string (bs s), .int .i64 e]) ∧ RTabO lo w' p T ∧ KeepR lo w w'
theorem refputO_any (lo : Nat) (p : Option Addr) (T : Option Tab) (A : Option Addr) (c : Nat) (n : List (List UInt8)) (at_ : Int) (w0 w : World) (h0 : w0.heap.size ≤ lo) (hb0 : Below w0.heap.size w0 w) (hlo : lo ≤ w.heap.size) (hT : RTabO lo w p T) (hA : NmR w0 A c n) (hf : fewO T 900000) :
  Calls prog 112 #[.pointer p, .slice A n.length c, .int .i64 at_] w (RPutO lo p (putSO T at_ n) (checkN n) (putTO T at_ n) w) := by
 cases T with
 | none =>
  obtain rfl : p = none := hT
  refine (refputNil_any A c n at_ w (hA.below hb0)).mono ?_
  rintro _ w' ⟨rfl, hB⟩
  exact ⟨rfl, rfl, KeepR.old hB hlo⟩
 | some T =>
  obtain ⟨g, rfl, h2, h4⟩ := hT
  refine (refputTab_any lo g T A c n at_ w h4 hlo h2 (TxtL.of hA.1 hb0 h0) (hA.below hb0) (hf T rfl)).mono ?_
  rintro _ w' ⟨rfl, h5, h6⟩
  exact ⟨rfl, ⟨g, rfl, h2, h5⟩, h6⟩
theorem refput2_any (n : Int) (w : World) : Calls prog 84 #[.int .i64 2, .int .i64 n] w (RetB (.string (bs (putB 2 n))) w) := refPut_any 2 n w
theorem refput4_any (n : Int) (w : World) : Calls prog 84 #[.int .i64 4, .int .i64 n] w (RetB (.string (bs (putB 4 n))) w) := refPut_any 4 n w
theorem KeepR.blk {lo : Nat} {w w' : World} (h : KeepR lo w w') {g : Nat} {cs : List Value} (hb : Blk w g 119 cs) : Blk w' g 119 cs := h.2 g _ cs hb (by decide) (by decide)
theorem refput13_bad (cs : List Value) (r : RR) (at_ : Int) (p : Option Addr) (w : World) (h : RRis w cs r) (hc : checkR r ≠ 0) :
  Calls prog 114 #[.agg cs.toArray, .int .i64 at_, .pointer p] w (RetB (.tuple #[.string (bs []), .int .i64 (checkR r)]) w) := by
 have CK := Hh (fun w' (b : Below w.heap.size w w') => refcheck13_any cs r w' (h.below b))
 have hl : cs.length = 33 := by obtain ⟨_, _, _, _, _, _, rfl, hr, _⟩ := h; exact rrC_len hr
 generalize checkR r = e at *
 have he : (e != 0) = true := by simpa using hc
 clear hc h
 have B0 := Blk.new w 119 cs
 have HB0 : Below w.heap.size w (w.alloc (.cells cs.toArray 119)) := (Below.refl _ _).alloc (Nat.le_refl _) _
 go_enter func114, ntmps114
 go_wp2_with (refine at_op (.load 119 (.tmp 3)) rfl ?_; go_must (refine wpList_ldB rfl _ _ rfl w.heap.size 0 rfl B0 33 (by omega) _ underlying119 rfl rrInfo cs (tk0 (by omega)) ?_))
 go_wp2_with fail
 refine (CK.out _ HB0).mono ?_
 rintro _ w2 ⟨rfl, b2⟩
 have B := B0.below b2 B0.lt
 have HB := below_then HB0 HB0.size b2
 clear B0 HB0 b2 CK
 go_wp2_with fail
 go_ret2
 exact RetB.mk rfl HB
set_option maxHeartbeats 1000000 in
theorem refput13_raw (cs : List Value) (r : RR) (at_ : Int) (p : Option Addr) (w : World) (h : RRis w cs r) (hc : checkR r = 0) (hk : kindR r.ty r.cl = 0) :
  Calls prog 114 #[.agg cs.toArray, .int .i64 at_, .pointer p] w (RetB (.tuple #[.string (bs r.raw), .int .i64 0]) w) := by
 have CK := Hh (fun w' (b : Below w.heap.size w w') => refcheck13_any cs r w' (h.below b))
 have hl : cs.length = 33 := by obtain ⟨_, _, _, _, _, _, rfl, hr, _⟩ := h; exact rrC_len hr
 have L1 : cs[1]? = some (.int .i64 r.ty) := by obtain ⟨_, _, _, _, _, _, rfl, hr, _⟩ := h; rfl
 have L2 : cs[2]? = some (.int .i64 r.cl) := by obtain ⟨_, _, _, _, _, _, rfl, hr, _⟩ := h; rfl
 have K := Hh (fun w => refKind13_any r.ty r.cl w)
 have L32 : cs[32]? = some (.string (bs r.raw)) := by obtain ⟨_, _, _, _, _, _, rfl, hr, _⟩ := h; exact rrC_32 hr
 rw [hk] at K
 rw [hc] at CK
 clear h hc hk
 generalize r.ty = ty at *
 generalize r.cl = cl at *
 have B0 := Blk.new w 119 cs
 have HB0 : Below w.heap.size w (w.alloc (.cells cs.toArray 119)) := (Below.refl _ _).alloc (Nat.le_refl _) _
 go_enter func114, ntmps114
 go_wp2_with (refine at_op (.load 119 (.tmp 3)) rfl ?_; go_must (refine wpList_ldB rfl _ _ rfl w.heap.size 0 rfl B0 33 (by omega) _ underlying119 rfl rrInfo cs (tk0 (by omega)) ?_))
 go_wp2_with fail
 refine (CK.out _ HB0).mono ?_
 rintro _ w2 ⟨rfl, b2⟩
 have B := B0.below b2 B0.lt
 have HB := below_then HB0 HB0.size b2
 clear B0 HB0 b2 CK
 have c1 := B.cell_ 1 L1
 have c2 := B.cell_ 2 L2
 go_wp2_with fail
 refine (K.out _).mono ?_
 rintro _ w3 ⟨rfl, rfl⟩
 clear K c1 c2 L1 L2
 have c32 := B.cell_ 32 L32
 clear L32
 go_wp2_with fail
 go_ret2
 exact RetB.mk rfl HB
set_option maxHeartbeats 1000000 in
theorem refput13_name (lo : Nat) (cs : List Value) (r : RR) (at_ : Int) (p : Option Addr) (T : Option Tab) (w0 w : World) (hh : RRis w0 cs r) (h0 : w0.heap.size ≤ lo) (hb0 : Below w0.heap.size w0 w) (hlo : lo ≤ w.heap.size) (hT : RTabO lo w p T) (hf : fewO T 900000) (hc : checkR r = 0) (hk : kindR r.ty r.cl = 5 ∨ kindR r.ty r.cl = 12) :
  Calls prog 114 #[.agg cs.toArray, .int .i64 at_, .pointer p] w (RPutO lo p (putSO T at_ r.tg) (checkN r.tg) (putTO T at_ r.tg) w) := by
 have h := hh.below hb0
 have CK := Hh (fun w' (b : Below w.heap.size w w') => refcheck13_any cs r w' (h.below b))
 have hl : cs.length = 33 := by obtain ⟨_, _, _, _, _, _, rfl, hr, _⟩ := h; exact rrC_len hr
 have L1 : cs[1]? = some (.int .i64 r.ty) := by obtain ⟨_, _, _, _, _, _, rfl, hr, _⟩ := h; rfl
 have L2 : cs[2]? = some (.int .i64 r.cl) := by obtain ⟨_, _, _, _, _, _, rfl, hr, _⟩ := h; rfl
 have K := Hh (fun w => refKind13_any r.ty r.cl w)
 obtain ⟨At, ct, L22, hR⟩ : ∃ At ct, cs[22]? = some (.slice At r.tg.length ct) ∧ NmR w0 At ct r.tg := by
  obtain ⟨_, _, At, ct, _, _, rfl, hr, _, hR, _⟩ := hh; exact ⟨At, ct, rrC_22 hr, hR⟩
 rw [hc] at CK
 clear h hc
 have PT := Hh (fun w' (b : Below w.heap.size w w') => refputO_any lo p T At ct r.tg at_ w0 w' h0 (below_then hb0 hb0.size b) (Nat.le_trans hlo b.size) (hT.below hlo b) hR hf)
 generalize putSO T at_ r.tg = s at *
 generalize putTO T at_ r.tg = T' at *
 generalize checkN r.tg = e at *
 generalize r.tg.length = n at *
 generalize kindR r.ty r.cl = k at *
 generalize r.ty = ty at *
 generalize r.cl = cl at *
 clear hT hf hR hh hb0
 rcases hk with rfl | rfl
 all_goals
  have B0 := Blk.new w 119 cs
  have HB0 : Below w.heap.size w (w.alloc (.cells cs.toArray 119)) := (Below.refl _ _).alloc (Nat.le_refl _) _
  go_enter func114, ntmps114
  go_wp2_with (refine at_op (.load 119 (.tmp 3)) rfl ?_; go_must (refine wpList_ldB rfl _ _ rfl w.heap.size 0 rfl B0 33 (by omega) _ underlying119 rfl rrInfo cs (tk0 (by omega)) ?_))
  go_wp2_with fail
  refine (CK.out _ HB0).mono ?_
  rintro _ w2 ⟨rfl, b2⟩
  have B := B0.below b2 B0.lt
  have HB := below_then HB0 HB0.size b2
  clear B0 HB0 b2 CK
  have c1 := B.cell_ 1 L1
  have c2 := B.cell_ 2 L2
  go_wp2_with fail
  refine (K.out _).mono ?_
  rintro _ w3 ⟨rfl, rfl⟩
  clear K c1 c2 L1 L2
  have c22 := B.cell_ 22 L22
  clear L22
  go_wp2_with fail
  refine (PT.out _ HB).mono ?_
  rintro _ w3 ⟨rfl, hT3, hB3⟩
  go_wp2_with fail
  go_ret2
  exact ⟨rfl, hT3, (KeepR.old HB hlo).trans hB3⟩
set_option maxHeartbeats 1000000 in
theorem refput13_addr (cs : List Value) (r : RR) (at_ : Int) (p : Option Addr) (w : World) (h : RRis w cs r) (hc : checkR r = 0) (hk : kindR r.ty r.cl = 1 ∨ kindR r.ty r.cl = 28) :
  Calls prog 114 #[.agg cs.toArray, .int .i64 at_, .pointer p] w (RetB (.tuple #[.string (bs (if kindR r.ty r.cl = 1 then r.ad.ip.take 4 else r.ad.ip)), .int .i64 0]) w) := by
 have CK := Hh (fun w' (b : Below w.heap.size w w') => refcheck13_any cs r w' (h.below b))
 have hl : cs.length = 33 := by obtain ⟨_, _, _, _, _, _, rfl, hr, _⟩ := h; exact rrC_len hr
 have L1 : cs[1]? = some (.int .i64 r.ty) := by obtain ⟨_, _, _, _, _, _, rfl, hr, _⟩ := h; rfl
 have L2 : cs[2]? = some (.int .i64 r.cl) := by obtain ⟨_, _, _, _, _, _, rfl, hr, _⟩ := h; rfl
 have K := Hh (fun w => refKind13_any r.ty r.cl w)
 have h16 : r.ad.ip.length = 16 := by obtain ⟨_, _, _, _, _, _, rfl, hr, _⟩ := h; exact hr.1
 have LI : Hid (∀ j (hj : j < r.ad.ip.length), cs[5 + j]? = some (.int .u8 (r.ad.ip[j].toNat : Int))) := Hh (by obtain ⟨_, _, _, _, _, _, rfl, hr, _⟩ := h; exact fun j hj => rrC_ip hr j hj)
 rw [hc] at CK
 clear h hc
 generalize kindR r.ty r.cl = k at *
 generalize r.ad.ip = ip at *
 generalize r.ty = ty at *
 generalize r.cl = cl at *
 rcases hk with rfl | rfl
 ·
  rw [if_pos rfl]
  have h4 : (ip.take 4).length = 4 := by simp [h16]
  have B0 := Blk.new w 119 cs
  have HB0 : Below w.heap.size w (w.alloc (.cells cs.toArray 119)) := (Below.refl _ _).alloc (Nat.le_refl _) _
  go_enter func114, ntmps114
  go_wp2_with (refine at_op (.load 119 (.tmp 3)) rfl ?_; go_must (refine wpList_ldB rfl _ _ rfl w.heap.size 0 rfl B0 33 (by omega) _ underlying119 rfl rrInfo cs (tk0 (by omega)) ?_))
  go_wp2_with fail
  refine (CK.out _ HB0).mono ?_
  rintro _ w2 ⟨rfl, b2⟩
  have B := B0.below b2 B0.lt
  have HB := below_then HB0 HB0.size b2
  clear B0 HB0 b2 CK
  have c1 := B.cell_ 1 L1
  have c2 := B.cell_ 2 L2
  go_wp2_with fail
  refine (K.out _).mono ?_
  rintro _ w3 ⟨rfl, rfl⟩
  clear K c1 c2 L1 L2
  have CV := conv_at (o := 5) B (ip.take 4) 16 (fun j hj => by rw [LI.out j (by omega)]; simp)
  rw [h4] at CV
  generalize ip.take 4 = q at *
  clear LI h16
  go_wp2_with fail
  go_ret2
  exact RetB.mk rfl HB
 ·
  rw [if_neg (by decide)]
  have B0 := Blk.new w 119 cs
  have HB0 : Below w.heap.size w (w.alloc (.cells cs.toArray 119)) := (Below.refl _ _).alloc (Nat.le_refl _) _
  go_enter func114, ntmps114
  go_wp2_with (refine at_op (.load 119 (.tmp 3)) rfl ?_; go_must (refine wpList_ldB rfl _ _ rfl w.heap.size 0 rfl B0 33 (by omega) _ underlying119 rfl rrInfo cs (tk0 (by omega)) ?_))
  go_wp2_with fail
  refine (CK.out _ HB0).mono ?_
  rintro _ w2 ⟨rfl, b2⟩
  have B := B0.below b2 B0.lt
  have HB := below_then HB0 HB0.size b2
  clear B0 HB0 b2 CK
  have c1 := B.cell_ 1 L1
  have c2 := B.cell_ 2 L2
  go_wp2_with fail
  refine (K.out _).mono ?_
  rintro _ w3 ⟨rfl, rfl⟩
  clear K c1 c2 L1 L2
  have CV := conv_at (o := 5) B ip 16 (fun j hj => LI.out j hj)
  rw [h16] at CV
  clear LI
  go_wp2_with fail
  go_ret2
  exact RetB.mk rfl HB
set_option maxHeartbeats 2000000 in
theorem refput13_srv (cs : List Value) (r : RR) (at_ : Int) (p : Option Addr) (w : World) (h : RRis w cs r) (hc : checkR r = 0) (hk : kindR r.ty r.cl = 33) :
  Calls prog 114 #[.agg cs.toArray, .int .i64 at_, .pointer p] w (RetB (.tuple #[.string (bs (putB 2 r.pri ++ putB 2 r.we ++ putB 2 r.po ++ putZ r.tg)), .int .i64 0]) w) := by
 have CK := Hh (fun w' (b : Below w.heap.size w w') => refcheck13_any cs r w' (h.below b))
 have hl : cs.length = 33 := by obtain ⟨_, _, _, _, _, _, rfl, hr, _⟩ := h; exact rrC_len hr
 have L1 : cs[1]? = some (.int .i64 r.ty) := by obtain ⟨_, _, _, _, _, _, rfl, hr, _⟩ := h; rfl
 have L2 : cs[2]? = some (.int .i64 r.cl) := by obtain ⟨_, _, _, _, _, _, rfl, hr, _⟩ := h; rfl
 have K := Hh (fun w => refKind13_any r.ty r.cl w)
 obtain ⟨At, ct, L22, hR⟩ : ∃ At ct, cs[22]? = some (.slice At r.tg.length ct) ∧ NmR w At ct r.tg := by
  obtain ⟨_, _, At, ct, _, _, rfl, hr, _, hR, _⟩ := h; exact ⟨At, ct, rrC_22 hr, hR⟩
 have L24 : cs[24]? = some (.int .i64 r.pri) := by obtain ⟨_, _, _, _, _, _, rfl, hr, _⟩ := h; exact rrC_24 hr
 have L25 : cs[25]? = some (.int .i64 r.we) := by obtain ⟨_, _, _, _, _, _, rfl, hr, _⟩ := h; exact rrC_25 hr
 have L26 : cs[26]? = some (.int .i64 r.po) := by obtain ⟨_, _, _, _, _, _, rfl, hr, _⟩ := h; exact rrC_26 hr
 have hz : (putZ r.tg).length ≤ 255 := by
  unfold putZ encZ
  split
  ·
   next h0 => have := (checkN_ok h0).2; simp [encN_length]; omega
  ·
   simp
 rw [hc] at CK
 rw [hk] at K
 clear h hc hk
 have PT := Hh (fun w' (b : Below w.heap.size w w') => refputNil_any At ct r.tg 0 w' (hR.below b))
 generalize putZ r.tg = z at *
 generalize checkN r.tg = e at *
 generalize r.tg.length = n at *
 generalize r.ty = ty at *
 generalize r.cl = cl at *
 clear hR
 have P1 := Hh (fun w => refput2_any r.pri w)
 have P2 := Hh (fun w => refput2_any r.we w)
 have P3 := Hh (fun w => refput2_any r.po w)
 have l1 := putB_length 2 r.pri
 have l2 := putB_length 2 r.we
 have l3 := putB_length 2 r.po
 generalize putB 2 r.pri = s1 at *
 generalize putB 2 r.we = s2 at *
 generalize putB 2 r.po = s3 at *
 generalize r.pri = pri at *
 generalize r.we = we at *
 generalize r.po = po at *
 have B0 := Blk.new w 119 cs
 have HB0 : Below w.heap.size w (w.alloc (.cells cs.toArray 119)) := (Below.refl _ _).alloc (Nat.le_refl _) _
 go_enter func114, ntmps114
 go_wp2_with (refine at_op (.load 119 (.tmp 3)) rfl ?_; go_must (refine wpList_ldB rfl _ _ rfl w.heap.size 0 rfl B0 33 (by omega) _ underlying119 rfl rrInfo cs (tk0 (by omega)) ?_))
 go_wp2_with fail
 refine (CK.out _ HB0).mono ?_
 rintro _ w2 ⟨rfl, b2⟩
 have B := B0.below b2 B0.lt
 have HB := below_then HB0 HB0.size b2
 clear B0 HB0 b2 CK
 have c1 := B.cell_ 1 L1
 have c2 := B.cell_ 2 L2
 go_wp2_with fail
 refine (K.out _).mono ?_
 rintro _ w3 ⟨rfl, rfl⟩
 clear K c1 c2 L1 L2
 have c22 := B.cell_ 22 L22
 clear L22
 go_wp2_with fail
 refine (PT.out _ HB).mono ?_
 rintro _ w3 ⟨rfl, hB3⟩
 have B3 := B.below hB3 B.lt
 have HB3 := below_then HB HB.size hB3
 clear B HB hB3 PT
 go_wp2_with fail
 refine wp_region_old (by kernel_rfl) (by kernel_rfl) ?_
 (refine wpQuiet_val (v := (.pointer (some ⟨w.heap.size, 24, none⟩))) rfl (fun W hW => by first | (go_simp; done) | (go_simp; omega)) ?_; simp only [Act.put, lsA, lsB, lsC])
 refine wpQuiet_ld 3 (.tmp 58) rfl ⟨w.heap.size, 24, none⟩ rfl rfl (fun W hW => run_load1 underlying3 rfl ((B3.below hW B3.lt).cell_ 24 L24)) ?_
 simp only [Act.put, lsA, lsB, lsC]
 refine wpQuiet_call 84 #[.int .i64 2, .int .i64 pri] rfl (fun W => by go_simp) (fun W hW => RetB.old hW (P1.out W)) ?_
 simp only [Act.put, lsA, lsB, lsC]
 (refine wpQuiet_val (v := (.pointer (some ⟨w.heap.size, 25, none⟩))) rfl (fun W hW => by first | (go_simp; done) | (go_simp; omega)) ?_; simp only [Act.put, lsA, lsB, lsC])
 refine wpQuiet_ld 3 (.tmp 61) rfl ⟨w.heap.size, 25, none⟩ rfl rfl (fun W hW => run_load1 underlying3 rfl ((B3.below hW B3.lt).cell_ 25 L25)) ?_
 simp only [Act.put, lsA, lsB, lsC]
 refine wpQuiet_call 84 #[.int .i64 2, .int .i64 we] rfl (fun W => by go_simp) (fun W hW => RetB.old hW (P2.out W)) ?_
 simp only [Act.put, lsA, lsB, lsC]
 (refine wpQuiet_val (v := (.string (bs (s1 ++ s2)))) rfl (fun W hW => by first | (go_simp; done) | (go_simp; omega)) ?_; simp only [Act.put, lsA, lsB, lsC])
 (refine wpQuiet_val (v := (.pointer (some ⟨w.heap.size, 26, none⟩))) rfl (fun W hW => by first | (go_simp; done) | (go_simp; omega)) ?_; simp only [Act.put, lsA, lsB, lsC])
 refine wpQuiet_ld 3 (.tmp 65) rfl ⟨w.heap.size, 26, none⟩ rfl rfl (fun W hW => run_load1 underlying3 rfl ((B3.below hW B3.lt).cell_ 26 L26)) ?_
 simp only [Act.put, lsA, lsB, lsC]
 refine wpQuiet_call 84 #[.int .i64 2, .int .i64 po] rfl (fun W => by go_simp) (fun W hW => RetB.old hW (P3.out W)) ?_
 simp only [Act.put, lsA, lsB, lsC]
 (refine wpQuiet_val (v := (.string (bs (s1 ++ s2 ++ s3)))) rfl (fun W hW => by first | (go_simp; done) | (go_simp; omega)) ?_; simp only [Act.put, lsA, lsB, lsC])
 (refine wpQuiet_val (v := (.string (bs z))) rfl (fun W hW => by first | (go_simp; done) | (go_simp; omega)) ?_; simp only [Act.put, lsA, lsB, lsC])
 (refine wpQuiet_val (v := (.string (bs (s1 ++ s2 ++ s3 ++ z)))) rfl (fun W hW => by first | (go_simp; done) | (go_simp; omega)) ?_; simp only [Act.put, lsA, lsB, lsC])
 (refine wpQuiet_val (v := (.string (bs (s1 ++ s2 ++ s3 ++ z)))) rfl (fun W hW => by first | (go_simp; done) | (go_simp; omega)) ?_; simp only [Act.put, lsA, lsB, lsC])
 (refine wpQuiet_val (v := (.int .i64 0)) rfl (fun W hW => by first | (go_simp; done) | (go_simp; omega)) ?_; simp only [Act.put, lsA, lsB, lsC])
 refine wpQuiet_nil ?_
 intro w4 hB4
 have HB4 := below_then HB3 HB3.size hB4
 clear B3 HB3 hB4
 go_wp2_with fail
 go_ret2
 exact RetB.mk rfl HB4
theorem soa_parts {r : RR} (hc : checkR r = 0) (hk : kindR r.ty r.cl = 6) : checkN r.tg = 0 ∧ checkN r.ml = 0 := by
 have hE := (hasE_ok hc).2
 have hE6 : hasE r = (if checkN r.tg ≠ 0 then checkN r.tg else if checkN r.ml ≠ 0 then checkN r.ml else if r.nums.all (inB 4294967295) then 0 else 4) := by unfold hasE; rw [hk]; rfl
 rw [hE6] at hE
 have ht : checkN r.tg = 0 := by
  by_cases h1 : checkN r.tg = 0
  ·
   exact h1
  ·
   rw [if_pos h1] at hE; exact hE
 refine ⟨ht, ?_⟩
 rw [if_neg (by simp [ht])] at hE
 by_cases h1 : checkN r.ml = 0
 ·
  exact h1
 ·
  rw [if_pos h1] at hE; exact hE
set_option maxHeartbeats 4000000 in
theorem refput13_soa (lo : Nat) (cs : List Value) (r : RR) (at_ : Int) (p : Option Addr) (T : Option Tab) (w0 w : World) (hh : RRis w0 cs r) (h0 : w0.heap.size ≤ lo) (hb0 : Below w0.heap.size w0 w) (hlo : lo ≤ w.heap.size) (hT : RTabO lo w p T) (hf : fewO T 800000) (ha0 : 0 ≤ at_) (ha1 : at_ ≤ 1000000) (hc : checkR r = 0) (hk : kindR r.ty r.cl = 6) :
  Calls prog 114 #[.agg cs.toArray, .int .i64 at_, .pointer p] w (RPutO lo p (putSO T at_ r.tg ++ putSO (putTO T at_ r.tg) (at_ + (putSO T at_ r.tg).length) r.ml ++ r.nums.flatMap (putB 4)) 0 (putTO (putTO T at_ r.tg) (at_ + (putSO T at_ r.tg).length) r.ml) w) := by
 have h := hh.below hb0
 obtain ⟨ht, hm⟩ := soa_parts hc hk
 have CK := Hh (fun w' (b : Below w.heap.size w w') => refcheck13_any cs r w' (h.below b))
 have hl : cs.length = 33 := by obtain ⟨_, _, _, _, _, _, rfl, hr, _⟩ := h; exact rrC_len hr
 have L1 : cs[1]? = some (.int .i64 r.ty) := by obtain ⟨_, _, _, _, _, _, rfl, hr, _⟩ := h; rfl
 have L2 : cs[2]? = some (.int .i64 r.cl) := by obtain ⟨_, _, _, _, _, _, rfl, hr, _⟩ := h; rfl
 have K := Hh (fun w => refKind13_any r.ty r.cl w)
 rw [hc] at CK
 rw [hk] at K
 clear h hc hk
 obtain ⟨An, cn, At, ct, Am, cm, hcs, hr, hN, hTg, hMl, hraw⟩ := hh
 have L22 : cs[22]? = some (.slice At r.tg.length ct) := by rw [hcs]; exact rrC_22 hr
 have L23 : cs[23]? = some (.slice Am r.ml.length cm) := by rw [hcs]; exact rrC_23 hr
 have hn5 := hr.2
 have LK : Hid (∀ (i : Nat) (hi : i < r.nums.length), cs[27 + i]? = some (.int .i64 r.nums[i])) := Hh (fun i hi => by rw [hcs, rrC_num hr i (by omega)]; simp [List.getD, hi])
 clear hcs hN hraw hr
 have s1l := putSO_len T at_ r.tg
 have s2l := putSO_len (putTO T at_ r.tg) (at_ + (putSO T at_ r.tg).length) r.ml
 have P1 := Hh (fun w' (b : Below w.heap.size w w') => refputO_any lo p T At ct r.tg at_ w0 w' h0 (below_then hb0 hb0.size b) (Nat.le_trans hlo b.size) (hT.below hlo b) hTg (fun T' h => Nat.le_trans (hf T' h) (by omega)))
 have P2 := Hh (fun w' (b : Below lo w w') (hlo' : lo ≤ w'.heap.size) (hT' : RTabO lo w' p (putTO T at_ r.tg)) => refputO_any lo p (putTO T at_ r.tg) Am cm r.ml (at_ + (putSO T at_ r.tg).length) w0 w' h0 (hb0.trans (b.mono h0)) hlo' hT' hMl (fun T' h => Nat.le_trans ((hf.put at_ r.tg) T' h) (by omega)))
 rw [ht] at P1
 rw [hm] at P2
 clear hT hf hTg hMl ht hm hb0
 generalize putTO (putTO T at_ r.tg) (at_ + (putSO T at_ r.tg).length) r.ml = T2 at *
 generalize putSO (putTO T at_ r.tg) (at_ + (putSO T at_ r.tg).length) r.ml = s2 at *
 generalize putSO T at_ r.tg = s1 at *
 generalize putTO T at_ r.tg = T1 at *
 generalize r.tg.length = ntg at *
 generalize r.ml.length = nml at *
 generalize r.nums = nums at *
 generalize r.ty = ty at *
 generalize r.cl = cl at *
 obtain ⟨out, hout⟩ : ∃ out, out = s1 ++ s2 ++ nums.flatMap (putB 4) := ⟨_, rfl⟩
 rw [← hout]
 have HO := Hh hout
 clear hout
 obtain ⟨n0, n1, n2, n3, n4, rfl⟩ : ∃ n0 n1 n2 n3 n4, nums = [n0, n1, n2, n3, n4] := by
  match nums, hn5 with
  | [a, b, c, d, e], _ => exact ⟨a, b, c, d, e, rfl⟩
 clear hn5
 have L27 : cs[27]? = some (.int .i64 n0) := LK.out 0 (by simp)
 have L28 : cs[28]? = some (.int .i64 n1) := LK.out 1 (by simp)
 have L29 : cs[29]? = some (.int .i64 n2) := LK.out 2 (by simp)
 have L30 : cs[30]? = some (.int .i64 n3) := LK.out 3 (by simp)
 have L31 : cs[31]? = some (.int .i64 n4) := LK.out 4 (by simp)
 clear LK
 have B0 := Blk.new w 119 cs
 have HB0 : Below w.heap.size w (w.alloc (.cells cs.toArray 119)) := (Below.refl _ _).alloc (Nat.le_refl _) _
 go_enter func114, ntmps114
 go_wp2_with (refine at_op (.load 119 (.tmp 3)) rfl ?_; go_must (refine wpList_ldB rfl _ _ rfl w.heap.size 0 rfl B0 33 (by omega) _ underlying119 rfl rrInfo cs (tk0 (by omega)) ?_))
 go_wp2_with fail
 refine (CK.out _ HB0).mono ?_
 rintro _ w2 ⟨rfl, b2⟩
 have B := B0.below b2 B0.lt
 have HB := below_then HB0 HB0.size b2
 clear B0 HB0 b2 CK
 have c1 := B.cell_ 1 L1
 have c2 := B.cell_ 2 L2
 go_wp2_with fail
 refine (K.out _).mono ?_
 rintro _ w3 ⟨rfl, rfl⟩
 clear K c1 c2 L1 L2
 have c22 := B.cell_ 22 L22
 go_wp2_with fail
 refine (P1.out _ HB).mono ?_
 rintro _ w2 ⟨rfl, hT2, hB2⟩
 have B2 := hB2.blk B
 have HB2 : KeepR lo w w2 := (KeepR.old HB hlo).trans hB2
 have hlo2 : lo ≤ w2.heap.size := below_size_le HB2.1 hlo
 clear P1 c22 hB2 B HB L22
 have c23 := B2.cell_ 23 L23
 go_wp2_with fail
 refine (P2.out _ HB2.1 hlo2 hT2).mono ?_
 rintro _ w3 ⟨rfl, hT3, hB3⟩
 have B3 := hB3.blk B2
 have HB3 : KeepR lo w w3 := HB2.trans hB3
 have hlo3 : lo ≤ w3.heap.size := below_size_le HB3.1 hlo
 clear P2 c23 hB3 hT2 B2 HB2 hlo2 L23
 have l0 := putB_length 4 n0
 have l1 := putB_length 4 n1
 have l2 := putB_length 4 n2
 have l3 := putB_length 4 n3
 have l4 := putB_length 4 n4
 have Q0 := Hh (fun w => refput4_any n0 w)
 have Q1 := Hh (fun w => refput4_any n1 w)
 have Q2 := Hh (fun w => refput4_any n2 w)
 have Q3 := Hh (fun w => refput4_any n3 w)
 have Q4 := Hh (fun w => refput4_any n4 w)
 have HO : Hid (out = s1 ++ s2 ++ (putB 4 n0 ++ (putB 4 n1 ++ (putB 4 n2 ++ (putB 4 n3 ++ putB 4 n4))))) := Hh (by rw [HO.out]; simp)
 generalize putB 4 n0 = q0 at *
 generalize putB 4 n1 = q1 at *
 generalize putB 4 n2 = q2 at *
 generalize putB 4 n3 = q3 at *
 generalize putB 4 n4 = q4 at *
 go_wp2_with fail
 refine wp_loop_rounds 6 ?_
 rw [rounds_succ]
 have cn0 := B3.cell_ 27 L27
 go_wp2_with fail
 refine (Q0.out _).mono ?_
 rintro _ w4 ⟨rfl, b4⟩
 replace HB3 := HB3.trans (KeepR.old b4 hlo3)
 replace hT3 := hT3.below hlo3 b4
 replace B3 := B3.below b4 B3.lt
 replace hlo3 := Nat.le_trans hlo3 b4.size
 clear b4 cn0 Q0 L27
 go_wp2_with fail
 rw [rounds_succ]
 have cn1 := B3.cell_ 28 L28
 go_wp2_with fail
 refine (Q1.out _).mono ?_
 rintro _ w5 ⟨rfl, b4⟩
 replace HB3 := HB3.trans (KeepR.old b4 hlo3)
 replace hT3 := hT3.below hlo3 b4
 replace B3 := B3.below b4 B3.lt
 replace hlo3 := Nat.le_trans hlo3 b4.size
 clear b4 cn1 Q1 L28
 go_wp2_with fail
 rw [rounds_succ]
 have cn2 := B3.cell_ 29 L29
 go_wp2_with fail
 refine (Q2.out _).mono ?_
 rintro _ w6 ⟨rfl, b4⟩
 replace HB3 := HB3.trans (KeepR.old b4 hlo3)
 replace hT3 := hT3.below hlo3 b4
 replace B3 := B3.below b4 B3.lt
 replace hlo3 := Nat.le_trans hlo3 b4.size
 clear b4 cn2 Q2 L29
 go_wp2_with fail
 rw [rounds_succ]
 have cn3 := B3.cell_ 30 L30
 go_wp2_with fail
 refine (Q3.out _).mono ?_
 rintro _ w7 ⟨rfl, b4⟩
 replace HB3 := HB3.trans (KeepR.old b4 hlo3)
 replace hT3 := hT3.below hlo3 b4
 replace B3 := B3.below b4 B3.lt
 replace hlo3 := Nat.le_trans hlo3 b4.size
 clear b4 cn3 Q3 L30
 go_wp2_with fail
 rw [rounds_succ]
 have cn4 := B3.cell_ 31 L31
 go_wp2_with fail
 refine (Q4.out _).mono ?_
 rintro _ w8 ⟨rfl, b4⟩
 replace HB3 := HB3.trans (KeepR.old b4 hlo3)
 replace hT3 := hT3.below hlo3 b4
 replace B3 := B3.below b4 B3.lt
 replace hlo3 := Nat.le_trans hlo3 b4.size
 clear b4 cn4 Q4 L31
 go_wp2_with fail
 rw [rounds_succ]
 go_wp2_with fail
 go_ret2
 exact ⟨ret_str2 (by rw [HO.out]; simp), hT3, HB3⟩
theorem refput13_any (lo : Nat) (cs : List Value) (r : RR) (at_ : Int) (p : Option Addr) (T : Option Tab) (w0 w : World) (h : RRis w0 cs r) (h0 : w0.heap.size ≤ lo) (hb0 : Below w0.heap.size w0 w) (hlo : lo ≤ w.heap.size) (hT : RTabO lo w p T) (hf : fewO T 800000) (ha0 : 0 ≤ at_) (ha1 : at_ ≤ 1000000) :
  Calls prog 114 #[.agg cs.toArray, .int .i64 at_, .pointer p] w (RPutO lo p (rputS T at_ r) (checkR r) (rputT T at_ r) w) := by
 have hw := h.below hb0
 by_cases hc : checkR r = 0
 ·
  unfold rputS rputT
  rw [if_pos hc, if_pos hc, hc]
  have hE := (hasE_ok hc).2
  rcases kindR_cases r.ty r.cl with hk | hk | hk | hk | hk | hk
  ·
   refine (refput13_addr cs r at_ p w hw hc (.inl hk)).mono ?_
   rintro _ w' ⟨rfl, hB⟩
   have e1 : dataR T at_ r = (if kindR r.ty r.cl = 1 then r.ad.ip.take 4 else r.ad.ip) := by unfold dataR; rw [hk]; rfl
   have e2 : tabR T at_ r = T := by unfold tabR; rw [hk]; rfl
   rw [e1, e2]
   exact ⟨rfl, hT.below hlo hB, KeepR.old hB hlo⟩
  ·
   refine (refput13_addr cs r at_ p w hw hc (.inr hk)).mono ?_
   rintro _ w' ⟨rfl, hB⟩
   have e1 : dataR T at_ r = (if kindR r.ty r.cl = 1 then r.ad.ip.take 4 else r.ad.ip) := by unfold dataR; rw [hk]; rfl
   have e2 : tabR T at_ r = T := by unfold tabR; rw [hk]; rfl
   rw [e1, e2]
   exact ⟨rfl, hT.below hlo hB, KeepR.old hB hlo⟩
  ·
   have e1 : dataR T at_ r = putSO T at_ r.tg := by unfold dataR; rcases hk with hk | hk <;> rw [hk] <;> rfl
   have e2 : tabR T at_ r = putTO T at_ r.tg := by unfold tabR; rcases hk with hk | hk <;> rw [hk] <;> rfl
   have e3 : checkN r.tg = 0 := by rw [← hE]; unfold hasE; rcases hk with hk | hk <;> rw [hk] <;> rfl
   rw [e1, e2]
   have := refput13_name lo cs r at_ p T w0 w h h0 hb0 hlo hT (fun T' h => Nat.le_trans (hf T' h) (by omega)) hc hk
   rwa [e3] at this
  ·
   refine (refput13_srv cs r at_ p w hw hc hk).mono ?_
   rintro _ w' ⟨rfl, hB⟩
   have e1 : dataR T at_ r = putB 2 r.pri ++ putB 2 r.we ++ putB 2 r.po ++ putZ r.tg := by unfold dataR; rw [hk]; rfl
   have e2 : tabR T at_ r = T := by unfold tabR; rw [hk]; rfl
   rw [e1, e2]
   exact ⟨rfl, hT.below hlo hB, KeepR.old hB hlo⟩
  ·
   have e1 : dataR T at_ r = putSO T at_ r.tg ++ putSO (putTO T at_ r.tg) (at_ + (putSO T at_ r.tg).length) r.ml ++ r.nums.flatMap (putB 4) := by unfold dataR; rw [hk]; rfl
   have e2 : tabR T at_ r = putTO (putTO T at_ r.tg) (at_ + (putSO T at_ r.tg).length) r.ml := by unfold tabR; rw [hk]; rfl
   rw [e1, e2]
   exact refput13_soa lo cs r at_ p T w0 w h h0 hb0 hlo hT hf ha0 ha1 hc hk
  ·
   refine (refput13_raw cs r at_ p w hw hc hk).mono ?_
   rintro _ w' ⟨rfl, hB⟩
   have e1 : dataR T at_ r = r.raw := by unfold dataR; rw [hk]; rfl
   have e2 : tabR T at_ r = T := by unfold tabR; rw [hk]; rfl
   rw [e1, e2]
   exact ⟨rfl, hT.below hlo hB, KeepR.old hB hlo⟩
 ·
  unfold rputS rputT
  rw [if_neg hc, if_neg hc]
  refine (refput13_bad cs r at_ p w hw hc).mono ?_
  rintro _ w' ⟨rfl, hB⟩
  exact ⟨rfl, hT.below hlo hB, KeepR.old hB hlo⟩
end Go.Proofs.YthnbcmlnpdabhaaGreat

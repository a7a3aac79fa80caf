/-
  The reference's layer 13: out, bare, Same.
-/
import Derived.Test.YthnbcmlnpdabhaaGreatHSq
namespace Go.Proofs.YthnbcmlnpdabhaaGreat
open _root_.Go.Proofs.Tryz
open Go.RowKit
set_option maxRecDepth 100000
set_option linter.unusedVariables false
set_option linter.unusedSimpArgs false
theorem GK (a b : RR) : decide (a = b) = (decide (a.name = b.name) && ((a.ty == b.ty) && ((a.cl == b.cl) && ((a.ttl == b.ttl) && (decide (a.ad = b.ad) && (decide (a.tg = b.tg) && (decide (a.ml = b.ml) && ((a.pri == b.pri) && ((a.we == b.we) && ((a.po == b.po) && ((a.nums == b.nums) && (a.raw == b.raw)))))))))))) := by
 rw [Bool.eq_iff_iff];obtain ⟨a0, a1, a2, a3, a4, a5, a6, a7, a8, a9, a10, a11⟩ := a;obtain ⟨b0, b1, b2, b3, b4, b5, b6, b7, b8, b9, b10, b11⟩ := b;simp
theorem Si (a b : List Int) (ha : a.length = 5) (hb : b.length = 5) (w : World) : (Op.equalIn 10000 117 (.agg (n7 a).toArray) (.agg (n7 b).toArray)).run prog w = .ok (a == b) w :=
 rz w 9998 117 3 5 .i64 underlying117 underlying3 Gk a b ha hb
set_option maxHeartbeats 40000000 in
theorem Js (cs ds : List Value) (a b : RR) (w : World) (ha : sH w cs a) (hb : sH w ds b) : Calls prog 124 #[.agg cs.toArray, .agg ds.toArray] w (nM (.bool (decide (a = b))) w) := by
 rw [GK];obtain ⟨An, cn, At, ct, Am, cm, hcs, hr, hN, hT, hM, hraw⟩ := ha;obtain ⟨Bn, dn, Bt, dt, Bm, dm, hds, hs, kN, kT, kM, kraw⟩ := hb;have hl : cs.length = 33 := ig;have hk : ds.length = 33 := by rw [hds]; exact pn hs
 have A0 : Hid (cs[0]? = some (.slice An a.name.length cn)) := Hh aZ;have A1 : Hid (cs[1]? = some (.int .i64 a.ty)) := Hh aZ;have A2 : Hid (cs[2]? = some (.int .i64 a.cl)) := Hh aZ;have A3 : Hid (cs[3]? = some (.int .i64 a.ttl)) := Hh aZ;have A22 : Hid (cs[22]? = some (.slice At a.tg.length ct)) := Hh (by rw [hcs]; exact uV hr);have A23 : Hid (cs[23]? = some (.slice Am a.ml.length cm)) := Hh (by rw [hcs]; exact zU hr);have A24 : Hid (cs[24]? = some (.int .i64 a.pri)) := Hh (by rw [hcs]; exact zV hr);have A25 : Hid (cs[25]? = some (.int .i64 a.we)) := Hh (by rw [hcs]; exact zW hr);have A26 : Hid (cs[26]? = some (.int .i64 a.po)) := Hh (by rw [hcs]; exact zX hr);have A32 : Hid (cs[32]? = some (.string (bs a.raw))) := Hh (by rw [hcs]; exact zY hr);have LAa : Hid ((cs.drop 4).take 18 = a.ad.cells) := Hh (by rw [hcs]; exact yv hr);have LNa : Hid ((cs.drop 27).take 5 = n7 a.nums) := Hh aV;have E0 : Hid (ds[0]? = some (.slice Bn b.name.length dn)) := Hh bd;have E1 : Hid (ds[1]? = some (.int .i64 b.ty)) := Hh bd;have E2 : Hid (ds[2]? = some (.int .i64 b.cl)) := Hh bd;have E3 : Hid (ds[3]? = some (.int .i64 b.ttl)) := Hh bd;have E22 : Hid (ds[22]? = some (.slice Bt b.tg.length dt)) := Hh (by rw [hds]; exact uV hs);have E23 : Hid (ds[23]? = some (.slice Bm b.ml.length dm)) := Hh (by rw [hds]; exact zU hs);have E24 : Hid (ds[24]? = some (.int .i64 b.pri)) := Hh (by rw [hds]; exact zV hs);have E25 : Hid (ds[25]? = some (.int .i64 b.we)) := Hh (by rw [hds]; exact zW hs);have E26 : Hid (ds[26]? = some (.int .i64 b.po)) := Hh (by rw [hds]; exact zX hs);have E32 : Hid (ds[32]? = some (.string (bs b.raw))) := Hh (by rw [hds]; exact zY hs);have LAb : Hid ((ds.drop 4).take 18 = b.ad.cells) := Hh (by rw [hds]; exact yv hs);have LNb : Hid ((ds.drop 27).take 5 = n7 b.nums) := Hh (by rw [hds]; exact xO hs);clear hcs hds hraw kraw;have EA := zj a.ad b.ad hr.1 hs.1;have EN := Si a.nums b.nums hr.2 hs.2;have X1 := Hh (fun w' (q : Below w.heap.size w w') => wC An Bn a.name b.name cn dn w' (hN.below q).1 (kN.below q).1 aU (by have := kN.2.2.1; omega));have X2 := Hh (fun w' (q : Below w.heap.size w w') => wC At Bt a.tg b.tg ct dt w' (hT.below q).1 (kT.below q).1 (by have := hT.2.2.1; omega) (by have := kT.2.2.1; omega));have X3 := Hh (fun w' (q : Below w.heap.size w w') => wC Am Bm a.ml b.ml cm dm w' (hM.below q).1 (kM.below q).1 (by have := hM.2.2.1; omega) (by have := kM.2.2.1; omega));clear hN hT hM kN kT kM hr hs;generalize decide (a.name = b.name) = q0 at *;generalize decide (a.ad = b.ad) = q4 at *;generalize decide (a.tg = b.tg) = q5 at *;generalize decide (a.ml = b.ml) = q6 at *;generalize a.ad.cells = LA1 at *;generalize b.ad.cells = LA2 at *;generalize (a.nums == b.nums) = q10 at *;generalize n7 a.nums = LN1 at *;generalize n7 b.nums = LN2 at *;generalize a.name.length = n1 at *;generalize b.name.length = m1 at *;generalize a.tg.length = n2 at *;generalize b.tg.length = m2 at *;generalize a.ml.length = n3 at *;generalize b.ml.length = m3 at *;obtain ⟨q1, h1⟩ : ∃ q, Hid ((a.ty == b.ty) = q) := eD;obtain ⟨q2, h2⟩ : ∃ q, Hid ((a.cl == b.cl) = q) := eD;obtain ⟨q3, h3⟩ : ∃ q, Hid ((a.ttl == b.ttl) = q) := eD;obtain ⟨q7, h7⟩ : ∃ q, Hid ((a.pri == b.pri) = q) := eD;obtain ⟨q8, h8⟩ : ∃ q, Hid ((a.we == b.we) = q) := eD;obtain ⟨q9, h9⟩ : ∃ q, Hid ((a.po == b.po) = q) := eD;obtain ⟨q11, h11⟩ : ∃ q, Hid ((a.raw == b.raw) = q) := eD;rw [h1.out, h2.out, h3.out, h7.out, h8.out, h9.out, h11.out];generalize a.ty = aty at *;generalize b.ty = bty at *;generalize a.cl = acl at *;generalize b.cl = bcl at *;generalize a.ttl = attl at *;generalize b.ttl = bttl at *;generalize a.pri = apri at *;generalize b.pri = bpri at *;generalize a.we = awe at *;generalize b.we = bwe at *;generalize a.po = apo at *;generalize b.po = bpo at *;generalize a.raw = araw at *;generalize b.raw = braw at *;have HB0 : Below w.heap.size w ((w.alloc (.cells cs.toArray 119)).alloc (.cells ds.toArray 119)) := eG;have B1' := (nj.new w 119 cs).alloc (.cells ds.toArray 119);have B2' := nj.ph (w.alloc (.cells cs.toArray 119)) 119 ds (w.heap.size + 1) ag;have u0 := B1'.nf 0 A0.out;have v0 := B2'.nf 0 E0.out;clear A0 E0;go_enter func124, ntmps124; simp only [List.append];go_wp2_with fail;refine (X1.out _ HB0).mono ?_;rintro _ w1 ⟨rfl, b1⟩;have B1 := B1'.below b1 B1'.lt;have B2 := B2'.below b1 B2'.lt;have HB := nc HB0 HB0.size b1;clear X1 B1' B2' HB0 b1 u0 v0;cases q0 with
 | false => exact jT
 | true =>
 have a1 := B1.nf 1 A1.out;have b1 := B2.nf 1 E1.out;have k1 := h1.out;cases q1 with
 | false => exact jT
 | true =>
 have a2 := B1.nf 2 A2.out;have b2 := B2.nf 2 E2.out;have k2 := h2.out;cases q2 with
 | false => exact jT
 | true =>
 have a3 := B1.nf 3 A3.out;have b3 := B2.nf 3 E3.out;have k3 := h3.out;cases q3 with
 | false => exact jT
 | true =>
 cases q4 with
 | false =>
  go_wp2_with (first
   | (refine nh (.load 24 (.tmp 32)) rfl ?_; refine ox (by kernel_rfl) 24 (.tmp 32) rfl w.heap.size 4 rfl B1 18 ak _ underlying24 rfl pt LA1 LAa.out ?_)
   | (refine nh (.load 24 (.tmp 34)) rfl ?_; refine ox (by kernel_rfl) 24 (.tmp 34) rfl (w.heap.size + 1) 4 rfl B2 18 ak _ underlying24 rfl pt LA2 LAb.out ?_))
  exact jY
 | true =>
 have a22 := B1.nf 22 A22.out;have b22 := B2.nf 22 E22.out;go_wp2_with (first
  | (refine nh (.load 24 (.tmp 32)) rfl ?_; refine ox (by kernel_rfl) 24 (.tmp 32) rfl w.heap.size 4 rfl B1 18 ak _ underlying24 rfl pt LA1 LAa.out ?_)
  | (refine nh (.load 24 (.tmp 34)) rfl ?_; refine ox (by kernel_rfl) 24 (.tmp 34) rfl (w.heap.size + 1) 4 rfl B2 18 ak _ underlying24 rfl pt LA2 LAb.out ?_))
 refine (X2.out _ HB).mono ?_;rintro _ w2 ⟨rfl, c2⟩;clear a1 b1 k1 a2 b2 k2 a3 b3 k3 EA a22 b22 X2;replace B1 := B1.below c2 B1.lt;replace B2 := B2.below c2 B2.lt;replace HB := nc HB HB.size c2;clear c2;cases q5 with
 | false => exact jT
 | true =>
 have a23 := B1.nf 23 A23.out;have b23 := B2.nf 23 E23.out;go_wp2_with fail;refine (X3.out _ HB).mono ?_;rintro _ w3 ⟨rfl, c3⟩;clear a23 b23 X3;replace B1 := B1.below c3 B1.lt;replace B2 := B2.below c3 B2.lt;replace HB := nc HB HB.size c3;clear c3;cases q6 with
 | false => exact jT
 | true =>
 have a24 := B1.nf 24 A24.out;have b24 := B2.nf 24 E24.out;have k7 := h7.out;cases q7 with
 | false => exact jT
 | true =>
 have a25 := B1.nf 25 A25.out;have WU := B2.nf 25 E25.out;have k8 := h8.out;cases q8 with
 | false => exact jT
 | true =>
 have a26 := B1.nf 26 A26.out;have b26 := B2.nf 26 E26.out;have k9 := h9.out;cases q9 with
 | false => exact jT
 | true =>
 cases q10 with
 | false =>
  go_wp2_with (first
   | (refine nh (.load 117 (.tmp 74)) rfl ?_; refine ox (by kernel_rfl) 117 (.tmp 74) rfl w.heap.size 27 rfl B1 5 ak _ underlying117 rfl pN LN1 LNa.out ?_)
   | (refine nh (.load 117 (.tmp 76)) rfl ?_; refine ox (by kernel_rfl) 117 (.tmp 76) rfl (w.heap.size + 1) 27 rfl B2 5 ak _ underlying117 rfl pN LN2 LNb.out ?_))
  exact jY
 | true =>
 have a32 := B1.nf 32 A32.out;have b32 := B2.nf 32 E32.out;have k11 := h11.out;cases q11 with
 | false =>
  go_wp2_with (first
   | (refine nh (.load 117 (.tmp 74)) rfl ?_; refine ox (by kernel_rfl) 117 (.tmp 74) rfl w.heap.size 27 rfl B1 5 ak _ underlying117 rfl pN LN1 LNa.out ?_)
   | (refine nh (.load 117 (.tmp 76)) rfl ?_; refine ox (by kernel_rfl) 117 (.tmp 76) rfl (w.heap.size + 1) 27 rfl B2 5 ak _ underlying117 rfl pN LN2 LNb.out ?_))
  exact jY
 | true =>
  go_wp2_with (first
   | (refine nh (.load 117 (.tmp 74)) rfl ?_; refine ox (by kernel_rfl) 117 (.tmp 74) rfl w.heap.size 27 rfl B1 5 ak _ underlying117 rfl pN LN1 LNa.out ?_)
   | (refine nh (.load 117 (.tmp 76)) rfl ?_; refine ox (by kernel_rfl) 117 (.tmp 76) rfl (w.heap.size + 1) 27 rfl B2 5 ak _ underlying117 rfl pN LN2 LNb.out ?_))
  exact jY
end Go.Proofs.YthnbcmlnpdabhaaGreat

/-
  The reference's layer 14: SameQuestion, SameRRs; heads held against each other.
-/
import Derived.Test.YthnbcmlnpdabhaaGreatHUq
import Derived.Test.YthnbcmlnpdabhaaGreatRd10q
namespace Go.Proofs.YthnbcmlnpdabhaaGreat
open _root_.Go.Proofs.Tryz
open Go.RowKit
set_option maxRecDepth 100000
set_option linter.unusedVariables false
set_option linter.unusedSimpArgs false
theorem Jz (a b : Qn) : decide (a = b) = (decide (a.name = b.name) && ((a.ty == b.ty) && (a.cl == b.cl))) := by
 rw [Bool.eq_iff_iff];obtain ⟨a0, a1, a2⟩ := a;obtain ⟨b0, b1, b2⟩ := b;simp
set_option maxHeartbeats 1000000 in
theorem Mr (An Bn : Option Addr) (cn dn : Nat) (a b : Qn) (w : World) (hA : rQ w An cn a.name) (hB : rQ w Bn dn b.name) :
  Calls prog 80 #[.agg (qC (.slice An a.name.length cn) a).toArray, .agg (qC (.slice Bn b.name.length dn) b).toArray] w (nM (.bool (decide (a = b))) w) := by
 rw [Jz];have HB0 : Below w.heap.size w ((w.alloc (.cells #[.slice An a.name.length cn, .int .i64 a.ty, .int .i64 a.cl] 28)).alloc (.cells #[.slice Bn b.name.length dn, .int .i64 b.ty, .int .i64 b.cl] 28)) := eG;have X := Hh (wC An Bn a.name b.name cn dn _ (hA.below HB0).1 (hB.below HB0).1 aM (by have := hB.2.2.1; omega));have B1' := (nj.new w 28 [.slice An a.name.length cn, .int .i64 a.ty, .int .i64 a.cl]).alloc (.cells #[.slice Bn b.name.length dn, .int .i64 b.ty, .int .i64 b.cl] 28);have B2' := nj.ph (w.alloc (.cells #[.slice An a.name.length cn, .int .i64 a.ty, .int .i64 a.cl] 28)) 28 [.slice Bn b.name.length dn, .int .i64 b.ty, .int .i64 b.cl] (w.heap.size + 1) ag;unfold qC;clear hA hB;generalize decide (a.name = b.name) = q0 at *;generalize a.name.length = n1 at *;generalize b.name.length = n2 at *;obtain ⟨q1, h1⟩ : ∃ q, Hid ((a.ty == b.ty) = q) := eD;obtain ⟨q2, h2⟩ : ∃ q, Hid ((a.cl == b.cl) = q) := eD;rw [h1.out, h2.out];generalize a.ty = ta at *;generalize b.ty = tb at *;generalize a.cl = la at *;generalize b.cl = lb at *;go_enter func80, ntmps80;go_wp2_with fail;refine X.out.mono ?_;rintro _ w1 ⟨rfl, b1⟩;have B1 := B1'.below b1 B1'.lt;have B2 := B2'.below b1 B2'.lt;have HB := nc HB0 HB0.size b1;clear X B1' B2' HB0 b1;cases q0 with
 | false => exact jT
 | true =>
 have a1 := B1.nf 1 rfl;have b1 := B2.nf 1 rfl;have k1 := h1.out;cases q1 with
 | false => exact jT
 | true =>
 have a2 := B1.nf 2 rfl;have b2 := B2.nf 2 rfl;have k2 := h2.out;cases q2 with
 | false => exact jT
 | true => exact jT
theorem TT {α : Type} {a b : List α} {k : Nat} (h1 : k < a.length) (h2 : k < b.length) (h : a[k] ≠ b[k]) : a ≠ b := by
 intro e; subst e; exact h rfl
set_option maxHeartbeats 1000000 in
theorem vO (A B : Option Addr) (ca cb : Nat) (la lb : List RR) (w : World) (hA : EP w A la) (hB : EP w B lb) (lla : la.length <= 17592186044416) (llb : lb.length <= 17592186044416) :
  Calls prog 81 #[.slice A la.length ca, .slice B lb.length cb] w (nM (.bool (decide (la = lb))) w) := by
 by_cases hl : la.length = lb.length
 case neg => have hd : decide (la = lb) = false := decide_eq_false (fun h => hl bf);have hl' : ((la.length : Int) != (lb.length : Int)) = true := al;rw [hd];clear hd hl hA hB;go_enter func81, ntmps81;exact lx
 have hl' : ((la.length : Int) != (lb.length : Int)) = false := al;obtain ⟨q, hq⟩ : ∃ q, Hid (decide (la = lb) = q) := eD;rw [hq.out];go_enter func81, ntmps81;go_wp2_with fail;go_loopw [5] (fun iv wr => ∃ k : Nat, k <= la.length /\ iv = .int .i64 k /\ (∀ i (h1 : i < la.length) (h2 : i < lb.length), i < k -> la[i] = lb[i]) /\ Below w.heap.size w wr) (fun iv _ => la.length - (intOf iv).toNat)
 case atStart => exact ⟨0, Nat.zero_le _, rfl, fun i _ _ h => absurd h ak, Below.refl _ _⟩
 obtain ⟨k, hk, rfl, he, hb⟩ := hrel;have HE := Hh he;clear he;by_cases hlt : k < la.length
 case pos =>
  have hlt' : (k : Int) < la.length := ak;have hlb : k < lb.length := ak;have hlb' : (k : Int) < lb.length := ak;obtain ⟨ba, oa, eA, hba, hel⟩ := hA ak;obtain ⟨bb, ob, eB, hbb, hem⟩ := hB ak;subst eA;subst eB;obtain ⟨ck, r1, i1⟩ := hel k hlt;obtain ⟨dk, r2, i2⟩ := hem k hlb;have l1 := (show ck.length = 33 by obtain ⟨_, _, _, _, _, _, rfl, hr, _⟩ := i1; exact pn hr);have l2 := (show dk.length = 33 by obtain ⟨_, _, _, _, _, _, rfl, hr, _⟩ := i2; exact pn hr);have S := Hh (fun w' (b : Below w.heap.size w w') => Js ck dk la[k] lb[k] w' (i1.below b) (i2.below b));obtain ⟨s, hs⟩ : ∃ s, Hid (decide (la[k] = lb[k]) = s) := eD;rw [hs.out] at S;clear hel hem i1 i2;go_wp2_with fail;refine rH (by kernel_rfl) (by kernel_rfl) ?_
  (refine nS (v := (.slice (some ⟨ba, oa, none⟩) la.length ca)) rfl (fun W hW => by first | (go_simp; done) | (go_simp; omega)) ?_; simp only [Act.put, nB, nC, nD])
  (refine nS (v := (.int .i64 k)) rfl (fun W hW => by first | (go_simp; done) | (go_simp; omega)) ?_; simp only [Act.put, nB, nC, nD])
  (refine nS (v := (.pointer (some ⟨ba, oa + k * 33, none⟩))) rfl (fun W hW => by first | (go_simp; done) | (go_simp; omega)) ?_; simp only [Act.put, nB, nC, nD])
  refine pI 119 (.tmp 19) rfl ⟨ba, oa + k * 33, none⟩ rfl rfl (fun W hW => run_loadAt_mid W ba (oa + k * 33) 119 ck _ (nO (nO r1 hb hba) hW (Nat.lt_of_lt_of_le hba hb.size)) underlying119 rfl (by rw [l1]; exact oG)) ?_;simp only [Act.put, nB, nC, nD]
  (refine nS (v := (.slice (some ⟨bb, ob, none⟩) lb.length cb)) rfl (fun W hW => by first | (go_simp; done) | (go_simp; omega)) ?_; simp only [Act.put, nB, nC, nD])
  (refine nS (v := (.int .i64 k)) rfl (fun W hW => by first | (go_simp; done) | (go_simp; omega)) ?_; simp only [Act.put, nB, nC, nD])
  (refine nS (v := (.pointer (some ⟨bb, ob + k * 33, none⟩))) rfl (fun W hW => by first | (go_simp; done) | (go_simp; omega)) ?_; simp only [Act.put, nB, nC, nD])
  refine pI 119 (.tmp 23) rfl ⟨bb, ob + k * 33, none⟩ rfl rfl (fun W hW => run_loadAt_mid W bb (ob + k * 33) 119 dk _ (nO (nO r2 hb hbb) hW (Nat.lt_of_lt_of_le hbb hb.size)) underlying119 rfl (by rw [l2]; exact oG)) ?_;simp only [Act.put, nB, nC, nD];refine rA 124 #[.agg ck.toArray, .agg dk.toArray] rfl (fun W => by go_simp) (fun W hW => nM.xK hW (S.out W (nc hb hb.size hW))) ?_;simp only [Act.put, nB, nC, nD]
  (refine nS (v := (.bool (!s))) rfl (fun W hW => by first | (go_simp; done) | (go_simp; omega)) ?_; simp only [Act.put, nB, nC, nD])
  refine wpQuiet_nil ?_;intro w4 hb4;have HB4 := nc hb hb.size hb4;clear S hb4 hb;cases s with
  | false =>
   obtain rfl : q = false := by rw [<- hq.out];exact mS
   clear hq hs HE;go_wp2_with fail;go_ret;exact nM.mk rfl HB4
  | true =>
   have e := of_decide_eq_true hs.out;go_wp2_with fail;go_roundw
   case rel => exact ⟨k + 1, ak, eh, fun i h1 h2 h3 => by
    by_cases hi : i = k
    ·subst hi; exact e
    ·
     exact HE.out i h1 h2 ak, HB4⟩
   case measure => simp [intOf]; omega
 obtain rfl : k = la.length := ak;have hlt' : ¬ (la.length : Int) < la.length := ak;obtain rfl : q = true := by rw [<- hq.out];exact decide_eq_true (List.ext_getElem hl (fun i h1 h2 => HE.out i h1 h2 h1))
 clear HE hq;go_wp2_with fail;go_ret;exact nM.mk rfl hb
theorem Ms : (prog.fieldsOf 46).toList = [{ name := "ID", type := 3, offset := 0, embedded := false, tag := "", pkgPath := "", byteOffset := 0 }, { name := "QR", type := 4, offset := 1, embedded := false, tag := "", pkgPath := "", byteOffset := 8 }, { name := "Opcode", type := 3, offset := 2, embedded := false, tag := "", pkgPath := "", byteOffset := 16 }, { name := "AA", type := 4, offset := 3, embedded := false, tag := "", pkgPath := "", byteOffset := 24 }, { name := "TC", type := 4, offset := 4, embedded := false, tag := "", pkgPath := "", byteOffset := 25 }, { name := "RD", type := 4, offset := 5, embedded := false, tag := "", pkgPath := "", byteOffset := 26 }, { name := "RA", type := 4, offset := 6, embedded := false, tag := "", pkgPath := "", byteOffset := 27 }, { name := "AD", type := 4, offset := 7, embedded := false, tag := "", pkgPath := "", byteOffset := 28 }, { name := "CD", type := 4, offset := 8, embedded := false, tag := "", pkgPath := "", byteOffset := 29 }, { name := "Rcode", type := 3, offset := 9, embedded := false, tag := "", pkgPath := "", byteOffset := 32 }] := by kernel_rfl
set_option maxHeartbeats 1000000 in
theorem Sq (a b : Hd) (w : World) : (Op.equalIn 10000 46 (.agg a.pc.toArray) (.agg b.pc.toArray)).run prog w = .ok (decide (a = b)) w := by
 rw [run_equalIn_struct w 9999 46 _ _ (by unfold Program.fieldsOf; rw [underlying46]) (by kernel_rfl), Ms];have p0 : ∀ (x : Hd) (w : World), (part 3 x.pc.toArray 0).run prog w = .ok (.int .i64 x.id) w := fF;have e0 : (Op.equalIn 9999 3 (.int .i64 a.id) (.int .i64 b.id)).run prog w = .ok (a.id == b.id) w := eW;have p1 : ∀ (x : Hd) (w : World), (part 4 x.pc.toArray 1).run prog w = .ok (.bool x.qr) w := eL;have e1 : (Op.equalIn 9999 4 (.bool a.qr) (.bool b.qr)).run prog w = .ok (a.qr == b.qr) w := eX;have p2 : ∀ (x : Hd) (w : World), (part 3 x.pc.toArray 2).run prog w = .ok (.int .i64 x.op) w := fF;have e2 : (Op.equalIn 9999 3 (.int .i64 a.op) (.int .i64 b.op)).run prog w = .ok (a.op == b.op) w := eW;have p3 : ∀ (x : Hd) (w : World), (part 4 x.pc.toArray 3).run prog w = .ok (.bool x.aa) w := eL;have e3 : (Op.equalIn 9999 4 (.bool a.aa) (.bool b.aa)).run prog w = .ok (a.aa == b.aa) w := eX;have p4 : ∀ (x : Hd) (w : World), (part 4 x.pc.toArray 4).run prog w = .ok (.bool x.tc) w := eL;have e4 : (Op.equalIn 9999 4 (.bool a.tc) (.bool b.tc)).run prog w = .ok (a.tc == b.tc) w := eX;have p5 : ∀ (x : Hd) (w : World), (part 4 x.pc.toArray 5).run prog w = .ok (.bool x.rd) w := eL;have e5 : (Op.equalIn 9999 4 (.bool a.rd) (.bool b.rd)).run prog w = .ok (a.rd == b.rd) w := eX;have p6 : ∀ (x : Hd) (w : World), (part 4 x.pc.toArray 6).run prog w = .ok (.bool x.ra) w := eL;have e6 : (Op.equalIn 9999 4 (.bool a.ra) (.bool b.ra)).run prog w = .ok (a.ra == b.ra) w := eX;have p7 : ∀ (x : Hd) (w : World), (part 4 x.pc.toArray 7).run prog w = .ok (.bool x.ad) w := eL;have e7 : (Op.equalIn 9999 4 (.bool a.ad) (.bool b.ad)).run prog w = .ok (a.ad == b.ad) w := eX;have p8 : ∀ (x : Hd) (w : World), (part 4 x.pc.toArray 8).run prog w = .ok (.bool x.cd) w := eL;have e8 : (Op.equalIn 9999 4 (.bool a.cd) (.bool b.cd)).run prog w = .ok (a.cd == b.cd) w := eX;have p9 : ∀ (x : Hd) (w : World), (part 3 x.pc.toArray 9).run prog w = .ok (.int .i64 x.rc) w := fF;have e9 : (Op.equalIn 9999 3 (.int .i64 a.rc) (.int .i64 b.rc)).run prog w = .ok (a.rc == b.rc) w := eW;simp only [Op.eqFields, ne_eq, String.reduceEq, not_false_eq_true, if_true, Sem.run_bind, p0, p1, p2, p3, p4, p5, p6, p7, p8, p9, e0, e1, e2, e3, e4, e5, e6, e7, e8, e9, Result.andThen_ok, Sem.run_ite, Sem.run_pure];clear p0 e0 p1 e1 p2 e2 p3 e3 p4 e4 p5 e5 p6 e6 p7 e7 p8 e8 p9 e9;obtain ⟨a0, a1, a2, a3, a4, a5, a6, a7, a8, a9⟩ := a;obtain ⟨b0, b1, b2, b3, b4, b5, b6, b7, b8, b9⟩ := b;simp only [Hd.mk.injEq];by_cases h0 : a0 = b0
 case neg => simp [h0]
 by_cases h1 : a1 = b1
 case neg => simp [h0, h1]
 by_cases h2 : a2 = b2
 case neg => simp [h0, h1, h2]
 by_cases h3 : a3 = b3
 case neg => simp [h0, h1, h2, h3]
 by_cases h4 : a4 = b4
 case neg => simp [h0, h1, h2, h3, h4]
 by_cases h5 : a5 = b5
 case neg => simp [h0, h1, h2, h3, h4, h5]
 by_cases h6 : a6 = b6
 case neg => simp [h0, h1, h2, h3, h4, h5, h6]
 by_cases h7 : a7 = b7
 case neg => simp [h0, h1, h2, h3, h4, h5, h6, h7]
 by_cases h8 : a8 = b8
 case neg => simp [h0, h1, h2, h3, h4, h5, h6, h7, h8]
 by_cases h9 : a9 = b9
 case neg => simp [h0, h1, h2, h3, h4, h5, h6, h7, h8, h9]
 simp [h0, h1, h2, h3, h4, h5, h6, h7, h8, h9]
theorem JA (a b : oh) : decide (a = b) = (decide (a.hd = b.hd) && (decide (a.qs = b.qs) && (decide (a.an = b.an) && (decide (a.au = b.au) && decide (a.ex = b.ex))))) := by
 rw [Bool.eq_iff_iff];obtain ⟨a0, a1, a2, a3, a4⟩ := a;obtain ⟨b0, b1, b2, b3, b4⟩ := b;simp
set_option maxHeartbeats 4000000 in
theorem AG (cs ds : List Value) (m m' : oh) (Aq Aa Au Ae Bq Ba Bu Be : Option Addr) (cq ca cu ce dq da du de : Nat) (w : World) (h : uG w cs m Aq Aa Au Ae cq ca cu ce) (h' : uG w ds m' Bq Ba Bu Be dq da du de) :
  Calls prog 21 #[.agg cs.toArray, .agg ds.toArray] w (nM (.bool (decide (m = m'))) w) := by
 rw [JA];have hcs := h.hcs;have hds := h'.hcs;have hl : cs.length = 14 := gA;have hl2 : ds.length = 14 := by rw [hds]; exact tV _ _ _ _ _
 have L10 : cs[10]? = some (.slice Aq m.qs.length cq) := aZ;have L11 : cs[11]? = some (.slice Aa m.an.length ca) := aZ;have L12 : cs[12]? = some (.slice Au m.au.length cu) := aZ;have L13 : cs[13]? = some (.slice Ae m.ex.length ce) := aZ;have M10 : ds[10]? = some (.slice Bq m'.qs.length dq) := bd;have M11 : ds[11]? = some (.slice Ba m'.an.length da) := bd;have M12 : ds[12]? = some (.slice Bu m'.au.length du) := bd;have M13 : ds[13]? = some (.slice Be m'.ex.length de) := bd;have LH1 : Hid ((cs.drop 0).take 10 = m.hd.pc) := Hh aZ;have LH2 : Hid ((ds.drop 0).take 10 = m'.hd.pc) := Hh bd;have EH := Sq m.hd m'.hd;have SA := Hh (fun w' (b : Below w.heap.size w w') => vO Aa Ba ca da m.an m'.an w' (h.ha.below b) (h'.ha.below b) h.la h'.la);have SU := Hh (fun w' (b : Below w.heap.size w w') => vO Au Bu cu du m.au m'.au w' (h.hu.below b) (h'.hu.below b) h.lu h'.lu);have SE := Hh (fun w' (b : Below w.heap.size w w') => vO Ae Be ce de m.ex m'.ex w' (h.he.below b) (h'.he.below b) h.le h'.le);have hq := h.hq;have hq' := h'.hq;have lq := h.lq;have lq' := h'.lq;clear hcs hds h h';generalize decide (m.hd = m'.hd) = qh at *;generalize decide (m.an = m'.an) = qa at *;generalize decide (m.au = m'.au) = qu at *;generalize decide (m.ex = m'.ex) = qe at *;generalize m.hd.pc = H1 at *;generalize m'.hd.pc = H2 at *;generalize m.qs = Q at *;generalize m'.qs = Q' at *;generalize m.an.length = na at *;generalize m'.an.length = na' at *;generalize m.au.length = nu at *;generalize m'.au.length = nu' at *;generalize m.ex.length = ne at *;generalize m'.ex.length = ne' at *;have B1 := (nj.new w 50 cs).alloc (.cells ds.toArray 50);have B2 := nj.ph (w.alloc (.cells cs.toArray 50)) 50 ds (w.heap.size + 1) ag;have HB : Below w.heap.size w ((w.alloc (.cells cs.toArray 50)).alloc (.cells ds.toArray 50)) := eG;cases qh with
 | false =>
  go_enter func21, ntmps21;go_wp2_with (first
   | (refine nh (.load 46 (.tmp 6)) rfl ?_; go_must (refine ni rfl _ _ rfl w.heap.size 0 rfl B1 10 ak _ underlying46 rfl uY H1 LH1.out ?_))
   | (refine nh (.load 46 (.tmp 8)) rfl ?_; go_must (refine ni rfl _ _ rfl (w.heap.size + 1) 0 rfl B2 10 ak _ underlying46 rfl uY H2 LH2.out ?_)))
  exact jY
 | true =>
 have c10 := B1.nf 10 L10;have d10 := B2.nf 10 M10;by_cases hll : Q.length = Q'.length
 case neg =>
  have hd : decide (Q = Q') = false := decide_eq_false (fun h => hll bf);have hl' : ((Q.length : Int) != (Q'.length : Int)) = true := al;rw [hd];clear hd hll hq hq';go_enter func21, ntmps21;go_wp2_with (first
   | (refine nh (.load 46 (.tmp 6)) rfl ?_; go_must (refine ni rfl _ _ rfl w.heap.size 0 rfl B1 10 ak _ underlying46 rfl uY H1 LH1.out ?_))
   | (refine nh (.load 46 (.tmp 8)) rfl ?_; go_must (refine ni rfl _ _ rfl (w.heap.size + 1) 0 rfl B2 10 ak _ underlying46 rfl uY H2 LH2.out ?_)))
  exact jY
 have hl' : ((Q.length : Int) != (Q'.length : Int)) = false := al;obtain ⟨q, hqq⟩ : ∃ q, Hid (decide (Q = Q') = q) := eD;rw [hqq.out];go_enter func21, ntmps21;go_wp2_with (first
  | (refine nh (.load 46 (.tmp 6)) rfl ?_; go_must (refine ni rfl _ _ rfl w.heap.size 0 rfl B1 10 ak _ underlying46 rfl uY H1 LH1.out ?_))
  | (refine nh (.load 46 (.tmp 8)) rfl ?_; go_must (refine ni rfl _ _ rfl (w.heap.size + 1) 0 rfl B2 10 ak _ underlying46 rfl uY H2 LH2.out ?_)))
 obtain ⟨w1, hw1⟩ : ∃ w1, w1 = (w.alloc (.cells cs.toArray 50)).alloc (.cells ds.toArray 50) := eE;rw [<- hw1] at B1 B2 HB c10 d10 ⊢;clear hw1 EH LH1 LH2;go_loopw [5] (fun iv wr => ∃ k : Nat, k <= Q.length /\ iv = .int .i64 k /\ (∀ i (h1 : i < Q.length) (h2 : i < Q'.length), i < k -> Q[i] = Q'[i]) /\ Below w1.heap.size w1 wr) (fun iv _ => Q.length - (intOf iv).toNat)
 case atStart => exact ⟨0, Nat.zero_le _, rfl, fun i _ _ h => absurd h ak, Below.refl _ _⟩
 clear c10 d10;obtain ⟨k, hk, rfl, he, hb⟩ := hrel;have HE := Hh he;have Br1 := B1.below hb B1.lt;have Br2 := B2.below hb B2.lt;have HBr := nc HB HB.size hb;have c10 := Br1.nf 10 L10;have d10 := Br2.nf 10 M10;clear he;by_cases hlt : k < Q.length
 case pos =>
  have hlt' : (k : Int) < Q.length := ak;have hlb : k < Q'.length := ak;have hlb' : (k : Int) < Q'.length := ak;obtain ⟨ba, oa, eA, hba, hel⟩ := hq ak;obtain ⟨bb, ob, eB, hbb, hem⟩ := hq' ak;subst eA;subst eB;obtain ⟨An, cn, r1, i1⟩ := hel k hlt;obtain ⟨Bn, dn, r2, i2⟩ := hem k hlb;have S := Hh (fun w' (b : Below w.heap.size w w') => Mr An Bn cn dn Q[k] Q'[k] w' (i1.below b) (i2.below b));obtain ⟨s, hs⟩ : ∃ s, Hid (decide (Q[k] = Q'[k]) = s) := eD;rw [hs.out] at S;have e1 : (qC (.slice An (Q[k]'hlt).name.length cn) (Q[k]'hlt)).length = 3 := rfl;have e2 : (qC (.slice Bn (Q'[k]'hlb).name.length dn) (Q'[k]'hlb)).length = 3 := rfl;generalize qC (.slice An (Q[k]'hlt).name.length cn) (Q[k]'hlt) = ck at *;generalize qC (.slice Bn (Q'[k]'hlb).name.length dn) (Q'[k]'hlb) = dk at *;clear hel hem i1 i2;go_wp2_with fail;refine rH (by kernel_rfl) (by kernel_rfl) ?_
  (refine nS (v := (.pointer (some ⟨w.heap.size, 10, none⟩))) rfl (fun W hW => by first | (go_simp; done) | (go_simp; omega)) ?_; simp only [Act.put, nB, nC, nD])
  refine pI 47 (.tmp 27) rfl ⟨w.heap.size, 10, none⟩ rfl rfl (fun W hW => nN underlying47 rfl ((Br1.below hW Br1.lt).nf 10 L10)) ?_;simp only [Act.put, nB, nC, nD]
  (refine nS (v := (.int .i64 k)) rfl (fun W hW => by first | (go_simp; done) | (go_simp; omega)) ?_; simp only [Act.put, nB, nC, nD])
  (refine nS (v := (.pointer (some ⟨ba, oa + k * 3, none⟩))) rfl (fun W hW => by first | (go_simp; done) | (go_simp; omega)) ?_; simp only [Act.put, nB, nC, nD])
  refine pI 28 (.tmp 30) rfl ⟨ba, oa + k * 3, none⟩ rfl rfl (fun W hW => run_loadAt_mid W ba (oa + k * 3) 28 ck _ (nO (nO r1 HBr hba) hW (Nat.lt_of_lt_of_le hba HBr.size)) underlying28 rfl (by rw [e1]; exact rD)) ?_;simp only [Act.put, nB, nC, nD]
  (refine nS (v := (.pointer (some ⟨w.heap.size + 1, 10, none⟩))) rfl (fun W hW => by first | (go_simp; done) | (go_simp; omega)) ?_; simp only [Act.put, nB, nC, nD])
  refine pI 47 (.tmp 32) rfl ⟨w.heap.size + 1, 10, none⟩ rfl rfl (fun W hW => nN underlying47 rfl ((Br2.below hW Br2.lt).nf 10 M10)) ?_;simp only [Act.put, nB, nC, nD]
  (refine nS (v := (.int .i64 k)) rfl (fun W hW => by first | (go_simp; done) | (go_simp; omega)) ?_; simp only [Act.put, nB, nC, nD])
  (refine nS (v := (.pointer (some ⟨bb, ob + k * 3, none⟩))) rfl (fun W hW => by first | (go_simp; done) | (go_simp; omega)) ?_; simp only [Act.put, nB, nC, nD])
  refine pI 28 (.tmp 35) rfl ⟨bb, ob + k * 3, none⟩ rfl rfl (fun W hW => run_loadAt_mid W bb (ob + k * 3) 28 dk _ (nO (nO r2 HBr hbb) hW (Nat.lt_of_lt_of_le hbb HBr.size)) underlying28 rfl (by rw [e2]; exact rD)) ?_;simp only [Act.put, nB, nC, nD];refine rA 80 #[.agg ck.toArray, .agg dk.toArray] rfl (fun W => by go_simp) (fun W hW => nM.xK hW (S.out W (nc HBr HBr.size hW))) ?_;simp only [Act.put, nB, nC, nD]
  (refine nS (v := (.bool (!s))) rfl (fun W hW => by first | (go_simp; done) | (go_simp; omega)) ?_; simp only [Act.put, nB, nC, nD])
  refine wpQuiet_nil ?_;intro w4 hb4;have HB4 := nc HBr HBr.size hb4;have hb4' := nc hb hb.size hb4;clear S hb4 hb HBr Br1 Br2 c10 d10;cases s with
  | false =>
   obtain rfl : q = false := by rw [<- hqq.out];exact mS
   clear hqq hs HE;go_wp2_with fail;go_ret;exact nM.mk rfl HB4
  | true =>
   have e := of_decide_eq_true hs.out;have HEE := Hh e;clear e;go_wp2_with fail;go_roundw
   case rel => exact ⟨k + 1, ak, eh, fun i h1 h2 h3 => by
    by_cases hi : i = k
    ·subst hi; exact HEE.out
    ·
     exact HE.out i h1 h2 ak, hb4'⟩
   case measure => simp [intOf]; omega
 obtain rfl : k = Q.length := ak;have hlt' : ¬ (Q.length : Int) < Q.length := ak;obtain rfl : q = true := by rw [<- hqq.out];exact decide_eq_true (List.ext_getElem hll (fun i h1 h2 => HE.out i h1 h2 h1))
 have c11 := Br1.nf 11 L11;have d11 := Br2.nf 11 M11;clear HE hqq hq hq' hlt hk;go_wp2_with fail;refine (SA.out _ HBr).mono ?_;rintro _ w5 ⟨rfl, b5⟩;replace Br1 := Br1.below b5 Br1.lt;replace Br2 := Br2.below b5 Br2.lt;replace HBr := nc HBr HBr.size b5;clear b5 c10 d10 c11 d11 SA hb;cases qa with
 | false => exact my
 | true =>
 have c12 := Br1.nf 12 L12;have d12 := Br2.nf 12 M12;go_wp2_with fail;refine (SU.out _ HBr).mono ?_;rintro _ w6 ⟨rfl, b6⟩;replace Br1 := Br1.below b6 Br1.lt;replace Br2 := Br2.below b6 Br2.lt;replace HBr := nc HBr HBr.size b6;clear b6 c12 d12 SU;cases qu with
 | false => exact my
 | true =>
 have c13 := Br1.nf 13 L13;have d13 := Br2.nf 13 M13;go_wp2_with fail;refine (SE.out _ HBr).mono ?_;rintro _ w7 ⟨rfl, b7⟩;have HB7 := nc HBr HBr.size b7;clear b7 c13 d13 SE;cases qe;all_goals
  go_wp2_with fail;go_ret;exact nM.mk rfl HB7
end Go.Proofs.YthnbcmlnpdabhaaGreat

/-
  The reference's layer 14: SameQuestion, SameRRs; heads held against each other.
-/
import Derived.Test.YthnbcmlnpdabhaaGreatHUq
import Derived.Test.YthnbcmlnpdabhaaGreatRd10q
namespace Go.Proofs.YthnbcmlnpdabhaaGreat
open _root_.Go.Proofs.Tryz
open Go.RowKit
set_option maxRecDepth 100000
set_option linter.unusedVariables false
set_option linter.unusedSimpArgs false
theorem q_eq_split (a b : Qn) : decide (a = b) = (decide (a.name = b.name) && ((a.ty == b.ty) && (a.cl == b.cl))) := by
 rw [Bool.eq_iff_iff]
 obtain ⟨a0, a1, a2⟩ := a
 obtain ⟨b0, b1, b2⟩ := b
 simp
set_option maxHeartbeats 1000000 in
theorem sameQ_any (An Bn : Option Addr) (cn dn : Nat) (a b : Qn) (w : World) (hA : NmR w An cn a.name) (hB : NmR w Bn dn b.name) :
  Calls prog 80 #[.agg (qC (.slice An a.name.length cn) a).toArray, .agg (qC (.slice Bn b.name.length dn) b).toArray] w (RetB (.bool (decide (a = b))) w) := by
 rw [q_eq_split]
 have HB0 : Below w.heap.size w ((w.alloc (.cells #[.slice An a.name.length cn, .int .i64 a.ty, .int .i64 a.cl] 28)).alloc (.cells #[.slice Bn b.name.length dn, .int .i64 b.ty, .int .i64 b.cl] 28)) := ((Below.refl _ _).alloc (Nat.le_refl _) _).alloc (by simp) _
 have X := Hh (exact_any An Bn a.name b.name cn dn _ (hA.below HB0).1 (hB.below HB0).1 (by have := hA.2.2.1; omega) (by have := hB.2.2.1; omega))
 have B1' := (Blk.new w 28 [.slice An a.name.length cn, .int .i64 a.ty, .int .i64 a.cl]).alloc (.cells #[.slice Bn b.name.length dn, .int .i64 b.ty, .int .i64 b.cl] 28)
 have B2' := Blk.new' (w.alloc (.cells #[.slice An a.name.length cn, .int .i64 a.ty, .int .i64 a.cl] 28)) 28 [.slice Bn b.name.length dn, .int .i64 b.ty, .int .i64 b.cl] (w.heap.size + 1) (by simp)
 unfold qC
 clear hA hB
 generalize decide (a.name = b.name) = q0 at *
 generalize a.name.length = n1 at *
 generalize b.name.length = n2 at *
 obtain ⟨q1, h1⟩ : ∃ q, Hid ((a.ty == b.ty) = q) := ⟨_, Hh rfl⟩
 obtain ⟨q2, h2⟩ : ∃ q, Hid ((a.cl == b.cl) = q) := ⟨_, Hh rfl⟩
 rw [h1.out, h2.out]
 generalize a.ty = ta at *
 generalize b.ty = tb at *
 generalize a.cl = la at *
 generalize b.cl = lb at *
 go_enter func80, ntmps80
 go_wp2_with fail
 refine X.out.mono ?_
 rintro _ w1 ⟨rfl, b1⟩
 have B1 := B1'.below b1 B1'.lt
 have B2 := B2'.below b1 B2'.lt
 have HB := below_then HB0 HB0.size b1
 clear X B1' B2' HB0 b1
 cases q0 with
 | false =>
  go_wp2_with fail
  go_ret
  exact RetB.mk rfl HB
 | true =>
 have a1 := B1.cell_ 1 rfl
 have b1 := B2.cell_ 1 rfl
 have k1 := h1.out
 cases q1 with
 | false =>
  go_wp2_with fail
  go_ret
  exact RetB.mk rfl HB
 | true =>
 have a2 := B1.cell_ 2 rfl
 have b2 := B2.cell_ 2 rfl
 have k2 := h2.out
 cases q2 with
 | false =>
  go_wp2_with fail
  go_ret
  exact RetB.mk rfl HB
 | true =>
  go_wp2_with fail
  go_ret
  exact RetB.mk rfl HB
theorem ne_at {α : Type} {a b : List α} {k : Nat} (h1 : k < a.length) (h2 : k < b.length) (h : a[k] ≠ b[k]) : a ≠ b := by
 intro e; subst e; exact h rfl
set_option maxHeartbeats 1000000 in
theorem sameRRs_any (A B : Option Addr) (ca cb : Nat) (la lb : List RR) (w : World) (hA : RRsR w A la) (hB : RRsR w B lb) (lla : la.length ≤ 17592186044416) (llb : lb.length ≤ 17592186044416) :
  Calls prog 81 #[.slice A la.length ca, .slice B lb.length cb] w (RetB (.bool (decide (la = lb))) w) := by
 by_cases hl : la.length = lb.length
 case neg =>
  have hd : decide (la = lb) = false := decide_eq_false (fun h => hl (by rw [h]))
  have hl' : ((la.length : Int) != (lb.length : Int)) = true := by simp; omega
  rw [hd]
  clear hd hl hA hB
  go_enter func81, ntmps81
  go_wp2_with fail
  go_ret
  exact RetB.mk rfl (Below.refl _ _)
 have hl' : ((la.length : Int) != (lb.length : Int)) = false := by simp; omega
 obtain ⟨q, hq⟩ : ∃ q, Hid (decide (la = lb) = q) := ⟨_, Hh rfl⟩
 rw [hq.out]
 go_enter func81, ntmps81
 go_wp2_with fail
 go_loopw [5] (fun iv wr => ∃ k : Nat, k ≤ la.length ∧ iv = .int .i64 k ∧ (∀ i (h1 : i < la.length) (h2 : i < lb.length), i < k → la[i] = lb[i]) ∧ Below w.heap.size w wr) (fun iv _ => la.length - (intOf iv).toNat)
 case atStart => exact ⟨0, Nat.zero_le _, rfl, fun i _ _ h => absurd h (by omega), Below.refl _ _⟩
 obtain ⟨k, hk, rfl, he, hb⟩ := hrel
 have HE := Hh he
 clear he
 by_cases hlt : k < la.length
 case pos =>
  have hlt' : (k : Int) < la.length := by omega
  have hlb : k < lb.length := by omega
  have hlb' : (k : Int) < lb.length := by omega
  obtain ⟨ba, oa, eA, hba, hel⟩ := hA (by omega)
  obtain ⟨bb, ob, eB, hbb, hem⟩ := hB (by omega)
  subst eA
  subst eB
  obtain ⟨ck, r1, i1⟩ := hel k hlt
  obtain ⟨dk, r2, i2⟩ := hem k hlb
  have l1 := (show ck.length = 33 by obtain ⟨_, _, _, _, _, _, rfl, hr, _⟩ := i1; exact rrC_len hr)
  have l2 := (show dk.length = 33 by obtain ⟨_, _, _, _, _, _, rfl, hr, _⟩ := i2; exact rrC_len hr)
  have S := Hh (fun w' (b : Below w.heap.size w w') => same13_any ck dk la[k] lb[k] w' (i1.below b) (i2.below b))
  obtain ⟨s, hs⟩ : ∃ s, Hid (decide (la[k] = lb[k]) = s) := ⟨_, Hh rfl⟩
  rw [hs.out] at S
  clear hel hem i1 i2
  go_wp2_with fail
  refine wp_region_old (by kernel_rfl) (by kernel_rfl) ?_
  (refine wpQuiet_val (v := (.slice (some ⟨ba, oa, none⟩) la.length ca)) rfl (fun W hW => by first | (go_simp; done) | (go_simp; omega)) ?_; simp only [Act.put, lsA, lsB, lsC])
  (refine wpQuiet_val (v := (.int .i64 k)) rfl (fun W hW => by first | (go_simp; done) | (go_simp; omega)) ?_; simp only [Act.put, lsA, lsB, lsC])
  (refine wpQuiet_val (v := (.pointer (some ⟨ba, oa + k * 33, none⟩))) rfl (fun W hW => by first | (go_simp; done) | (go_simp; omega)) ?_; simp only [Act.put, lsA, lsB, lsC])
  refine wpQuiet_ld 119 (.tmp 19) rfl ⟨ba, oa + k * 33, none⟩ rfl rfl (fun W hW => run_loadAt_mid W ba (oa + k * 33) 119 ck _ (range_below (range_below r1 hb hba) hW (Nat.lt_of_lt_of_le hba hb.size)) underlying119 rfl (by rw [l1]; exact rrInfo)) ?_
  simp only [Act.put, lsA, lsB, lsC]
  (refine wpQuiet_val (v := (.slice (some ⟨bb, ob, none⟩) lb.length cb)) rfl (fun W hW => by first | (go_simp; done) | (go_simp; omega)) ?_; simp only [Act.put, lsA, lsB, lsC])
  (refine wpQuiet_val (v := (.int .i64 k)) rfl (fun W hW => by first | (go_simp; done) | (go_simp; omega)) ?_; simp only [Act.put, lsA, lsB, lsC])
  (refine wpQuiet_val (v := (.pointer (some ⟨bb, ob + k * 33, none⟩))) rfl (fun W hW => by first | (go_simp; done) | (go_simp; omega)) ?_; simp only [Act.put, lsA, lsB, lsC])
  refine wpQuiet_ld 119 (.tmp 23) rfl ⟨bb, ob + k * 33, none⟩ rfl rfl (fun W hW => run_loadAt_mid W bb (ob + k * 33) 119 dk _ (range_below (range_below r2 hb hbb) hW (Nat.lt_of_lt_of_le hbb hb.size)) underlying119 rfl (by rw [l2]; exact rrInfo)) ?_
  simp only [Act.put, lsA, lsB, lsC]
  refine wpQuiet_call 124 #[.agg ck.toArray, .agg dk.toArray] rfl (fun W => by go_simp) (fun W hW => RetB.old hW (S.out W (below_then hb hb.size hW))) ?_
  simp only [Act.put, lsA, lsB, lsC]
  (refine wpQuiet_val (v := (.bool (!s))) rfl (fun W hW => by first | (go_simp; done) | (go_simp; omega)) ?_; simp only [Act.put, lsA, lsB, lsC])
  refine wpQuiet_nil ?_
  intro w4 hb4
  have HB4 := below_then hb hb.size hb4
  clear S hb4 hb
  cases s with
  | false =>
   obtain rfl : q = false := by
    rw [← hq.out]
    exact decide_eq_false (ne_at hlt hlb (of_decide_eq_false hs.out))
   clear hq hs HE
   go_wp2_with fail
   go_ret
   exact RetB.mk rfl HB4
  | true =>
   have e := of_decide_eq_true hs.out
   go_wp2_with fail
   go_roundw
   case rel => exact ⟨k + 1, by omega, by go_num, fun i h1 h2 h3 => by
    by_cases hi : i = k
    ·
     subst hi; exact e
    ·
     exact HE.out i h1 h2 (by omega), HB4⟩
   case measure => simp [intOf]; omega
 obtain rfl : k = la.length := by omega
 have hlt' : ¬ (la.length : Int) < la.length := by omega
 obtain rfl : q = true := by
  rw [← hq.out]
  exact decide_eq_true (List.ext_getElem hl (fun i h1 h2 => HE.out i h1 h2 h1))
 clear HE hq
 go_wp2_with fail
 go_ret
 exact RetB.mk rfl hb
theorem fields_hd : (prog.fieldsOf 46).toList = [{ name := "ID", type := 3, offset := 0, embedded := false, tag := "", pkgPath := "", byteOffset := 0 }, { name := "QR", type := 4, offset := 1, embedded := false, tag := "", pkgPath := "", byteOffset := 8 }, { name := "Opcode", type := 3, offset := 2, embedded := false, tag := "", pkgPath := "", byteOffset := 16 }, { name := "AA", type := 4, offset := 3, embedded := false, tag := "", pkgPath := "", byteOffset := 24 }, { name := "TC", type := 4, offset := 4, embedded := false, tag := "", pkgPath := "", byteOffset := 25 }, { name := "RD", type := 4, offset := 5, embedded := false, tag := "", pkgPath := "", byteOffset := 26 }, { name := "RA", type := 4, offset := 6, embedded := false, tag := "", pkgPath := "", byteOffset := 27 }, { name := "AD", type := 4, offset := 7, embedded := false, tag := "", pkgPath := "", byteOffset := 28 }, { name := "CD", type := 4, offset := 8, embedded := false, tag := "", pkgPath := "", byteOffset := 29 }, { name := "Rcode", type := 3, offset := 9, embedded := false, tag := "", pkgPath := "", byteOffset := 32 }] := by kernel_rfl
set_option maxHeartbeats 1000000 in
theorem run_eqH (a b : Hd) (w : World) : (Op.equalIn 10000 46 (.agg a.vals.toArray) (.agg b.vals.toArray)).run prog w = .ok (decide (a = b)) w := by
 rw [run_equalIn_struct w 9999 46 _ _ (by unfold Program.fieldsOf; rw [underlying46]) (by kernel_rfl), fields_hd]
 have p0 : ∀ (x : Hd) (w : World), (part 3 x.vals.toArray 0).run prog w = .ok (.int .i64 x.id) w := fun x w => by simp [part, isAgg, run_underlying underlying3, Hd.vals]
 have e0 : (Op.equalIn 9999 3 (.int .i64 a.id) (.int .i64 b.id)).run prog w = .ok (a.id == b.id) w := run_equalIn_int w 9998 _ _ _ _ _ underlying3
 have p1 : ∀ (x : Hd) (w : World), (part 4 x.vals.toArray 1).run prog w = .ok (.bool x.qr) w := fun x w => by simp [part, isAgg, run_underlying underlying4, Hd.vals]
 have e1 : (Op.equalIn 9999 4 (.bool a.qr) (.bool b.qr)).run prog w = .ok (a.qr == b.qr) w := run_equalIn_bool w 9998 _ _ _ underlying4
 have p2 : ∀ (x : Hd) (w : World), (part 3 x.vals.toArray 2).run prog w = .ok (.int .i64 x.op) w := fun x w => by simp [part, isAgg, run_underlying underlying3, Hd.vals]
 have e2 : (Op.equalIn 9999 3 (.int .i64 a.op) (.int .i64 b.op)).run prog w = .ok (a.op == b.op) w := run_equalIn_int w 9998 _ _ _ _ _ underlying3
 have p3 : ∀ (x : Hd) (w : World), (part 4 x.vals.toArray 3).run prog w = .ok (.bool x.aa) w := fun x w => by simp [part, isAgg, run_underlying underlying4, Hd.vals]
 have e3 : (Op.equalIn 9999 4 (.bool a.aa) (.bool b.aa)).run prog w = .ok (a.aa == b.aa) w := run_equalIn_bool w 9998 _ _ _ underlying4
 have p4 : ∀ (x : Hd) (w : World), (part 4 x.vals.toArray 4).run prog w = .ok (.bool x.tc) w := fun x w => by simp [part, isAgg, run_underlying underlying4, Hd.vals]
 have e4 : (Op.equalIn 9999 4 (.bool a.tc) (.bool b.tc)).run prog w = .ok (a.tc == b.tc) w := run_equalIn_bool w 9998 _ _ _ underlying4
 have p5 : ∀ (x : Hd) (w : World), (part 4 x.vals.toArray 5).run prog w = .ok (.bool x.rd) w := fun x w => by simp [part, isAgg, run_underlying underlying4, Hd.vals]
 have e5 : (Op.equalIn 9999 4 (.bool a.rd) (.bool b.rd)).run prog w = .ok (a.rd == b.rd) w := run_equalIn_bool w 9998 _ _ _ underlying4
 have p6 : ∀ (x : Hd) (w : World), (part 4 x.vals.toArray 6).run prog w = .ok (.bool x.ra) w := fun x w => by simp [part, isAgg, run_underlying underlying4, Hd.vals]
 have e6 : (Op.equalIn 9999 4 (.bool a.ra) (.bool b.ra)).run prog w = .ok (a.ra == b.ra) w := run_equalIn_bool w 9998 _ _ _ underlying4
 have p7 : ∀ (x : Hd) (w : World), (part 4 x.vals.toArray 7).run prog w = .ok (.bool x.ad) w := fun x w => by simp [part, isAgg, run_underlying underlying4, Hd.vals]
 have e7 : (Op.equalIn 9999 4 (.bool a.ad) (.bool b.ad)).run prog w = .ok (a.ad == b.ad) w := run_equalIn_bool w 9998 _ _ _ underlying4
 have p8 : ∀ (x : Hd) (w : World), (part 4 x.vals.toArray 8).run prog w = .ok (.bool x.cd) w := fun x w => by simp [part, isAgg, run_underlying underlying4, Hd.vals]
 have e8 : (Op.equalIn 9999 4 (.bool a.cd) (.bool b.cd)).run prog w = .ok (a.cd == b.cd) w := run_equalIn_bool w 9998 _ _ _ underlying4
 have p9 : ∀ (x : Hd) (w : World), (part 3 x.vals.toArray 9).run prog w = .ok (.int .i64 x.rc) w := fun x w => by simp [part, isAgg, run_underlying underlying3, Hd.vals]
 have e9 : (Op.equalIn 9999 3 (.int .i64 a.rc) (.int .i64 b.rc)).run prog w = .ok (a.rc == b.rc) w := run_equalIn_int w 9998 _ _ _ _ _ underlying3
 simp only [Op.eqFields, ne_eq, String.reduceEq, not_false_eq_true, if_true, Sem.run_bind, p0, p1, p2, p3, p4, p5, p6, p7, p8, p9, e0, e1, e2, e3, e4, e5, e6, e7, e8, e9, Result.andThen_ok, Sem.run_ite, Sem.run_pure]
 clear p0 e0 p1 e1 p2 e2 p3 e3 p4 e4 p5 e5 p6 e6 p7 e7 p8 e8 p9 e9
 obtain ⟨a0, a1, a2, a3, a4, a5, a6, a7, a8, a9⟩ := a
 obtain ⟨b0, b1, b2, b3, b4, b5, b6, b7, b8, b9⟩ := b
 simp only [Hd.mk.injEq]
 by_cases h0 : a0 = b0
 case neg => simp [h0]
 by_cases h1 : a1 = b1
 case neg => simp [h0, h1]
 by_cases h2 : a2 = b2
 case neg => simp [h0, h1, h2]
 by_cases h3 : a3 = b3
 case neg => simp [h0, h1, h2, h3]
 by_cases h4 : a4 = b4
 case neg => simp [h0, h1, h2, h3, h4]
 by_cases h5 : a5 = b5
 case neg => simp [h0, h1, h2, h3, h4, h5]
 by_cases h6 : a6 = b6
 case neg => simp [h0, h1, h2, h3, h4, h5, h6]
 by_cases h7 : a7 = b7
 case neg => simp [h0, h1, h2, h3, h4, h5, h6, h7]
 by_cases h8 : a8 = b8
 case neg => simp [h0, h1, h2, h3, h4, h5, h6, h7, h8]
 by_cases h9 : a9 = b9
 case neg => simp [h0, h1, h2, h3, h4, h5, h6, h7, h8, h9]
 simp [h0, h1, h2, h3, h4, h5, h6, h7, h8, h9]
theorem m_eq_split (a b : Msg) : decide (a = b) = (decide (a.hd = b.hd) && (decide (a.qs = b.qs) && (decide (a.an = b.an) && (decide (a.au = b.au) && decide (a.ex = b.ex))))) := by
 rw [Bool.eq_iff_iff]
 obtain ⟨a0, a1, a2, a3, a4⟩ := a
 obtain ⟨b0, b1, b2, b3, b4⟩ := b
 simp
set_option maxHeartbeats 4000000 in
theorem same14_any (cs ds : List Value) (m m' : Msg) (Aq Aa Au Ae Bq Ba Bu Be : Option Addr) (cq ca cu ce dq da du de : Nat) (w : World) (h : MsgIs w cs m Aq Aa Au Ae cq ca cu ce) (h' : MsgIs w ds m' Bq Ba Bu Be dq da du de) :
  Calls prog 21 #[.agg cs.toArray, .agg ds.toArray] w (RetB (.bool (decide (m = m'))) w) := by
 rw [m_eq_split]
 have hcs := h.hcs
 have hds := h'.hcs
 have hl : cs.length = 14 := by rw [hcs]; exact msgC_len _ _ _ _ _
 have hl2 : ds.length = 14 := by rw [hds]; exact msgC_len _ _ _ _ _
 have L10 : cs[10]? = some (.slice Aq m.qs.length cq) := by rw [hcs]; rfl
 have L11 : cs[11]? = some (.slice Aa m.an.length ca) := by rw [hcs]; rfl
 have L12 : cs[12]? = some (.slice Au m.au.length cu) := by rw [hcs]; rfl
 have L13 : cs[13]? = some (.slice Ae m.ex.length ce) := by rw [hcs]; rfl
 have M10 : ds[10]? = some (.slice Bq m'.qs.length dq) := by rw [hds]; rfl
 have M11 : ds[11]? = some (.slice Ba m'.an.length da) := by rw [hds]; rfl
 have M12 : ds[12]? = some (.slice Bu m'.au.length du) := by rw [hds]; rfl
 have M13 : ds[13]? = some (.slice Be m'.ex.length de) := by rw [hds]; rfl
 have LH1 : Hid ((cs.drop 0).take 10 = m.hd.vals) := Hh (by rw [hcs]; rfl)
 have LH2 : Hid ((ds.drop 0).take 10 = m'.hd.vals) := Hh (by rw [hds]; rfl)
 have EH := run_eqH m.hd m'.hd
 have SA := Hh (fun w' (b : Below w.heap.size w w') => sameRRs_any Aa Ba ca da m.an m'.an w' (h.ha.below b) (h'.ha.below b) h.la h'.la)
 have SU := Hh (fun w' (b : Below w.heap.size w w') => sameRRs_any Au Bu cu du m.au m'.au w' (h.hu.below b) (h'.hu.below b) h.lu h'.lu)
 have SE := Hh (fun w' (b : Below w.heap.size w w') => sameRRs_any Ae Be ce de m.ex m'.ex w' (h.he.below b) (h'.he.below b) h.le h'.le)
 have hq := h.hq
 have hq' := h'.hq
 have lq := h.lq
 have lq' := h'.lq
 clear hcs hds h h'
 generalize decide (m.hd = m'.hd) = qh at *
 generalize decide (m.an = m'.an) = qa at *
 generalize decide (m.au = m'.au) = qu at *
 generalize decide (m.ex = m'.ex) = qe at *
 generalize m.hd.vals = H1 at *
 generalize m'.hd.vals = H2 at *
 generalize m.qs = Q at *
 generalize m'.qs = Q' at *
 generalize m.an.length = na at *
 generalize m'.an.length = na' at *
 generalize m.au.length = nu at *
 generalize m'.au.length = nu' at *
 generalize m.ex.length = ne at *
 generalize m'.ex.length = ne' at *
 have B1 := (Blk.new w 50 cs).alloc (.cells ds.toArray 50)
 have B2 := Blk.new' (w.alloc (.cells cs.toArray 50)) 50 ds (w.heap.size + 1) (by simp)
 have HB : Below w.heap.size w ((w.alloc (.cells cs.toArray 50)).alloc (.cells ds.toArray 50)) := ((Below.refl _ _).alloc (Nat.le_refl _) _).alloc (by simp) _
 cases qh with
 | false =>
  go_enter func21, ntmps21
  go_wp2_with (first
   | (refine at_op (.load 46 (.tmp 6)) rfl ?_; go_must (refine wpList_ldB rfl _ _ rfl w.heap.size 0 rfl B1 10 (by omega) _ underlying46 rfl hdInfo H1 LH1.out ?_))
   | (refine at_op (.load 46 (.tmp 8)) rfl ?_; go_must (refine wpList_ldB rfl _ _ rfl (w.heap.size + 1) 0 rfl B2 10 (by omega) _ underlying46 rfl hdInfo H2 LH2.out ?_)))
  go_ret
  exact RetB.mk rfl HB
 | true =>
 have c10 := B1.cell_ 10 L10
 have d10 := B2.cell_ 10 M10
 by_cases hll : Q.length = Q'.length
 case neg =>
  have hd : decide (Q = Q') = false := decide_eq_false (fun h => hll (by rw [h]))
  have hl' : ((Q.length : Int) != (Q'.length : Int)) = true := by simp; omega
  rw [hd]
  clear hd hll hq hq'
  go_enter func21, ntmps21
  go_wp2_with (first
   | (refine at_op (.load 46 (.tmp 6)) rfl ?_; go_must (refine wpList_ldB rfl _ _ rfl w.heap.size 0 rfl B1 10 (by omega) _ underlying46 rfl hdInfo H1 LH1.out ?_))
   | (refine at_op (.load 46 (.tmp 8)) rfl ?_; go_must (refine wpList_ldB rfl _ _ rfl (w.heap.size + 1) 0 rfl B2 10 (by omega) _ underlying46 rfl hdInfo H2 LH2.out ?_)))
  go_ret
  exact RetB.mk rfl HB
 have hl' : ((Q.length : Int) != (Q'.length : Int)) = false := by simp; omega
 obtain ⟨q, hqq⟩ : ∃ q, Hid (decide (Q = Q') = q) := ⟨_, Hh rfl⟩
 rw [hqq.out]
 go_enter func21, ntmps21
 go_wp2_with (first
  | (refine at_op (.load 46 (.tmp 6)) rfl ?_; go_must (refine wpList_ldB rfl _ _ rfl w.heap.size 0 rfl B1 10 (by omega) _ underlying46 rfl hdInfo H1 LH1.out ?_))
  | (refine at_op (.load 46 (.tmp 8)) rfl ?_; go_must (refine wpList_ldB rfl _ _ rfl (w.heap.size + 1) 0 rfl B2 10 (by omega) _ underlying46 rfl hdInfo H2 LH2.out ?_)))
 obtain ⟨w1, hw1⟩ : ∃ w1, w1 = (w.alloc (.cells cs.toArray 50)).alloc (.cells ds.toArray 50) := ⟨_, rfl⟩
 rw [← hw1] at B1 B2 HB c10 d10 ⊢
 clear hw1 EH LH1 LH2
 go_loopw [5] (fun iv wr => ∃ k : Nat, k ≤ Q.length ∧ iv = .int .i64 k ∧ (∀ i (h1 : i < Q.length) (h2 : i < Q'.length), i < k → Q[i] = Q'[i]) ∧ Below w1.heap.size w1 wr) (fun iv _ => Q.length - (intOf iv).toNat)
 case atStart => exact ⟨0, Nat.zero_le _, rfl, fun i _ _ h => absurd h (by omega), Below.refl _ _⟩
 clear c10 d10
 obtain ⟨k, hk, rfl, he, hb⟩ := hrel
 have HE := Hh he
 have Br1 := B1.below hb B1.lt
 have Br2 := B2.below hb B2.lt
 have HBr := below_then HB HB.size hb
 have c10 := Br1.cell_ 10 L10
 have d10 := Br2.cell_ 10 M10
 clear he
 by_cases hlt : k < Q.length
 case pos =>
  have hlt' : (k : Int) < Q.length := by omega
  have hlb : k < Q'.length := by omega
  have hlb' : (k : Int) < Q'.length := by omega
  obtain ⟨ba, oa, eA, hba, hel⟩ := hq (by omega)
  obtain ⟨bb, ob, eB, hbb, hem⟩ := hq' (by omega)
  subst eA
  subst eB
  obtain ⟨An, cn, r1, i1⟩ := hel k hlt
  obtain ⟨Bn, dn, r2, i2⟩ := hem k hlb
  have S := Hh (fun w' (b : Below w.heap.size w w') => sameQ_any An Bn cn dn Q[k] Q'[k] w' (i1.below b) (i2.below b))
  obtain ⟨s, hs⟩ : ∃ s, Hid (decide (Q[k] = Q'[k]) = s) := ⟨_, Hh rfl⟩
  rw [hs.out] at S
  have e1 : (qC (.slice An (Q[k]'hlt).name.length cn) (Q[k]'hlt)).length = 3 := rfl
  have e2 : (qC (.slice Bn (Q'[k]'hlb).name.length dn) (Q'[k]'hlb)).length = 3 := rfl
  generalize qC (.slice An (Q[k]'hlt).name.length cn) (Q[k]'hlt) = ck at *
  generalize qC (.slice Bn (Q'[k]'hlb).name.length dn) (Q'[k]'hlb) = dk at *
  clear hel hem i1 i2
  go_wp2_with fail
  refine wp_region_old (by kernel_rfl) (by kernel_rfl) ?_
  (refine wpQuiet_val (v := (.pointer (some ⟨w.heap.size, 10, none⟩))) rfl (fun W hW => by first | (go_simp; done) | (go_simp; omega)) ?_; simp only [Act.put, lsA, lsB, lsC])
  refine wpQuiet_ld 47 (.tmp 27) rfl ⟨w.heap.size, 10, none⟩ rfl rfl (fun W hW => run_load1 underlying47 rfl ((Br1.below hW Br1.lt).cell_ 10 L10)) ?_
  simp only [Act.put, lsA, lsB, lsC]
  (refine wpQuiet_val (v := (.int .i64 k)) rfl (fun W hW => by first | (go_simp; done) | (go_simp; omega)) ?_; simp only [Act.put, lsA, lsB, lsC])
  (refine wpQuiet_val (v := (.pointer (some ⟨ba, oa + k * 3, none⟩))) rfl (fun W hW => by first | (go_simp; done) | (go_simp; omega)) ?_; simp only [Act.put, lsA, lsB, lsC])
  refine wpQuiet_ld 28 (.tmp 30) rfl ⟨ba, oa + k * 3, none⟩ rfl rfl (fun W hW => run_loadAt_mid W ba (oa + k * 3) 28 ck _ (range_below (range_below r1 HBr hba) hW (Nat.lt_of_lt_of_le hba HBr.size)) underlying28 rfl (by rw [e1]; exact qInfo)) ?_
  simp only [Act.put, lsA, lsB, lsC]
  (refine wpQuiet_val (v := (.pointer (some ⟨w.heap.size + 1, 10, none⟩))) rfl (fun W hW => by first | (go_simp; done) | (go_simp; omega)) ?_; simp only [Act.put, lsA, lsB, lsC])
  refine wpQuiet_ld 47 (.tmp 32) rfl ⟨w.heap.size + 1, 10, none⟩ rfl rfl (fun W hW => run_load1 underlying47 rfl ((Br2.below hW Br2.lt).cell_ 10 M10)) ?_
  simp only [Act.put, lsA, lsB, lsC]
  (refine wpQuiet_val (v := (.int .i64 k)) rfl (fun W hW => by first | (go_simp; done) | (go_simp; omega)) ?_; simp only [Act.put, lsA, lsB, lsC])
  (refine wpQuiet_val (v := (.pointer (some ⟨bb, ob + k * 3, none⟩))) rfl (fun W hW => by first | (go_simp; done) | (go_simp; omega)) ?_; simp only [Act.put, lsA, lsB, lsC])
  refine wpQuiet_ld 28 (.tmp 35) rfl ⟨bb, ob + k * 3, none⟩ rfl rfl (fun W hW => run_loadAt_mid W bb (ob + k * 3) 28 dk _ (range_below (range_below r2 HBr hbb) hW (Nat.lt_of_lt_of_le hbb HBr.size)) underlying28 rfl (by rw [e2]; exact qInfo)) ?_
  simp only [Act.put, lsA, lsB, lsC]
  refine wpQuiet_call 80 #[.agg ck.toArray, .agg dk.toArray] rfl (fun W => by go_simp) (fun W hW => RetB.old hW (S.out W (below_then HBr HBr.size hW))) ?_
  simp only [Act.put, lsA, lsB, lsC]
  (refine wpQuiet_val (v := (.bool (!s))) rfl (fun W hW => by first | (go_simp; done) | (go_simp; omega)) ?_; simp only [Act.put, lsA, lsB, lsC])
  refine wpQuiet_nil ?_
  intro w4 hb4
  have HB4 := below_then HBr HBr.size hb4
  have hb4' := below_then hb hb.size hb4
  clear S hb4 hb HBr Br1 Br2 c10 d10
  cases s with
  | false =>
   obtain rfl : q = false := by
    rw [← hqq.out]
    exact decide_eq_false (ne_at hlt hlb (of_decide_eq_false hs.out))
   clear hqq hs HE
   go_wp2_with fail
   go_ret
   exact RetB.mk rfl HB4
  | true =>
   have e := of_decide_eq_true hs.out
   have HEE := Hh e
   clear e
   go_wp2_with fail
   go_roundw
   case rel => exact ⟨k + 1, by omega, by go_num, fun i h1 h2 h3 => by
    by_cases hi : i = k
    ·
     subst hi; exact HEE.out
    ·
     exact HE.out i h1 h2 (by omega), hb4'⟩
   case measure => simp [intOf]; omega
 obtain rfl : k = Q.length := by omega
 have hlt' : ¬ (Q.length : Int) < Q.length := by omega
 obtain rfl : q = true := by
  rw [← hqq.out]
  exact decide_eq_true (List.ext_getElem hll (fun i h1 h2 => HE.out i h1 h2 h1))
 have c11 := Br1.cell_ 11 L11
 have d11 := Br2.cell_ 11 M11
 clear HE hqq hq hq' hlt hk
 go_wp2_with fail
 refine (SA.out _ HBr).mono ?_
 rintro _ w5 ⟨rfl, b5⟩
 replace Br1 := Br1.below b5 Br1.lt
 replace Br2 := Br2.below b5 Br2.lt
 replace HBr := below_then HBr HBr.size b5
 clear b5 c10 d10 c11 d11 SA hb
 cases qa with
 | false =>
  go_wp2_with fail
  go_ret
  exact RetB.mk rfl HBr
 | true =>
 have c12 := Br1.cell_ 12 L12
 have d12 := Br2.cell_ 12 M12
 go_wp2_with fail
 refine (SU.out _ HBr).mono ?_
 rintro _ w6 ⟨rfl, b6⟩
 replace Br1 := Br1.below b6 Br1.lt
 replace Br2 := Br2.below b6 Br2.lt
 replace HBr := below_then HBr HBr.size b6
 clear b6 c12 d12 SU
 cases qu with
 | false =>
  go_wp2_with fail
  go_ret
  exact RetB.mk rfl HBr
 | true =>
 have c13 := Br1.cell_ 13 L13
 have d13 := Br2.cell_ 13 M13
 go_wp2_with fail
 refine (SE.out _ HBr).mono ?_
 rintro _ w7 ⟨rfl, b7⟩
 have HB7 := below_then HBr HBr.size b7
 clear b7 c13 d13 SE
 cases qe
 all_goals
  go_wp2_with fail
  go_ret
  exact RetB.mk rfl HB7
end Go.Proofs.YthnbcmlnpdabhaaGreat

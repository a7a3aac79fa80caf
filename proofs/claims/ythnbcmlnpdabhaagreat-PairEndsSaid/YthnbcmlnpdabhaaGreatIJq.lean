/-
  Layer 29 (xchg): reply.
-/
import Derived.Test.YthnbcmlnpdabhaaGreatIHq
namespace Go.Proofs.YthnbcmlnpdabhaaGreat
open _root_.Go.Proofs.Tryz
open Go.RowKit
set_option maxRecDepth 100000
set_option linter.unusedVariables false
set_option linter.unusedSimpArgs false
theorem hdI10 : (prog.info? 46).map (·.size) = some 10 := by kernel_rfl
theorem MsgOwn.head {w : World} {ds : List Value} {m : Msg} (h : MsgOwn w ds m) : (ds.drop 0).take 10 = m.hd.vals := by
 obtain ⟨vq, va, vu, ve, rfl, _⟩ := h
 rfl
set_option maxHeartbeats 4000000 in
theorem xreply_any (g gl : Nat) (vn : Value) (x : Xc) (L : Lt) (hs : Value) (conn : Bool) (qs : List Value) (dp : Option Nat) (ds : List Value) (m : Msg) (w : World) (h : XchgB w g gl vn x hs x.ednsB qs dp) (hl : LotAt w gl L) (hst : x.st) (hdn : x.done = false) (hk : x.k < x.tr.length) (hu : L.us ≤ 999999990) (hd : L.ds.length ≤ 17592186044416) (hsn : x.sent ≤ 1000000) (hc : conn = decide (x.lg = 2)) (hm : MsgOwn w ds m) :
  Calls prog 227 #[.pointer (some ⟨g, 0, none⟩), .agg ds.toArray, .bool conn] w (XRet g gl dp (toldX x L m) w) := by
 obtain ⟨R, hR⟩ : ∃ R, Hid (toldX x L m = R) := ⟨_, Hh rfl⟩
 rw [hR.out]
 have hdl := hm.len
 have hhd := hm.head
 have HM := Hh hm
 have HT : Hid (R = if verdOf m.hd conn x.ednsB = 1 then ({ x with done := true, vd := finalV x.q m, msg := m }, L, [])
  else if verdOf m.hd conn x.ednsB = 2 then legX x L 2
  else if verdOf m.hd conn x.ednsB = 3 then legX x L 1
  else if verdOf m.hd conn x.ednsB = 5 then nextX { x with hard := true } L
  else nextX x L) := Hh (by rw [hc, ← hR.out]; rfl)
 have VO := Hh (fun V => vof_any m.hd conn x.ednsB V)
 obtain ⟨lcs, hlc⟩ := lot_blk hl
 obtain ⟨M, vt, ds0, hb, hM, c4, c7, c9, c10, c13, c14, c15, c16, c17, c40, c41, c42, c43, c44, c45, c46, hTr, hm0⟩ := h.cells
 have gne := blk_ne hb hlc (by decide)
 have hgl := hb.lt
 obtain ⟨A, cA, hvn, hNR⟩ := h.nm.form
 have hnl := h.nm.2.1
 have HN := Hh hNR
 have H := Lib.hid h
 have HLT := Hh hl
 have HST := Hh hst
 have HB := Hh hb
 have C10 : Hid ((M.drop 10).take 3 = [.slice A x.q.name.length cA, .int .i64 x.q.ty, .int .i64 x.q.cl]) := Hh (by rw [c10, hvn]; rfl)
 have C40 := Hh c40
 have FI := Hh (fun V (hV : Below w.heap.size w V) => final_any x.q A cA ds m V (hNR.below hV) hnl (hm.below hV))
 have FN := Hh (fun V (hV : Below w.heap.size w V) => finish_any g gl vn x hs x.ednsB qs dp (finalV x.q m) ds m V (h.below hV) (hm.below hV))
 have CN := Hh (fun V hb => connect_any g gl vn x L hs x.ednsB qs dp V (h.below hb) (hl.below hb) hst hdn hk hu hd hsn)
 have SN := Hh (fun V hb => send_any g gl vn x L 1 hs x.ednsB false qs dp V (h.below hb) (hl.below hb) hst hdn hk hu hd hsn (by decide) rfl)
 have NX := Hh (fun V hb => next_any g gl vn x L hs x.ednsB qs dp V (h.below hb) (hl.below hb) hst hdn hk hu hd hsn)
 have NH : Hid (∀ V, Below w.heap.size w V → Calls prog 226 #[.pointer (some ⟨g, 0, none⟩)] (V.setCell ⟨g, 44, none⟩ (.bool true)) (XRet g gl dp (nextX { x with hard := true } L) V)) := Hh (fun V hV => by
  have G := grown_cell1 V g 44 (.bool true)
  have hX : XchgB (V.setCell ⟨g, 44, none⟩ (.bool true)) g gl vn { x with hard := true } hs x.ednsB qs dp := (h.below hV).put G rfl rfl rfl rfl rfl rfl h.ql (fun T vt ds hT hd hb => by
   have := hb.set 44 (.bool true)
   rwa [xc_sethard hT h.ql] at this)
  have fr : Fr (fun i => i = g) V (V.setCell ⟨g, 44, none⟩ (.bool true)) := Fr.grown G (hb.below hV hb.lt) (.inr (.inl rfl)) rfl
  exact (next_any g gl vn { x with hard := true } L hs x.ednsB qs dp _ hX ((hl.below hV).fr fr (fun e => gne e.symm)) ⟨hst.ips, hst.to1, hst.to2, hst.trl, hst.err⟩ hdn hk hu hd hsn).mono (fun e w' hx => hx.back (fr.mono (fun _ h => .inl h))))
 have f44 : ∀ V, Below w.heap.size w V → V.frozen? ⟨g, 44, none⟩ = false := fun V hV => (hb.below hV hb.lt).frozen 44
 have HF44 := Hh f44
 have D44 := Hh (fun V (hV : Below w.heap.size w V) => (hb.below hV hb.lt).cell_ 44 c44)
 have HX : Below w.heap.size w (w.alloc (.cells ds.toArray 50)) := (Below.refl _ _).alloc (Nat.le_refl _) _
 have BX := Blk.new w 50 ds
 clear hb hTr hm0 c4 c7 c9 c13 c14 c15 c16 c17 c40 c41 c42 c43 c44 c45 c46 hR h hl hst hc hm hlc hvn hNR f44
 generalize verdOf m.hd conn x.ednsB = vv at *
 generalize finalV x.q m = fv at *
 generalize x.ednsB = eb at *
 generalize m.hd.vals = hv at *
 obtain ⟨gm, hgm⟩ : ∃ gm, gm = w.heap.size := ⟨_, rfl⟩
 generalize x.q.name.length = nl at *
 obtain ⟨W0, hW0⟩ : ∃ W0, Hid (w.alloc (.cells ds.toArray 50) = W0) := ⟨_, Hh rfl⟩
 rw [hW0.out] at HX BX
 go_enter func227, ntmps227
 go_wp2_with fail
 rw [hW0.out]
 refine wp_region_held_drew (S := fun V => Below W0.heap.size W0 V) (by kernel_rfl) (Below.refl _ _).drew (fun hS => ?_)
 refine held_seq hS 7 [0,1,2,3,4,5,6] rfl (by kernel_rfl) (fun _ _ _ _ _ h => h) rfl rfl ?_
 repeat (refine ⟨_, _, rfl, .inl ⟨rfl, fun W hW => rfl⟩, ?_⟩; simp only [Act.put, lsA, lsB, lsC])
 (refine ⟨_, _, rfl, .inl ⟨rfl, fun V hV => (exec_ld 46 (.tmp 7) ⟨w.heap.size, 0, none⟩ rfl rfl ((BX.below hV BX.lt).loads 46 0 10 (by omega) _ underlying46 rfl hdI10 _ hhd))⟩, ?_⟩; simp only [Act.put, lsA, lsB, lsC])
 repeat (refine ⟨_, _, rfl, .inl ⟨rfl, fun W hW => rfl⟩, ?_⟩; simp only [Act.put, lsA, lsB, lsC])
 (refine ⟨_, _, rfl, .inl ⟨rfl, fun V hV => (exec_ld 4 (.tmp 12) ⟨g, 40, none⟩ rfl rfl (run_load1 underlying4 rfl ((HB.out.below (below_then HX HX.size hV) hgl).cell_ 40 C40.out)))⟩, ?_⟩; simp only [Act.put, lsA, lsB, lsC])
 simp only [SeqC]
 refine held_call 7 (some 14) 196 #[.agg hv.toArray, .bool conn, .bool eb] (by kernel_rfl) rfl rfl (by kernel_rfl) (by go_simp) (VO.out _) ?_
 rintro _ w4 ⟨rfl, b4⟩
 have hS := below_then hS hS.size b4
 refine ⟨_, rfl, hS, ?_⟩
 simp only [Act.put, lsA, lsB, lsC]
 refine wpAnyH_done (by kernel_rfl) ?_ _
 have HW := below_then HX HX.size hS
 have BW := BX.below hS BX.lt
 have FW : Hid (Fr (XS g gl dp) w w4) := Hh (Fr.below HW)
 clear HX BX hS b4 VO hhd C40
 by_cases v1 : vv = 1
 case pos =>
  have HR2 : Hid (R = ({ x with done := true, vd := fv, msg := m }, L, [])) := Hh (by rw [HT.out, if_pos v1])
  subst v1
  have LQ : ∀ V, Below w.heap.size w V → (Instr.loadAt 28 (.pointer (some ⟨g, 10, none⟩))).run prog V = .ok (.agg #[.slice A nl cA, .int .i64 x.q.ty, .int .i64 x.q.cl]) V := fun V hV => (HB.out.below hV hgl).loads 28 10 3 (by omega) _ underlying28 rfl qInfo _ C10.out
  have LQ2 : Hid (∀ V hs' eb' qs' dp', XchgB V g gl vn { x with done := true, vd := fv, msg := m } hs' eb' qs' dp' → (Instr.loadAt 28 (.pointer (some ⟨g, 10, none⟩))).run prog V = .ok (.agg #[.slice A nl cA, .int .i64 x.q.ty, .int .i64 x.q.cl]) V) := Hh (fun V hs' eb' qs' dp' hV => by
   obtain ⟨M', vt', ds', hb', hM', _, _, _, c10', _⟩ := hV.cells
   exact hb'.loads 28 10 3 (by omega) _ underlying28 rfl qInfo _ (c10'.trans (c10.symm.trans C10.out)))
  have LM : ∀ V, Blk V w.heap.size 50 ds → (Instr.loadAt 50 (.pointer (some ⟨w.heap.size, 0, none⟩))).run prog V = .ok (.agg ds.toArray) V := fun V hV => hV.loads 50 0 14 (by omega) _ underlying50 rfl msgInfo _ (tk0 (by omega))
  have HLM := Hh LM
  have HLQ := Hh LQ
  have hWd : Below w.heap.size w w4.drew := HW.drew
  have hS0 := And.intro (LQ _ hWd) (LM _ BW.drew)
  clear HT CN SN NX NH HF44 D44 C10 LQ LM c10
  go_wp2_with fail
  refine wp_region_held_drew (S := fun V => (Instr.loadAt 28 (.pointer (some ⟨g, 10, none⟩))).run prog V = .ok (.agg #[.slice A nl cA, .int .i64 x.q.ty, .int .i64 x.q.cl]) V ∧ (Instr.loadAt 50 (.pointer (some ⟨w.heap.size, 0, none⟩))).run prog V = .ok (.agg ds.toArray) V) (by kernel_rfl) hS0 (fun hS => ?_)
  refine held_seq hS 6 [0,1,2,3,4,5] rfl (by kernel_rfl) (fun _ _ _ _ _ h => h) rfl rfl ?_
  repeat (refine ⟨_, _, rfl, .inl ⟨rfl, fun W hW => rfl⟩, ?_⟩; simp only [Act.put, lsA, lsB, lsC])
  (refine ⟨_, _, rfl, .inl ⟨rfl, fun V hV => (exec_ld 28 (.tmp 20) ⟨g, 10, none⟩ rfl rfl hV.1)⟩, ?_⟩; simp only [Act.put, lsA, lsB, lsC])
  (refine ⟨_, _, rfl, .inl ⟨rfl, fun V hV => (exec_ld 50 (.tmp 4) ⟨w.heap.size, 0, none⟩ rfl rfl hV.2)⟩, ?_⟩; simp only [Act.put, lsA, lsB, lsC])
  simp only [SeqC]
  refine ord_one 6 (by kernel_rfl) ?_
  refine opw_call 6 (some 23) 197 #[.agg #[.slice A nl cA, .int .i64 x.q.ty, .int .i64 x.q.cl], .agg ds.toArray] rfl rfl (by kernel_rfl) (by go_simp) (FI.out _ hWd) ?_
  rintro _ w5 ⟨rfl, b5⟩
  have hW5 := below_then hWd hWd.size b5
  have BW5 : Blk w5 w.heap.size 50 ds := BW.drew.below b5 BW.drew.lt
  refine ⟨_, rfl, ⟨HLQ.out _ hW5, HLM.out _ BW5⟩, ?_⟩
  simp only [Act.put, lsA, lsB, lsC]
  refine ord_one 7 (by kernel_rfl) ?_
  refine opw_call 7 (some 24) 89 #[.pointer (some ⟨g, 0, none⟩), .agg (Value.int .i64 fv :: ds).toArray] rfl rfl (by kernel_rfl) (by go_simp) (FN.out _ hW5) ?_
  intro e9 w9 hf
  have B9 : Blk w9 w.heap.size 50 ds := hf.2.2.blk BW5 (by omega)
  have Q9 := LQ2.out w9 _ _ _ _ hf.2.1
  obtain ⟨he, hx⟩ := hf.x (L := L) (D := dp) (HLT.out.below hW5) gne
  rw [he]
  have HX := Hh (hx.back (Fr.below hW5))
  refine ⟨_, rfl, ⟨Q9, HLM.out _ B9⟩, ?_⟩
  clear he hf hx FI FN LQ2 HLM HLQ hS hS0 BW B9 Q9 BW5
  simp only [Act.put, lsA, lsB, lsC]
  refine wpAnyH_done (by kernel_rfl) ?_ _
  go_wp2_with fail
  go_ret
  rw [HR2.out]
  exact HX.out
 have n1 : (vv == 1) = false := by simpa using v1
 clear FI FN
 by_cases v2 : vv = 2
 case pos =>
  have HR2 : Hid (R = legX x L 2) := Hh (by rw [HT.out, if_neg v1, if_pos v2])
  subst v2
  have C := Hh (CN.out _ HW)
  clear HT CN SN NX NH HF44 D44 BW v1
  go_wp2_with fail
  refine (C.out).mono ?_
  intro e1 w9 hx
  have hx := hx.back FW.out
  obtain ⟨v, D', rfl, hx2⟩ := hx
  have HX := Hh hx2
  clear hx2 hx
  go_wp2_with fail
  go_ret
  rw [HR2.out]
  exact ⟨v, D', rfl, HX.out⟩
 have n2 : (vv == 2) = false := by simpa using v2
 by_cases v3 : vv = 3
 case pos =>
  have HR2 : Hid (R = legX x L 1) := Hh (by rw [HT.out, if_neg v1, if_neg v2, if_pos v3])
  subst v3
  have C := Hh (SN.out _ HW)
  clear HT CN SN NX NH HF44 D44 BW v1 v2
  go_wp2_with fail
  refine (C.out).mono ?_
  intro e1 w9 hx
  have hx := hx.back FW.out
  obtain ⟨v, D', rfl, hx2⟩ := hx
  have HX := Hh hx2
  clear hx2 hx
  go_wp2_with fail
  go_ret
  rw [HR2.out]
  exact ⟨v, D', rfl, HX.out⟩
 have n3 : (vv == 3) = false := by simpa using v3
 by_cases v5 : vv = 5
 case pos =>
  have HR2 : Hid (R = nextX { x with hard := true } L) := Hh (by rw [HT.out, if_neg v1, if_neg v2, if_neg v3, if_pos v5])
  subst v5
  have C := Hh (NH.out _ HW)
  have f44 := HF44.out _ HW
  have d44 := D44.out _ HW
  have hgw : g < w4.heap.size := Nat.lt_of_lt_of_le hgl HW.size
  clear HT CN SN NX NH HF44 D44 BW v1 v2 v3
  go_wp2_with fail
  refine (C.out).mono ?_
  intro e1 w9 hx
  have hx := hx.back FW.out
  obtain ⟨v, D', rfl, hx2⟩ := hx
  have HX := Hh hx2
  clear hx2 hx
  go_wp2_with fail
  go_ret
  rw [HR2.out]
  exact ⟨v, D', rfl, HX.out⟩
 have n5 : (vv == 5) = false := by simpa using v5
 have HR2 : Hid (R = nextX x L) := Hh (by rw [HT.out, if_neg v1, if_neg v2, if_neg v3, if_neg v5])
 have C := Hh (NX.out _ HW)
 clear HT CN SN NX NH HF44 D44 BW v1 v2 v3 v5
 go_wp2_with fail
 refine (C.out).mono ?_
 intro e1 w9 hx
 have hx := hx.back FW.out
 obtain ⟨v, D', rfl, hx2⟩ := hx
 have HX := Hh hx2
 clear hx2 hx
 go_wp2_with fail
 go_ret
 rw [HR2.out]
 exact ⟨v, D', rfl, HX.out⟩
theorem evI22 : (prog.info? 42).map (·.size) = some 22 := by kernel_rfl
theorem XchgAt.below {w w' : World} {g gl : Nat} {D : Option Nat} {x : Xc} (h : XchgAt w g gl D x) (k : Below w.heap.size w w') : XchgAt w' g gl D x := by
 obtain ⟨ok, vn, hs, eb, qs, hb, h1, h2⟩ := h
 refine ⟨ok, vn, hs, eb, qs, hb.below k, h1, fun hd => ?_⟩
 obtain ⟨a, b, c, d, e⟩ := h2 hd
 refine ⟨a, b, c, d, fun hl => ?_⟩
 obtain ⟨gd, hg, hD⟩ := e hl
 exact ⟨gd, hg, hD.below k⟩
theorem XchgAt.blk {w : World} {g gl : Nat} {D : Option Nat} {x : Xc} (h : XchgAt w g gl D x) : ∃ L, Blk w g 177 L := by
 obtain ⟨ok, vn, hs, eb, qs, hb, _⟩ := h
 obtain ⟨T, vt, ds, hb, _⟩ := hb.b
 exact ⟨_, hb⟩
theorem XRet.none {g gl : Nat} {D : Option Nat} {x : Xc} {L : Lt} {w w' : World} (h : XchgAt w' g gl D x) (hl : LotAt w' gl L) (k : Fr (XS g gl D) w w') : XRet g gl D (x, L, []) w (.returned nilS) w' := ⟨_, D, rfl, OusN.nil _ _, h, hl, k, fun i hi => .inl hi⟩
set_option maxHeartbeats 4000000 in
theorem datagram_any (g gl : Nat) (D : Option Nat) (x : Xc) (L : Lt) (e : Ev) (w : World) (h : XchgAt w g gl D x) (hl : LotAt w gl L) (hdn : x.done = false) (hlg : x.lg ≠ 2) (hip : e.fr.ip.length = 16) (hs : e.data.length ≤ maxLen) (hu : L.us ≤ 999999990) (hd : L.ds.length ≤ 17592186044416) (hsn : x.sent ≤ 1000000) :
  Calls prog 191 #[.pointer (some ⟨g, 0, none⟩), .agg (evC e).toArray] w (XRet g gl D (hearX x L e) w) := by
 obtain ⟨R, hR⟩ : ∃ R, Hid (hearX x L e = R) := ⟨_, Hh rfl⟩
 rw [hR.out]
 have HT : Hid (R = if e.kind = 1 then (if x.left ≤ 1 then nextX { x with left := x.left - 1 } L else ({ x with left := x.left - 1 }, L, []))
  else if (packP x.y e).2 then toldX x L (packP x.y e).1 else (x, L, [])) := Hh (by rw [← hR.out]; unfold hearX; rw [if_neg (by rw [hdn]; decide), if_neg hlg])
 have HAT := Lib.hid h
 obtain ⟨ok, vn, hv, eb, qs, hb, -, h2⟩ := h
 obtain ⟨hk, hl1, hl2, hyq, hysv, -⟩ := ok.go hdn
 have hst := ok.st hdn
 obtain ⟨hhv, heb, hqs, hD, -⟩ := h2 hdn
 have hD := hD hlg
 subst hD
 subst heb
 subst hqs
 have hyip : x.y.sv.ip.length = 16 := by rw [hysv]; exact getD_ip hst.ips _
 obtain ⟨lcs, hlc⟩ := lot_blk hl
 obtain ⟨T, vt, ds0, hbk, -⟩ := hb.b
 have gne := blk_ne hbk hlc (by decide)
 clear hbk hlc T vt ds0
 have hel := evC_len hip
 have E0 : (evC e)[0]? = some (.int .i64 e.kind) := rfl
 have HB := Hh hb
 have HLT := Hh hl
 have HST := Hh hst
 have HOK := Hh ok
 have hto : x.left ≤ 30 := Int.le_trans hl2 hst.to2
 have HX : Below w.heap.size w (w.alloc (.cells (evC e).toArray 42)) := (Below.refl _ _).alloc (Nat.le_refl _) _
 have E := Blk.new w 42 (evC e)
 have HE := Hh E
 have d0 := E.cell_ 0 E0
 obtain ⟨A, cA, hvn, hNR⟩ := hb.nm.form
 rw [← hyq] at hvn hNR
 have PK := Hh (fun V (hV : Below w.heap.size w V) => packet_any (qyC vn x.y) x.y A cA e V (QyIs.below ⟨by rw [hvn], hyip, hNR⟩ hV) hip hs)
 have HVN := Hh hhv
 clear hl hst ok hvn hNR hs hyq hysv hR E
 obtain ⟨w1, hw1⟩ : ∃ w1, Hid (w.alloc (.cells (evC e).toArray 42) = w1) := ⟨_, Hh rfl⟩
 rw [hw1.out] at HX HE
 have FX : Fr (XS g gl none) w w1 := Fr.below HX
 by_cases hk1 : e.kind = 1
 case pos =>
  rw [if_pos hk1] at HT
  have OV := Hh (over_any g gl vn x hv x.ednsB (qyC vn x.y) none w1 (hb.below HX) hl1 hto)
  unfold OvRet at OV
  rw [hk1] at d0
  clear hk1 PK HE hb E0 h2
  by_cases hl0 : x.left ≤ 1
  case pos =>
   rw [if_pos hl0] at HT
   rw [show decide (x.left - 1 ≤ 0) = true by simp; omega] at OV
   clear hl0
   generalize evC e = es at *
   go_enter func191, ntmps191
   go_wp2_with fail
   rw [hw1.out]
   refine OV.out.mono ?_
   rintro _ w2 ⟨rfl, hb2, g2⟩
   obtain ⟨T, vt, ds0, hbk, _⟩ := (HB.out.below HX).b
   have F2 := Fr.grown (S := fun i => i = g) g2 hbk (.inr (.inl rfl)) rfl
   have hl2 := (HLT.out.below HX).fr F2 (fun e => gne e.symm)
   have NX := Hh (next_any g gl vn { x with left := x.left - 1 } L hv x.ednsB (qyC vn x.y) none w2 hb2 hl2 ⟨HST.out.ips, HST.out.to1, HST.out.to2, HST.out.trl, HST.out.err⟩ hdn hk hu hd hsn)
   have FF := Hh (FX.trans (F2.mono (S' := XS g gl none) (fun _ h => .inl h)) (fun _ _ h => h))
   clear hbk hb2 g2 F2 hl2 OV d0 FX
   go_wp2_with fail
   refine NX.out.mono ?_
   intro e1 w9 hx
   have hx := hx.back FF.out
   obtain ⟨v, D', rfl, hx2⟩ := hx
   have HX2 := Hh hx2
   clear hx2 hx
   go_wp2_with fail
   go_ret
   rw [HT.out]
   exact ⟨v, D', rfl, HX2.out⟩
  case neg =>
   rw [if_neg hl0] at HT
   rw [show decide (x.left - 1 ≤ 0) = false by simp; omega] at OV
   have HL := Hh hl0
   clear hl0
   generalize evC e = es at *
   go_enter func191, ntmps191
   go_wp2_with fail
   rw [hw1.out]
   refine OV.out.mono ?_
   rintro _ w2 ⟨rfl, hb2, g2⟩
   obtain ⟨T, vt, ds0, hbk, _⟩ := (HB.out.below HX).b
   have F2 := Fr.grown (S := fun i => i = g) g2 hbk (.inr (.inl rfl)) rfl
   have hl3 := (HLT.out.below HX).fr F2 (fun e => gne e.symm)
   have FF := FX.trans (F2.mono (S' := XS g gl none) (fun _ h => .inl h)) (fun _ _ h => h)
   have FIN : Hid (XRet g gl none ({ x with left := x.left - 1 }, L, []) w (.returned nilS) w2) := Hh (XRet.none ⟨⟨fun _ => ⟨HST.out.ips, HST.out.to1, HST.out.to2, HST.out.trl, HST.out.err⟩, fun h => by
     obtain ⟨k1, k2, k3, k4, k5, k6⟩ := HOK.out.go h
     have := HL.out
     exact ⟨k1, by show 1 ≤ x.left - 1; omega, by show x.left - 1 ≤ x.tmo; omega, k4, k5, k6⟩⟩, ⟨vn, hv, _, _, hb2, fun _ => rfl, fun _ => ⟨HVN.out, rfl, rfl, fun _ => rfl, fun h => absurd h hlg⟩⟩⟩ hl3 FF)
   clear hbk hb2 g2 F2 hl3 OV d0 FX FF
   go_wp2_with fail
   go_ret
   rw [HT.out]
   exact FIN.out
 rw [if_neg hk1] at HT
 have hk1' : (e.kind == 1) = false := by simpa using hk1
 obtain ⟨M, hM, hMl, _, _, m23, _, _⟩ := (hb.below HX).qat hyip
 have LQ : ∀ V, Below w1.heap.size w1 V → (Instr.loadAt 37 (.pointer (some ⟨g, 17, none⟩))).run prog V = .ok (.agg (qyC vn x.y).toArray) V := fun V hV => (hM.below hV hM.lt).loads 37 17 23 (by omega) _ underlying37 rfl qyInfo _ m23
 have LE : ∀ V, Below w1.heap.size w1 V → (Instr.loadAt 42 (.pointer (some ⟨w.heap.size, 0, none⟩))).run prog V = .ok (.agg (evC e).toArray) V := fun V hV => (HE.out.below hV HE.out.lt).loads 42 0 22 (by omega) _ underlying42 rfl evI22 _ (tk0 (by omega))
 have HLQ := Hh LQ
 have HLE := Hh LE
 clear hk1 hb hM m23 LQ LE E0 h2 HE
 generalize qyC vn x.y = qs at *
 generalize e.kind = kd at *
 obtain ⟨pp, hpp⟩ : ∃ pp, Hid (packP x.y e = pp) := ⟨_, Hh rfl⟩
 rw [hpp.out] at PK HT
 generalize evC e = es at *
 clear hel hip
 go_enter func191, ntmps191
 go_wp2_with fail
 rw [hw1.out]
 go_upto_region 6 with fail
 go_cut [5, 6] (fun v5 v6 wx => ∃ gm ds, v5 = .pointer (some ⟨gm, 0, none⟩) ∧ v6 = .bool pp.2 ∧ Blk wx gm 50 ds ∧ MsgOwn wx ds pp.1 ∧ Below w1.heap.size w1 wx)
 case first =>
  refine wp_region_held_drew (S := fun V => Below w1.heap.size w1 V) (by kernel_rfl) (Below.refl _ _).drew (fun hS => ?_)
  refine held_seq hS 5 [0,1,2,3,4] rfl (by kernel_rfl) (fun _ _ _ _ _ h => h) rfl rfl ?_
  repeat (refine ⟨_, _, rfl, .inl ⟨rfl, fun W hW => rfl⟩, ?_⟩; simp only [Act.put, lsA, lsB, lsC])
  (refine ⟨_, _, rfl, .inl ⟨rfl, fun V hV => (exec_ld 37 (.tmp 17) ⟨g, 17, none⟩ rfl rfl (HLQ.out V hV))⟩, ?_⟩; simp only [Act.put, lsA, lsB, lsC])
  (refine ⟨_, _, rfl, .inl ⟨rfl, fun V hV => (exec_ld 42 (.tmp 3) ⟨w.heap.size, 0, none⟩ rfl rfl (HLE.out V hV))⟩, ?_⟩; simp only [Act.put, lsA, lsB, lsC])
  simp only [SeqC]
  refine ord_two 5 9 (by kernel_rfl) ?_ ?_
  ·
   refine opw_call 5 (some 20) 228 #[.agg qs.toArray, .agg es.toArray] rfl rfl (by kernel_rfl) (by go_simp) (PK.out _ (below_then HX HX.size hS)) ?_
   rintro _ w3 ⟨ds, rfl, hM, b3⟩
   have hdl := hM.len
   have hd1 := Hh hM.one
   have hS3 := below_then hS hS.size b3
   refine ⟨_, rfl, hS3, ?_⟩
   clear hS b3
   have hS := hS3
   clear hS3
   simp only [Act.put, lsA, lsB, lsC]
   refine held_seq hS 3 [6,7,8] rfl (by kernel_rfl) (fun _ _ _ _ _ h => h) rfl rfl ?_
   (refine ⟨_, (.tuple #[.agg ds.toArray, .bool pp.2]), rfl, .inl ⟨rfl, fun V hV => rfl⟩, ?_⟩; simp only [Act.put, lsA, lsB, lsC])
   (refine ⟨_, (.agg ds.toArray), rfl, .inl ⟨rfl, fun V hV => rfl⟩, ?_⟩; simp only [Act.put, lsA, lsB, lsC])
   (refine ⟨_, (.bool pp.2), rfl, .inl ⟨rfl, fun V hV => rfl⟩, ?_⟩; simp only [Act.put, lsA, lsB, lsC])
   simp only [SeqC]
   have kn : Below w3.heap.size w3 (w3.alloc (.cells msgZ.toArray 50)) := (Below.refl _ _).alloc (Nat.le_refl _) _
   have hS4 := below_then hS hS.size kn
   have hM4 := hM.below kn
   have Bz := Blk.new w3 50 msgZ
   have hz : w1.heap.size ≤ w3.heap.size := hS.size
   refine held_run 9 (some 5) (by kernel_rfl) rfl rfl (by kernel_rfl) (v := .pointer (some ⟨w3.heap.size, 0, none⟩)) (w' := w3.alloc (.cells msgZ.toArray 50)) (by kernel_rfl) hS4 ?_
   simp only [Act.put, lsA, lsB, lsC]
   clear hS hM kn
   have hS := hS4
   clear hS4
   generalize w3.alloc (.cells msgZ.toArray 50) = wz at *
   generalize w3.heap.size = gz at *
   refine held_stB 10 none 50 (.tmp 5) (.tmp 21) (by kernel_rfl) rfl rfl rfl (by kernel_rfl) gz 0 rfl ds rfl Bz (by have := msgZ_len; omega) (by rw [hdl]; exact msgInfo) hd1.out ?_
   intro w8 B8 g8 zs
   clear zs
   replace B8 : Blk w8 gz 50 ds := whole14 B8 (by have := msgZ_len; omega)
   have hM8 := hM4.blk g8 Bz
   have hS8 : Below w1.heap.size w1 w8 := below_grown hS g8 hS.size hz
   refine ⟨hS8, ?_⟩
   clear hS
   have hS := hS8
   simp only [Act.put, lsA, lsB, lsC]
   refine held_seq hS 1 [11] rfl (by kernel_rfl) (fun _ _ _ _ _ h => h) rfl rfl ?_
   (refine ⟨_, (.bool pp.2), rfl, .inl ⟨rfl, fun V hV => rfl⟩, ?_⟩; simp only [Act.put, lsA, lsB, lsC])
   simp only [SeqC]
   refine wpAnyH_done (by kernel_rfl) ?_ _
   go_wp2_with fail
   go_meet
   case rel => exact ⟨gz, ds, rfl, rfl, B8, hM8, hS8⟩
  ·
   have kn : Below w1.drew.heap.size w1.drew (w1.drew.alloc (.cells msgZ.toArray 50)) := (Below.refl _ _).alloc (Nat.le_refl _) _
   have hS4 := below_then hS hS.size kn
   have Bn := Blk.new w1.drew 50 msgZ
   have hz : w1.heap.size ≤ w1.drew.heap.size := hS.size
   refine opw_run 9 (some 5) (v := .pointer (some ⟨w1.drew.heap.size, 0, none⟩)) (w' := w1.drew.alloc (.cells msgZ.toArray 50)) rfl rfl (by kernel_rfl) (by kernel_rfl) ?_
   refine ⟨hS4, ?_⟩
   clear hS kn
   have hS := hS4
   clear hS4
   simp only [Act.put, lsA, lsB, lsC]
   generalize w1.drew.alloc (.cells msgZ.toArray 50) = wy at *
   generalize w1.drew.heap.size = gz at *
   refine held_call 5 (some 20) 228 #[.agg qs.toArray, .agg es.toArray] (by kernel_rfl) rfl rfl (by kernel_rfl) (by go_simp) (PK.out _ (below_then HX HX.size hS)) ?_
   rintro _ w3 ⟨ds, rfl, hM4, b3⟩
   have hdl := hM4.len
   have hd1 := Hh hM4.one
   have hS3 := below_then hS hS.size b3
   have Bz := Bn.below b3 Bn.lt
   refine ⟨_, rfl, hS3, ?_⟩
   clear hS b3 Bn
   have hS := hS3
   clear hS3
   simp only [Act.put, lsA, lsB, lsC]
   refine held_seq hS 3 [6,7,8] rfl (by kernel_rfl) (fun _ _ _ _ _ h => h) rfl rfl ?_
   (refine ⟨_, (.tuple #[.agg ds.toArray, .bool pp.2]), rfl, .inl ⟨rfl, fun V hV => rfl⟩, ?_⟩; simp only [Act.put, lsA, lsB, lsC])
   (refine ⟨_, (.agg ds.toArray), rfl, .inl ⟨rfl, fun V hV => rfl⟩, ?_⟩; simp only [Act.put, lsA, lsB, lsC])
   (refine ⟨_, (.bool pp.2), rfl, .inl ⟨rfl, fun V hV => rfl⟩, ?_⟩; simp only [Act.put, lsA, lsB, lsC])
   simp only [SeqC]
   refine held_stB 10 none 50 (.tmp 5) (.tmp 21) (by kernel_rfl) rfl rfl rfl (by kernel_rfl) gz 0 rfl ds rfl Bz (by have := msgZ_len; omega) (by rw [hdl]; exact msgInfo) hd1.out ?_
   intro w8 B8 g8 zs
   clear zs
   replace B8 : Blk w8 gz 50 ds := whole14 B8 (by have := msgZ_len; omega)
   have hM8 := hM4.blk g8 Bz
   have hS8 : Below w1.heap.size w1 w8 := below_grown hS g8 hS.size hz
   refine ⟨hS8, ?_⟩
   clear hS
   have hS := hS8
   simp only [Act.put, lsA, lsB, lsC]
   refine held_seq hS 1 [11] rfl (by kernel_rfl) (fun _ _ _ _ _ h => h) rfl rfl ?_
   (refine ⟨_, (.bool pp.2), rfl, .inl ⟨rfl, fun V hV => rfl⟩, ?_⟩; simp only [Act.put, lsA, lsB, lsC])
   simp only [SeqC]
   refine wpAnyH_done (by kernel_rfl) ?_ _
   go_wp2_with fail
   go_meet
   case rel => exact ⟨gz, ds, rfl, rfl, B8, hM8, hS8⟩
 obtain ⟨gm, ds, rfl, rfl, BM, hM5, H5⟩ := hcut
 have hdl := hM5.len
 have HB5 := below_then HX HX.size H5
 have FB := Hh (Fr.below (S := XS g gl none) HB5)
 have RP := Hh (xreply_any g gl vn x L hv false qs none ds pp.1 _ (HB.out.below HB5) (HLT.out.below HB5) HST.out hdn hk hu hd hsn (by simp [hlg]) hM5)
 have FIN := Hh (XRet.none (HAT.out.below HB5) (HLT.out.below HB5) FB.out)
 clear hM5 PK HLQ HLE d0 FX
 cases hp2 : pp.2 with
 | false =>
  rw [hp2] at HT
  clear RP BM
  go_wp2_with fail
  go_ret
  rw [HT.out]
  exact FIN.out
 | true =>
  rw [hp2] at HT
  have HT2 : Hid (R = toldX x L pp.1) := Hh (by rw [HT.out]; rfl)
  clear FIN HT
  go_wp2_with (refine at_op (.load 50 (.tmp 5)) rfl ?_; go_must (refine wpList_ldB rfl _ _ rfl gm 0 rfl BM 14 (by omega) _ underlying50 rfl msgInfo ds (tk0 (by omega)) ?_))
  refine RP.out.mono ?_
  intro e1 w9 hx
  have hx := hx.back FB.out
  obtain ⟨v, D', rfl, hx2⟩ := hx
  have HX2 := Hh hx2
  clear hx2 hx RP
  go_wp2_with fail
  go_ret
  rw [HT2.out]
  exact ⟨v, D', rfl, HX2.out⟩
end Go.Proofs.YthnbcmlnpdabhaaGreat

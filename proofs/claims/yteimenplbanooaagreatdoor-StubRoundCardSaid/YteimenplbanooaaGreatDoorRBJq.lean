/-
  Layer 32 (pair): Told.
-/
import Derived.Test.YteimenplbanooaaGreatDoorRBIq
import Derived.DeepKeys4
namespace Go.Proofs.YteimenplbanooaaGreatDoor
open _root_.Go.Proofs.Tryz
open Go.RowKit
set_option maxRecDepth 100000
set_option linter.unusedVariables false
set_option linter.unusedSimpArgs false
structure Td where
 q : Qn
 vd : Int
 m : Msg
def TdO (w : World) (cs : List Value) (t : Td) : Prop := ∃ vn ds, cs = qC vn t.q ++ (.int .i64 t.vd :: ds) ∧ NmL w vn t.q.name ∧ MsgOwn w ds t.m
theorem TdO.len {w : World} {cs : List Value} {t : Td} (h : TdO w cs t) : cs.length = 18 := by
 obtain ⟨vn, ds, rfl, _, h⟩ := h
 simp [qC, h.len]
theorem TdO.fr {S : Nat → Prop} {w w' : World} {cs : List Value} {t : Td} (h : TdO w cs t) (k : Fr S w w') : TdO w' cs t := by
 obtain ⟨vn, ds, e, n, m⟩ := h
 exact ⟨vn, ds, e, n.stays k.stays, k.msg m⟩
theorem TdO.one {w : World} {cs : List Value} {t : Td} (h : TdO w cs t) : ∀ v ∈ cs, v.oneCell' = true := by
 obtain ⟨vn, ds, rfl, n, m⟩ := h
 obtain ⟨A, c, rfl, _⟩ := n.form
 intro v hv
 rcases List.mem_append.1 hv with hv | hv
 ·
  simp only [qC, List.mem_cons, List.not_mem_nil, or_false] at hv
  rcases hv with rfl | rfl | rfl <;> rfl
 ·
  rcases List.mem_cons.1 hv with rfl | hv
  ·
   rfl
  ·
   exact m.one v hv
abbrev TdsO (w : World) (B : Nat) (v : Value) (l : List Td) : Prop := LOwn w B 284 18 (TdO w) v l
theorem TdsO.below {w w' : World} {B : Nat} {v : Value} {l : List Td} (h : TdsO w B v l) (k : Below w.heap.size w w') : TdsO w' B v l := LOwn.below h k (fun _ _ x => x.fr (Fr.below (S := fun _ => False) k))
def toldX' (x : Xc) : Td := ⟨x.q, x.vd, x.msg⟩
def toldL (l : List Xc) : List Td := (l.filter (·.done)).map toldX'
theorem toldL_take (l : List Xc) (i : Nat) (hi : i < l.length) : toldL (l.take (i + 1)) = toldL (l.take i) ++ (if l[i].done then [toldX' l[i]] else []) := by
 unfold toldL
 rw [List.take_succ_eq_append_getElem hi, List.filter_append, List.map_append]
 congr 1
 rw [List.filter_cons]
 split <;> rfl
theorem toldL_len (l : List Xc) (i : Nat) : (toldL (l.take i)).length ≤ i := by
 unfold toldL
 rw [List.length_map]
 refine Nat.le_trans (List.length_filter_le _ _) ?_
 rw [List.length_take]; omega
def ToldRet (l : List Td) (w : World) (e : Ending) (w' : World) : Prop := ∃ v, e = .returned v ∧ TdsO w' w.heap.size v l ∧ Below w.heap.size w w'
theorem td_buildL (Q O : List Value) (hq : Q.length = 3) (h : O.length = 15) (W : World) : (Instr.build 284 #[(0, .agg Q.toArray), (1, .agg O.toArray)]).run prog W = .ok (.agg (Q ++ O).toArray) W := by
 match Q, hq with
 | [a, b, c], _ => exact td_build a b c O h W
section
variable {w0 w : World} {b g gl : Nat} {X : List (Nat × Option Nat)} {p : Pr}
set_option maxHeartbeats 4000000 in
theorem ptold_any (h : PrAt w0 w b g gl X p) (hq : ∀ i x, p.bg[i]? = some x → x.q = qnP p i) (hl : p.bg.length ≤ p.tys.length) (hl2 : p.bg.length ≤ 2) : Calls prog 241 #[.pointer (some ⟨g, 0, none⟩)] w (ToldRet (toldL p.bg) w) := by
 obtain ⟨⟨T, vq, vb, a1, a2, a3, a4⟩, h5, h6, h7, h8, h9, h10⟩ := h
 obtain ⟨Ab, cb, hvb⟩ := a4.form
 obtain ⟨Aq, cq, hvq⟩ := a3.form
 subst hvb hvq
 have ROW := Hh (fun i hi => xs_row a4 h5 i hi)
 have d13 : w.cell? ⟨g, 13, none⟩ = some (.slice Ab (X.map (·.1)).length cb) := a1.c 3 rfl
 have hltg := a1.1.lt
 have HK := Hh a1
 have HQS := Hh a3
 have hXl : (X.map (·.1)).length = p.bg.length := by rw [List.length_map, h5.ln]
 obtain ⟨n, hn⟩ : ∃ n, Hid (p.bg.length = n) := ⟨_, Hh rfl⟩
 rw [hXl, hn.out] at d13
 rw [hn.out] at hl2
 have HQ := Hh hq
 have HL := Hh hl
 obtain ⟨mq, hmq⟩ : ∃ mq, Hid ((qsP p).length = mq) := ⟨_, Hh rfl⟩
 clear a1 a2 a3 a4 h5 h6 h7 h8 h9 h10 hXl hq hl
 go_enter func241, ntmps241
 go_wp2_with fail
 go_loopw [3, 13] (fun lv iv wr => ∃ (i : Nat) (l : List Td) (A1 : Option Addr) (c1 : Nat), i ≤ n ∧ iv = .int .i64 i ∧ lv = .slice A1 l.length c1 ∧ Hid (l = toldL (p.bg.take i)) ∧ l.length ≤ i ∧ Hid (TdsO wr w.heap.size (.slice A1 l.length c1) l) ∧ Below w.heap.size w wr) (fun _ iv _ => n - (intOf iv).toNat)
 case atStart => exact ⟨0, [], none, 0, Nat.zero_le _, rfl, rfl, Hh rfl, Nat.zero_le _, Hh (LOwn.nil _ _ _ _ _), Below.refl _ _⟩
 obtain ⟨i, l, A1, c1, hi, rfl, rfl, HLE, hli, HO, HB⟩ := hrel
 by_cases hlt : i < n
 case pos =>
  have hlt' : (i : Int) < n := by omega
  have hlp : i < p.bg.length := by rw [hn.out]; exact hlt
  obtain ⟨gs, off, gx, D, e1, e2, e3, e4, e5, e6, e7⟩ := ROW.out i hlp
  have f3 : wr.cell? ⟨gs, off + i, none⟩ = some (.pointer (some ⟨gx, 0, none⟩)) := (HB.cell (p := ⟨gs, off + i, none⟩) e2).trans e3
  have DN := Hh (xdone_any (e5.below HB))
  have OC := Hh (fun V (hV : Below w.heap.size w V) => outcome_any gx gl D p.bg[i] V (e5.below hV))
  have TT := Hh (toldL_take p.bg i hlp)
  have hqe := HQ.out i _ (List.getElem?_eq_getElem hlp)
  have hlq : i < (qsP p).length := by rw [qsP_len]; have := HL.out; omega
  obtain ⟨gq, hAq, hgq, hrow⟩ := LOwn.at_ (R := QI w) (k := 3) (fun _ _ x => x.len) HQS.out (by omega)
  obtain ⟨cx, hcx, vn, hcv, hNM2⟩ := hrow i hlq
  rw [qsP_get, ← hqe] at hcv hNM2
  obtain ⟨x, hx⟩ : ∃ x, p.bg[i] = x := ⟨_, rfl⟩
  rw [hx] at DN OC TT hcv hNM2
  unfold OcRet at OC
  have hmqi : i < mq := by rw [← hmq.out]; exact hlq
  have HKK := HK.out
  rw [hmq.out] at HKK
  have d13' : wr.cell? ⟨g, 13, none⟩ = some (.slice Ab n cb) := (HB.cell (p := ⟨g, 13, none⟩) hltg).trans d13
  subst e1 hAq
  clear e2 e3 e4 e5 e6 e7 hqe hrow hx hlp hlq
  obtain ⟨dn, hd⟩ : ∃ dn, x.done = dn := ⟨_, rfl⟩
  rw [hd] at DN TT
  clear hd
  go_upto_block 1 with fail
  go_cut [3] (fun lv wx => ∃ (l2 : List Td) (A2 : Option Addr) (c2 : Nat), lv = .slice A2 l2.length c2 ∧ Hid (l2 = toldL (p.bg.take (i + 1))) ∧ l2.length ≤ i + 1 ∧ Hid (TdsO wx w.heap.size (.slice A2 l2.length c2) l2) ∧ Below w.heap.size w wx)
  case first =>
   go_wp2_with fail
   refine DN.out.mono ?_
   rintro _ w2 ⟨rfl, rfl⟩
   clear DN d13'
   cases dn with
   | false =>
    simp only [Bool.false_eq_true, if_false, List.append_nil] at TT
    have HL2 : Hid (l = toldL (p.bg.take (i + 1))) := Hh (by rw [TT.out]; exact HLE.out)
    go_wp2_with fail
    go_meet
    case rel => exact ⟨l, A1, c1, rfl, HL2, by omega, HO, HB⟩
   | true =>
   simp only [if_true] at TT
   have HL2 : Hid (l ++ [toldX' x] = toldL (p.bg.take (i + 1))) := Hh (by rw [TT.out, HLE.out])
   obtain ⟨Q, hQ⟩ : ∃ Q, Hid (Q = qC vn x.q) := ⟨_, Hh rfl⟩
   rw [hcv, ← hQ.out] at hcx
   have hQl : Q.length = 3 := by rw [hQ.out]; rfl
   have HNM := Hh hNM2
   have HCX := Hh hcx
   have HKD := Hh HKK
   clear hcv hcx hNM2 HKK
   have BD : Below w.heap.size w wr.drew := HB.drew
   have OD := Hh (TdsO.below HO.out ((Below.refl _ _).drew))
   obtain ⟨vdx, hvd⟩ : ∃ vdx, Hid (x.vd = vdx) := ⟨_, Hh rfl⟩
   rw [hvd.out] at OC
   go_wp2_with fail
   refine wp_region_held_drew (S := fun V => Below w.heap.size w V) (by kernel_rfl) BD (fun hS => ?_)
   refine held_seq hS 9 [0, 1, 2, 3, 4, 5, 6, 7, 8] rfl (by kernel_rfl) (fun _ _ _ _ _ h => h) rfl rfl ?_
   (refine ⟨_, (.slice A1 l.length c1), rfl, .inl ⟨rfl, fun V hV => rfl⟩, ?_⟩; simp only [Act.put, lsA, lsB, lsC])
   (refine ⟨_, (.pointer (some ⟨g, 0, none⟩)), rfl, .inl ⟨rfl, fun V hV => rfl⟩, ?_⟩; simp only [Act.put, lsA, lsB, lsC])
   (refine ⟨_, (.pointer (some ⟨g, 0, none⟩)), rfl, .inl ⟨rfl, fun V hV => rfl⟩, ?_⟩; simp only [Act.put, lsA, lsB, lsC])
   (refine ⟨_, (.pointer (some ⟨g, 10, none⟩)), rfl, .inl ⟨rfl, fun V hV => rfl⟩, ?_⟩; simp only [Act.put, lsA, lsB, lsC])
   (refine ⟨_, _, rfl, .inl ⟨rfl, fun V hV => (exec_ld 278 (.tmp 23) ⟨g, 10, none⟩ rfl rfl (run_load1 underlying278 rfl ((hV.cell (p := ⟨g, 10, none⟩) hltg).trans (HKD.out.c 0 rfl))))⟩, ?_⟩; simp only [Act.put, lsA, lsB, lsC])
   (refine ⟨_, (.int .i64 i), rfl, .inl ⟨rfl, fun V hV => rfl⟩, ?_⟩; simp only [Act.put, lsA, lsB, lsC])
   (refine ⟨_, _, rfl, .inl ⟨rfl, fun V hV => (exec_ixK underlying278 qInfo (by decide) (.tmp 24) (.tmp 25) rfl rfl rfl hmqi V)⟩, ?_⟩; simp only [Act.put, lsA, lsB, lsC])
   (refine ⟨_, _, rfl, .inl ⟨rfl, fun V hV => (exec_ld 218 (.tmp 26) ⟨gq, 0 + i * 3, none⟩ rfl rfl (rangeK_loads (range_below HCX.out hV hgq) underlying218 rfl (by rw [hQl]; exact qInfo)))⟩, ?_⟩; simp only [Act.put, lsA, lsB, lsC])
   (refine ⟨_, (.pointer (some ⟨gx, 0, none⟩)), rfl, .inl ⟨rfl, fun V hV => rfl⟩, ?_⟩; simp only [Act.put, lsA, lsB, lsC])
   simp only [SeqC]
   refine held_call 9 (some 29) 223 #[.pointer (some ⟨gx, 0, none⟩)] (by kernel_rfl) rfl rfl (by kernel_rfl) (by go_simp) (OC.out _ hS) ?_
   rintro _ w4 ⟨ds, rfl, hM, b4⟩
   have hS4 := below_then hS hS.size b4
   refine ⟨_, rfl, hS4, ?_⟩
   have O4 := TdsO.below OD.out b4
   have hOl : (Value.int .i64 vdx :: ds).length = 15 := by simp [hM.len]
   have TI : TdO w4 (Q ++ (Value.int .i64 vdx :: ds)) (toldX' x) := ⟨vn, ds, by rw [hQ.out, ← hvd.out]; rfl, HNM.out.stays (Stays.below hS4), hM⟩
   have TB := Hh (fun V => td_buildL Q (Value.int .i64 vdx :: ds) hQl hOl V)
   obtain ⟨TD, hTD⟩ : ∃ TD, Q ++ (Value.int .i64 vdx :: ds) = TD := ⟨_, rfl⟩
   rw [hTD] at TB TI
   obtain ⟨OO, hOO⟩ : ∃ OO, Value.int .i64 vdx :: ds = OO := ⟨_, rfl⟩
   rw [hOO] at TB ⊢
   have hTl := TI.len
   have hT1 := TI.one
   have RBS := Hh (run_bsG (P := prog) w4 80 284 _ 18 184 underlying80 tdInfo3 (by decide) (by decide) TD hTl)
   have kz : Below w4.heap.size w4 (w4.alloc (.cells TD.toArray 284)) := (Below.refl _ _).alloc (Nat.le_refl _) _
   have Bz : Blk (w4.alloc (.cells TD.toArray 284)) w4.heap.size 284 TD := Blk.new w4 284 TD
   have Oz := TdsO.below O4 kz
   have Tz := TI.fr (Fr.below (S := fun _ => False) kz)
   have hSz := below_then hS4 hS4.size kz
   have hSz' := hSz
   obtain ⟨v', wb, hr, O6, g6⟩ := run_appL (P := prog) (w4.alloc (.cells TD.toArray 284)) 80 80 284 _ 18 184 underlying80 tdInfo3 (by kernel_rfl) (by decide) w.heap.size _ l Oz hSz.size w4.heap.size TD (toldX' x) Bz hTl hT1 Tz (by simp only [maxLen]; omega) (by omega)
   have F6 : Fr (TyS _ (fun t => t = 284) w.heap.size) (w4.alloc (.cells TD.toArray 284)) wb := Oz.appFrT g6 (by unfold StTy; decide) rfl
   have O7 : TdsO wb w.heap.size v' (l ++ [toldX' x]) := O6.stays (fun _ x => x) (fun _ _ h => h.fr F6)
   have hS7 := F6.toBelowT hSz hSz.size (Nat.le_refl _)
   obtain ⟨A2, c2, hv'⟩ := O7.form
   have HO7 := Hh O7
   obtain ⟨l2, hl2'⟩ : ∃ l2, l ++ [toldX' x] = l2 := ⟨_, rfl⟩
   have hll : l2.length = l.length + 1 := by rw [← hl2']; simp
   rw [hl2'] at HO7 HL2 hv'
   subst hv'
   clear O4 hOl TI hTl hT1 kz Bz Oz Tz hSz O6 g6 F6 O7 hM b4 OD OC HCX HKD HNM hOO hl2'
   clear hS
   have hS := hS4
   simp only [Act.put, lsA, lsB, lsC]
   refine held_seq hS 1 [10] rfl (by kernel_rfl) (fun _ _ _ _ _ h => h) rfl rfl ?_
   (refine ⟨_, (.agg TD.toArray), rfl, .inl ⟨rfl, fun V hV => (exec_bldH 284 _ rfl #[(0, .agg Q.toArray), (1, .agg OO.toArray)] (by kernel_rfl) (TB.out V))⟩, ?_⟩; simp only [Act.put, lsA, lsB, lsC])
   simp only [SeqC]
   refine ord_one 11 (by kernel_rfl) ?_
   refine opw_run 11 (some 31) rfl rfl (by kernel_rfl) (exec_bsG (.tmp 30) rfl rfl RBS.out) ?_
   refine ⟨hSz', ?_⟩
   simp only [Act.put, lsA, lsB, lsC]
   refine ord_one 12 (by kernel_rfl) ?_
   refine opw_run 12 (some 32) rfl rfl (by kernel_rfl) (exec_apG (.tmp 20) (.tmp 31) rfl rfl rfl rfl hr) ?_
   refine ⟨hS7, ?_⟩
   clear hS hr RBS TB hSz'
   have hS := hS7
   simp only [Act.put, lsA, lsB, lsC]
   refine held_seq hS 1 [13] rfl (by kernel_rfl) (fun _ _ _ _ _ h => h) rfl rfl ?_
   (refine ⟨_, (.slice A2 l2.length c2), rfl, .inl ⟨rfl, fun V hV => rfl⟩, ?_⟩; simp only [Act.put, lsA, lsB, lsC])
   simp only [SeqC]
   refine wpAnyH_done (by kernel_rfl) ?_ _
   go_wp2_with fail
   go_meet
   case rel => exact ⟨l2, A2, c2, rfl, HL2, by omega, HO7, hS⟩
  obtain ⟨l2, A2, c2, rfl, HL2, hl2', HO2, HB2⟩ := hcut
  obtain ⟨w5, rfl⟩ : ∃ w5, w5 = wc := ⟨_, rfl⟩
  go_wp2_with fail
  go_roundw
  case rel => exact ⟨i + 1, l2, A2, c2, by omega, by go_num, rfl, HL2, hl2', HO2, HB2⟩
  case measure => simp [intOf]; omega
 have hlt' : ¬ (i : Int) < n := by omega
 obtain rfl : i = n := by omega
 have hte : p.bg.take i = p.bg := by rw [← hn.out, List.take_length]
 rw [hte] at HLE
 clear ROW HQS HQ d13 HK
 go_wp2_with fail
 go_ret
 rw [← HLE.out]
 exact ⟨_, rfl, HO.out, HB⟩
end
theorem has_call (p : Addr) (a : Value) (V : World) : (callFunc 279 #[a, .pointer (some p)]).run prog V = .ok (.enter 279 #[a, .pointer (some p)]) V := by kernel_rfl
theorem TdO.vd {w : World} {cs : List Value} {t : Td} (h : TdO w cs t) : cs[3]? = some (.int .i64 t.vd) := by
 obtain ⟨vn, ds, rfl, _, _⟩ := h
 rfl
theorem hasv_any (w : World) (cs : List Value) (t : Td) (v : Int) (gv : Nat) (hl : cs.length = 18) (h : cs[3]? = some (.int .i64 t.vd)) (hv : w.cell? ⟨gv, 0, none⟩ = some (.int .i64 v)) (hg : gv < w.heap.size) :
  Calls prog 279 #[.agg cs.toArray, .pointer (some ⟨gv, 0, none⟩)] w (RetB (.bool (decide (t.vd = v))) w) := by
 have B := Blk.new w 284 cs
 have H : Below w.heap.size w (w.alloc (.cells cs.toArray 284)) := (Below.refl _ _).alloc (Nat.le_refl _) _
 have d3 := B.cell_ 3 h
 have dv := (H.cell (p := ⟨gv, 0, none⟩) hg).trans hv
 clear B h hv
 generalize t.vd = n at *
 by_cases e : n = v
 ·
  subst e
  have e' : (n == n) = true := by simp
  go_enter func279, ntmps279
  go_wp2_with fail
  go_ret
  exact RetB.mk (by simp) H
 ·
  have e' : (n == v) = false := by simpa using e
  rw [decide_eq_false e]
  go_enter func279, ntmps279
  go_wp2_with fail
  go_ret
  exact RetB.mk rfl H
theorem tdI18 : (prog.info? 284).map (·.size) = some 18 := by kernel_rfl
def IdxRet (l : List Td) (v : Int) (w : World) (e : Ending) (w' : World) : Prop := ∃ i : Int, e = .returned (.int .i64 i) ∧ (0 ≤ i ↔ ∃ t ∈ l, t.vd = v) ∧ Below w.heap.size w w'
set_option maxHeartbeats 1000000 in
theorem idx_any (w : World) (B : Nat) (A : Option Addr) (c : Nat) (l : List Td) (v : Int) (gv : Nat) (h : TdsO w B (.slice A l.length c) l) (hl : l.length ≤ 100) (hv : w.cell? ⟨gv, 0, none⟩ = some (.int .i64 v)) (hg : gv < w.heap.size) :
  Calls prog 309 #[.slice A l.length c, .func (.func 279) #[] #[.pointer (some ⟨gv, 0, none⟩)]] w (IdxRet l v w) := by
 have HH := Lib.hid h
 have CF := Hh (fun a V => has_call ⟨gv, 0, none⟩ a V)
 have HV := Hh hv
 obtain ⟨n, hn⟩ : ∃ n, Hid (l.length = n) := ⟨_, Hh rfl⟩
 rw [hn.out] at hl ⊢
 clear h hv
 go_enter func309, ntmps309
 go_wp2_with fail
 go_loopw [8] (fun iv wr => ∃ k : Nat, k ≤ n ∧ iv = .int .i64 k ∧ Hid (∀ i (hi : i < l.length), i < k → l[i].vd ≠ v) ∧ Below w.heap.size w wr) (fun iv _ => n - (intOf iv).toNat)
 case atStart => exact ⟨0, Nat.zero_le _, rfl, Hh (fun i hi c => absurd c (by omega)), Below.refl _ _⟩
 obtain ⟨k, hk, rfl, HS, HB⟩ := hrel
 by_cases hlt : k < n
 case pos =>
  have hlt' : (k : Int) < n := by omega
  have hlp : k < l.length := by rw [hn.out]; exact hlt
  obtain ⟨gs, hA, hgs, hrow⟩ := LOwn.at_ (R := TdO w) (k := 18) (fun _ _ x => x.len) HH.out (by omega)
  obtain ⟨cs, hcs0, hT⟩ := hrow k hlp
  have key : ∃ off, A = some ⟨gs, off, none⟩ ∧ w.rangeAt gs (off + k * 18) cs := ⟨0, hA, hcs0⟩
  clear hA hcs0
  obtain ⟨off, hA, hcs⟩ := key
  have re := range_below hcs HB hgs
  have hcl := hT.len
  have HC := Hh (hasv_any wr cs l[k] v gv hcl hT.vd ((HB.cell (p := ⟨gv, 0, none⟩) hg).trans HV.out) (Nat.lt_of_lt_of_le hg HB.size))
  have HY : Hid (l[k].vd = v → ∃ t ∈ l, t.vd = v) := Hh (fun h => ⟨_, List.getElem_mem hlp, h⟩)
  have HN : Hid (l[k].vd ≠ v → ∀ i (hi : i < l.length), i < k + 1 → l[i].vd ≠ v) := Hh (fun h i hi c => by
   by_cases e : i = k
   ·
    subst e; exact h
   ·
    exact HS.out i hi (by omega))
  subst hA
  generalize l[k].vd = vk at *
  clear hrow hcs hT HS hlp
  by_cases hvk : vk = v
  case pos =>
   have hy := Hh (HY.out hvk)
   rw [decide_eq_true hvk] at HC
   clear HY HN hvk
   go_wp2_with (refine at_op (.load 284 (.tmp 14)) rfl ?_; go_must (refine wpList_ldR rfl 284 (.tmp 14) rfl gs (off + k * 18) rfl cs re _ underlying284 rfl (by rw [hcl]; exact tdI18) ?_))
   refine HC.out.mono ?_
   rintro _ w2 ⟨rfl, b2⟩
   have H2 := below_then HB HB.size b2
   clear HC re b2 HB
   go_wp2_with fail
   go_ret
   exact ⟨_, rfl, ⟨fun _ => hy.out, fun _ => by omega⟩, H2⟩
  case neg =>
   have hn' := Hh (HN.out hvk)
   rw [decide_eq_false hvk] at HC
   clear HY HN hvk
   go_wp2_with (refine at_op (.load 284 (.tmp 14)) rfl ?_; go_must (refine wpList_ldR rfl 284 (.tmp 14) rfl gs (off + k * 18) rfl cs re _ underlying284 rfl (by rw [hcl]; exact tdI18) ?_))
   refine HC.out.mono ?_
   rintro _ w2 ⟨rfl, b2⟩
   have H2 := below_then HB HB.size b2
   clear HC re b2 HB
   go_wp2_with fail
   go_roundw
   case rel => exact ⟨k + 1, by omega, by go_num, hn', H2⟩
   case measure => simp [intOf]; omega
 have hlt' : ¬ (k : Int) < n := by omega
 have HF : Hid (¬ ∃ t ∈ l, t.vd = v) := Hh (by
  rintro ⟨t, ht, e⟩
  obtain ⟨i, hi, rfl⟩ := List.mem_iff_getElem.1 ht
  exact HS.out i hi (by rw [hn.out] at hi; omega) e)
 clear HS
 go_wp2_with fail
 go_ret
 exact ⟨-1, rfl, ⟨fun c => absurd c (by decide), fun c => absurd c HF.out⟩, HB⟩
theorem contains_any (w : World) (B : Nat) (A : Option Addr) (c : Nat) (l : List Td) (v : Int) (gv : Nat) (h : TdsO w B (.slice A l.length c) l) (hl : l.length ≤ 100) (hv : w.cell? ⟨gv, 0, none⟩ = some (.int .i64 v)) (hg : gv < w.heap.size) :
  Calls prog 280 #[.slice A l.length c, .func (.func 279) #[] #[.pointer (some ⟨gv, 0, none⟩)]] w (fun e w' => ∃ b : Bool, e = .returned (.bool b) ∧ (b = true ↔ ∃ t ∈ l, t.vd = v) ∧ Below w.heap.size w w') := by
 have ID := Hh (idx_any w B A c l v gv h hl hv hg)
 unfold IdxRet at ID
 clear h hv
 generalize l.length = n at *
 go_enter func280, ntmps280
 go_wp2_with fail
 refine ID.out.mono ?_
 rintro _ w2 ⟨i, rfl, hi, b2⟩
 have HI := Hh hi
 clear hi ID
 go_wp2_with fail
 go_ret
 refine ⟨_, rfl, ?_, b2⟩
 rw [← HI.out]
 simp
open Go.RowKit Go.Maps
theorem adrLaid : laidOutB prog = true := by kernel_rfl
theorem adrRow : (24 : TypeId) < prog.types.size := of_decide_eq_true (by kernel_rfl)
theorem adrWide : (match prog.underlying 24 with | some (.array _ _) | some (.struct _) => true | _ => false) = true := by kernel_rfl
theorem adrKeyed : Keyed prog 24 := Keyed.of_law (deep_law_laid adrLaid (m := 3) (by omega) adrRow (by kernel_rfl) adrWide)
def adF (a : Adr) : Prop := (a.fam = 4 ∨ a.fam = 6) ∧ (0 ≤ a.zone ∧ a.zone ≤ 2147483647) ∧ a.ip.length = 16
theorem kl_int (d : Nat) (n : Int) (h : (Lit.int .i64 n).wf = true) : prog.keyLits (d + 1) 3 [.int .i64 n] = some [.int .i64 n] := by
 unfold Program.keyLits
 rw [underlying3]
 simp [h]
theorem kl_u8 (d : Nat) (b : UInt8) : prog.keyLits (d + 1) 5 [.int .u8 (b.toNat : Int)] = some [.int .u8 (b.toNat : Int)] := by
 have hb := b.toNat_lt
 have h : (Lit.int .u8 (b.toNat : Int)).wf = true := by
  show (decide ((0 : Int) ≤ b.toNat) && decide ((b.toNat : Int) ≤ 255)) = true
  rw [decide_eq_true (by omega), decide_eq_true (by omega)]; rfl
 unfold Program.keyLits
 rw [underlying5]
 simp [h]
theorem mapM_some {α β : Type} (f : α → Option β) (g : α → β) : ∀ (l : List α), (∀ x ∈ l, f x = some (g x)) → l.mapM f = some (l.map g)
 | [], _ => rfl
 | x :: l, h => by
  rw [List.mapM_cons, h x (by simp), mapM_some f g l (fun y hy => h y (by simp [hy]))]
  rfl
theorem kl_arr (d : Nat) (ip : List UInt8) (h : ip.length = 16) : ∃ ls, prog.keyLits (d + 2) 22 (octs ip) = some ls := by
 have c1 : prog.cellsOf 5 = 1 := by kernel_rfl
 have c16 : prog.cellsOf 22 = 16 := by kernel_rfl
 unfold Program.keyLits
 rw [underlying22]
 simp only
 rw [if_pos (by rw [c16, octs_length, h])]
 have := mapM_some (fun i => prog.keyLits (d + 1) 5 (((octs ip).drop (i * prog.cellsOf 5)).take (prog.cellsOf 5))) (fun i => [Lit.int .u8 ((ip.getD i 0).toNat : Int)]) (List.range 16) (fun i hi => by
  have hi' : i < 16 := List.mem_range.1 hi
  have hl : i < (octs ip).length := by rw [octs_length, h]; exact hi'
  rw [c1, Nat.mul_one, List.drop_eq_getElem_cons hl]
  have e : (octs ip)[i] = .int .u8 ((ip.getD i 0).toNat : Int) := by
   have hi2 : i < ip.length := by rw [h]; exact hi'
   rw [List.getD_eq_getElem?_getD, List.getElem?_eq_getElem hi2]
   simp [octs]
  rw [e]
  exact kl_u8 d _)
 exact ⟨_, by rw [this]; rfl⟩
theorem key_adr {a : Adr} (h : adF a) : ∃ l, keyOf prog 24 (.agg a.cells.toArray) = some l := by
 obtain ⟨h1, h2, h3⟩ := h
 have c18 : prog.cellsOf 24 = 18 := by kernel_rfl
 have c1 : prog.cellsOf 3 = 1 := by kernel_rfl
 have c16 : prog.cellsOf 22 = 16 := by kernel_rfl
 have hl := a.cells_len h3
 have hk : prog.keyType 24 = true := by kernel_rfl
 have hsz : 2 ≤ prog.types.size := of_decide_eq_true (by kernel_rfl)
 have hf : (Value.agg a.cells.toArray).formed prog 24 = true := by
  simp [Value.formed, underlying24, c18, hl]
 obtain ⟨ls, hls⟩ := kl_arr (prog.types.size - 2) a.ip h3
 have w1 : (Lit.int .i64 a.fam).wf = true := by rcases h1 with e | e <;> (rw [e]; decide)
 have w2 : (Lit.int .i64 a.zone).wf = true := by
  show (decide ((-9223372036854775808 : Int) ≤ a.zone) && decide (a.zone ≤ 9223372036854775807)) = true
  rw [decide_eq_true (by omega), decide_eq_true (by omega)]; rfl
 have hkl : ∃ l, prog.keyLits (prog.types.size + 1) 24 a.cells = some l := by
  rw [show prog.types.size + 1 = (prog.types.size - 2) + 2 + 1 by omega]
  unfold Program.keyLits
  rw [underlying24]
  simp only
  rw [if_pos ⟨by rw [c18, hl], by kernel_rfl⟩]
  have e0 : (a.cells.drop 0).take (prog.cellsOf 3) = [.int .i64 a.fam] := by rw [c1]; rfl
  have e1 : (a.cells.drop 1).take (prog.cellsOf 22) = octs a.ip := by
   rw [c16]
   show (octs a.ip ++ [Value.int .i64 a.zone]).take 16 = _
   exact List.take_left' (by rw [octs_length, h3])
  have e2 : (a.cells.drop 17).take (prog.cellsOf 3) = [.int .i64 a.zone] := by
   rw [c1]
   show ((octs a.ip ++ [Value.int .i64 a.zone]).drop 16).take 1 = _
   rw [List.drop_left' (by rw [octs_length, h3])]; rfl
  simp only [List.mapM_cons, List.mapM_nil, e0, e1, e2, kl_int _ _ w1, kl_int _ _ w2, hls]
  exact ⟨_, rfl⟩
 obtain ⟨l, hl2⟩ := hkl
 refine ⟨.string (keyBytes l), ?_⟩
 unfold keyOf
 rw [underlying24]
 simp only
 rw [if_pos (by rw [hk, hf]; rfl)]
 show ((prog.keyLits (prog.types.size + 1) 24 (Value.agg a.cells.toArray).cells.toList).map _) = _
 have : (Value.agg a.cells.toArray).cells.toList = a.cells := by simp [Value.cells]
 rw [this, hl2]
 rfl
theorem adr_inj {a b : Adr} (ha : a.ip.length = 16) (hb : b.ip.length = 16) (h : a.cells = b.cells) : a = b := by
 obtain ⟨f, ip, z⟩ := a
 obtain ⟨f', ip', z'⟩ := b
 unfold Adr.cells at h
 injection h with h1 h2
 simp only at ha hb h1 h2
 have h3 : octs ip = octs ip' ∧ [Value.int .i64 z] = [Value.int .i64 z'] := List.append_inj h2 (by rw [octs_length, octs_length, ha, hb])
 obtain ⟨h3, h4⟩ := h3
 injection h1 with _ h1
 injection h4 with h4 _
 injection h4 with _ h4
 have h5 : ip = ip' := by
  unfold octs at h3
  refine List.map_inj_right (f := fun b : UInt8 => Value.int .u8 (b.toNat : Int)) ?_ |>.1 h3
  intro x y e
  injection e with _ e
  have : x.toNat = y.toNat := by exact_mod_cast e
  exact UInt8.toNat_inj.1 this
 rw [h1, h4, h5]
theorem key_inj {a b : Adr} (ha : adF a) (hb : adF b) {l : Lit} (h : keyOf prog 24 (.agg a.cells.toArray) = some l) (h' : keyOf prog 24 (.agg b.cells.toArray) = some l) : a = b := by
 have e := adrKeyed.inj h h'
 injection e with e
 exact adr_inj ha.2.2 hb.2.2 (by simpa using congrArg Array.toList e)
def MapA (w : World) (b n : Nat) (xs : List Adr) : Prop :=
 ∃ D : DataW Unit, w.ownsMap prog 24 (plainElem prog 3) b n D ∧ ∀ a l, adF a → keyOf prog 24 (.agg a.cells.toArray) = some l → (a ∈ xs → ∀ z, D.atKey l z = .lit (.int .i64 1)) ∧ (a ∉ xs → Maps.has D l = false)
theorem MapA.made (w : World) : MapA (w.alloc (.map #[] 0)) w.heap.size 0 [] := ⟨.map [], World.ownsMap_made _ _ _ _, fun a l _ _ => ⟨fun h => (by cases h), fun _ => rfl⟩⟩
theorem MapA.look {w : World} {b n : Nat} {xs : List Adr} (h : MapA w b n xs) (a : Adr) (ha : adF a) : (Instr.lookup 348 (.map (some b)) (.agg a.cells.toArray) false).run prog w = .ok (.int .i64 (if a ∈ xs then 1 else 0)) w := by
 obtain ⟨D, ho, hf⟩ := h
 obtain ⟨l, hl⟩ := key_adr ha
 obtain ⟨c, hrun, hat, _⟩ := ho.lookup_int adrKeyed underlying348 underlying3 (zeroInt w) hl
 rw [hrun]
 by_cases hm : a ∈ xs
 ·
  rw [if_pos hm]
  have := (hf a l ha hl).1 hm (.lit (.int .i64 0))
  rw [this] at hat
  injection hat with hat
  injection hat with _ hat
  rw [← hat]
 ·
  rw [if_neg hm]
  rw [Maps.atKey_of_not_has ((hf a l ha hl).2 hm)] at hat
  injection hat with hat
  injection hat with _ hat
  rw [← hat]
theorem MapA.store {w : World} {b n : Nat} {xs : List Adr} (h : MapA w b n xs) (a : Adr) (ha : adF a) (hn : n < maxLen) : ∃ w', (Instr.mapUpdate 348 (.map (some b)) (.agg a.cells.toArray) (.int .i64 1)).run prog w = .ok () w' ∧ MapA w' b (n + 1) (xs ++ [a]) ∧ w.grownBy w' (some b) := by
 obtain ⟨D, ho, hf⟩ := h
 obtain ⟨l, hl⟩ := key_adr ha
 obtain ⟨w', hrun, ho', hg⟩ := ho.update adrKeyed underlying348 hn hl (plainElem_int underlying3 (a := (1 : Int)) (by decide))
 have hk := adrKeyed.key hl
 refine ⟨w', hrun, ⟨_, ho', fun a' l' ha' hl' => ⟨fun hm z => ?_, fun hm => ?_⟩⟩, hg⟩
 ·
  by_cases e : a' = a
  ·
   subst e
   rw [hl] at hl'
   injection hl' with hl'
   subst hl'
   exact Maps.atKey_put_same ho.isMap hk _ _
  ·
   have hne : l' ≠ l := fun c => e (key_inj ha' ha (c ▸ hl') hl)
   rw [Maps.atKey_put_other hne]
   rcases List.mem_append.1 hm with hm | hm
   ·
    exact (hf a' l' ha' hl').1 hm z
   ·
    exact absurd (by simpa using hm) e
 ·
  have hm1 : a' ∉ xs := fun c => hm (List.mem_append.2 (.inl c))
  have e : a' ≠ a := fun c => hm (List.mem_append.2 (.inr (by simp [c])))
  have hne : l' ≠ l := fun c => e (key_inj ha' ha (c ▸ hl') hl)
  rw [Maps.has_put_other hne]
  exact (hf a' l' ha' hl').2 hm1
theorem MapA.kept {w w' : World} {b n : Nat} {xs : List Adr} {row : Option Nat} (h : MapA w b n xs) (hg : w.grownBy w' row) (hne : some b ≠ row) : MapA w' b n xs := by
 obtain ⟨D, ho, hf⟩ := h
 exact ⟨D, ho.kept hg hne, hf⟩
theorem MapA.ne_blk {w : World} {b n g : Nat} {xs : List Adr} {t : TypeId} {cs : List Value} (h : MapA w b n xs) (hb : Blk w g t cs) : b ≠ g := by
 rintro rfl
 obtain ⟨D, ⟨es, cl, hm, _⟩, _⟩ := h
 unfold Blk at hb
 rw [hb] at hm; cases hm
end Go.Proofs.YteimenplbanooaaGreatDoor

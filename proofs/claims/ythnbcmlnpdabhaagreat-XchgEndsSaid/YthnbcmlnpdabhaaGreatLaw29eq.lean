/-
  Layer 29, the laws' own: XchgEnds.
-/
import Derived.Test.YthnbcmlnpdabhaaGreatILq
namespace Go.Proofs.YthnbcmlnpdabhaaGreat
open _root_.Go.Proofs.Tryz
open Go.RowKit
set_option maxRecDepth 100000
set_option linter.unusedVariables false
set_option linter.unusedSimpArgs false
structure InvX (n T : Nat) (x : Xc) (tk : Nat) : Prop where
 tr : x.tr.length = n
 rst : x.sent + x.rest ≤ 3 * n
 phi : x.phi ≤ T - tk
 lg : x.lg ≤ 2
 vd : x.done = true → x.vd ≠ 0
theorem InvX.hear {n T : Nat} {x : Xc} {tk : Nat} (h : InvX n T x tk) (ok : x.ok) (L : Lt) (e : Ev) : InvX n T (hearX x L e).1 (tk + if e.kind = 1 then 1 else 0) ∧ (hearX x L e).1.sent = x.sent + begunL (hearX x L e).2.2 ∧ (hearX x L e).2.1.us ≤ L.us + 2 ∧ (hearX x L e).2.1.ds = L.ds ∧ (hearX x L e).1.d.heard.length ≤ x.d.heard.length + e.data.length := by
 have E := hearX_end ok.st (fun hd => (ok.go hd).2.1) h.lg h.vd L e
 have h1 := h.rst
 have h2 := h.phi
 have h3 := E.snt
 have h4 := E.rst
 have h5 := E.phi
 refine ⟨⟨by rw [E.tr]; exact h.tr, by omega, ?_, E.lg, E.vd⟩, E.snt, E.us, E.ds, E.hd⟩
 split at h5 <;> rename_i hk
 ·
  rw [if_pos hk]; omega
 ·
  rw [if_neg hk]; omega
theorem InvX.done {n T : Nat} {x : Xc} {tk : Nat} (h : InvX n T x tk) (ok : x.ok) (ht : T ≤ tk) : x.done = true := by
 cases hd : x.done with
 | true => rfl
 | false =>
  have h1 := (ok.go hd).2.1
  have h2 := h.phi
  have h3 := phi_no hd
  omega
theorem newX_st (r : Rs) (q : Qn) (turn : Int) (L : Lt) (ok : (newX (heldR r).tmo (heldR r).vc (heldR r).ed q (triesR r turn) L).1.ok) (he : (encM (askM q 0 (heldR r).ed) false).2 = 0) : (startX (heldR r).tmo (heldR r).vc (heldR r).ed q (triesR r turn)).st := by
 have hl := (tries_le r turn).1
 unfold newX at ok
 rw [if_neg (by rw [he]; decide)] at ok
 unfold tryX at ok
 rw [if_pos (by show 0 < (triesR r turn).length; omega)] at ok
 obtain ⟨f1, f2, f3, f4, f5, f6, f7, f8, f9⟩ := legX_f (startX (heldR r).tmo (heldR r).vc (heldR r).ed q (triesR r turn)) L (if (startX (heldR r).tmo (heldR r).vc (heldR r).ed q (triesR r turn)).vc then 2 else 0)
 have st := ok.st (f1.trans rfl)
 exact ⟨by have := st.ips; rwa [f2] at this, by have := st.to1; rwa [f4] at this, by have := st.to2; rwa [f4] at this, by have := st.trl; rwa [f2] at this, by have := st.err; rwa [f8] at this⟩
theorem newX_len (tmo : Int) (vc ed : Bool) (q : Qn) (tr : List Adr) (L : Lt) : (newX tmo vc ed q tr L).2.2.length ≤ 1 := by
 unfold newX
 split
 ·
  exact Nat.zero_le _
 ·
  exact tryX_len _ _
theorem InvX.new (r : Rs) (q : Qn) (turn : Int) (L : Lt) (hu : L.us = 0) (ok : (newX (heldR r).tmo (heldR r).vc (heldR r).ed q (triesR r turn) L).1.ok) : InvX (triesR r 0).length (ticksR r) (newX (heldR r).tmo (heldR r).vc (heldR r).ed q (triesR r turn) L).1 0 ∧ (newX (heldR r).tmo (heldR r).vc (heldR r).ed q (triesR r turn) L).1.sent = begunL (newX (heldR r).tmo (heldR r).vc (heldR r).ed q (triesR r turn) L).2.2 ∧ (newX (heldR r).tmo (heldR r).vc (heldR r).ed q (triesR r turn) L).2.1.us ≤ 2 ∧ (newX (heldR r).tmo (heldR r).vc (heldR r).ed q (triesR r turn) L).2.1.ds = L.ds ∧ (newX (heldR r).tmo (heldR r).vc (heldR r).ed q (triesR r turn) L).1.d.heard.length = 0 := by
 have hl : (triesR r turn).length = (triesR r 0).length := by rw [tries_len, tries_len]
 have E := newX_end (heldR r).tmo (heldR r).vc (heldR r).ed q (triesR r turn) L (newX_st r q turn L ok)
 have h3 := E.snt
 have h4 := E.rst
 have h5 := E.phi
 have h6 := E.us
 have h7 := E.hd
 have h0 : (startX (heldR r).tmo (heldR r).vc (heldR r).ed q (triesR r turn)).sent = 0 := rfl
 have hT : ticksR r = (heldR r).tmo.toNat * (3 * (triesR r 0).length) := rfl
 rw [hl] at h4 h5
 refine ⟨⟨by rw [E.tr]; exact hl, by omega, by rw [hT]; exact h5, E.lg, E.vd⟩, by omega, by omega, E.ds, by omega⟩
theorem ticks_le (r : Rs) : ticksR r ≤ 1350 ∧ mostR r ≤ 45 := by
 obtain ⟨h1, h2⟩ := tries_le r 0
 obtain ⟨h3, h4⟩ := tmo_le r
 have hm : mostR r ≤ 45 := by unfold mostR; omega
 refine ⟨?_, hm⟩
 unfold ticksR
 have : (heldR r).tmo.toNat ≤ 30 := by omega
 exact Nat.le_trans (Nat.mul_le_mul this hm) (by decide)
theorem tsk_at {vs vn : Value} {cs : List Value} {q : Qn} {turn : Int} (h : cs.length = 10) : (tskC vs vn cs q turn).length = 15 ∧ ((tskC vs vn cs q turn).drop 0).take 10 = cs ∧ ((tskC vs vn cs q turn).drop 10).take 3 = qC vn q ∧ (tskC vs vn cs q turn)[13]? = some (.int .i64 turn) ∧ (tskC vs vn cs q turn)[14]? = some vs := by
 unfold tskC
 refine ⟨by simp [qC, h], by rw [List.drop_zero]; exact List.take_left' h, ?_, ?_, ?_⟩
 ·
  rw [List.drop_left' h]; rfl
 ·
  rw [List.getElem?_append_right (by omega), h]; rfl
 ·
  rw [List.getElem?_append_right (by omega), h]; rfl
theorem tskI : (prog.info? 72).map (·.size) = some 15 := by kernel_rfl
set_option maxHeartbeats 8000000 in
theorem xchgEnds_any (As : Option Addr) (cs : List Value) (r : Rs) (A : Option Addr) (c : Nat) (q : Qn) (turn : Int) (ds : List Int) (cd : Nat) (Ae : Option Addr) (ce : Nat) (l : List Ev) (w : World) (h : RsIs w cs r) (hN : NmR w A c q.name) (hD : DrwsR w As ds) (hE : EvsR w Ae l) (hEl : l.length ≤ 17592186044416) :
  Calls prog 9 #[.agg (tskC (.slice As ds.length cd) (.slice A q.name.length c) cs q turn).toArray, .slice Ae l.length ce] w (RetB (.bool true) w) := by
 have hcl := h.len
 obtain ⟨hLl, L0, L10, L13, L14⟩ := tsk_at (vs := .slice As ds.length cd) (vn := .slice A q.name.length c) (q := q) (turn := turn) hcl
 have SM := Hh (fun V (b : Below w.heap.size w V) => small29_any As cs r A c q turn ds.length cd V (h.below b) (hN.below b))
 have FE := Hh (fun w' (b : Below w.heap.size w w') => few28_any Ae ce l 80 w' (hE.below b) hEl)
 have HRS := Lib.hid h
 have HNM := Hh hN
 have HDR := Hh hD
 have HEV := Hh hE
 obtain ⟨L, hL⟩ : ∃ L, Hid (tskC (.slice As ds.length cd) (.slice A q.name.length c) cs q turn = L) := ⟨_, Hh rfl⟩
 rw [hL.out] at hLl L0 L10 L13 L14 SM ⊢
 have hB : Below w.heap.size w (w.alloc (.cells L.toArray 72)) := (Below.refl _ _).alloc (Nat.le_refl _) _
 have B := Blk.new w 72 L
 clear h hN hD hE hL
 go_enter func9, ntmps9
 go_wp2_with fail
 refine (works29_any _).mono ?_
 rintro _ w1 ⟨rfl, b1⟩
 have B1 := B.below b1 B.lt
 have H1 := below_then hB hB.size b1
 clear B hB b1
 go_wp2_with (refine at_op (.load 72 (.tmp 2)) rfl ?_; go_must (refine wpList_ldG 72 (.tmp 2) rfl (by go_simp) w.heap.size 0 rfl B1 15 (by omega) _ underlying72 rfl tskI L (tk0 (by omega)) ?_))
 refine (SM.out _ H1).mono ?_
 rintro _ w2 ⟨b, rfl, hsm, b2⟩
 have B2 := B1.below b2 B1.lt
 have H2 := below_then H1 H1.size b2
 have HSM := Hh hsm
 clear B1 H1 b2 SM hsm
 cases b with
 | false =>
  clear FE
  go_wp2_with fail
  refine (works29_any _).mono ?_
  rintro _ w3 ⟨rfl, b3⟩
  go_wp2_with fail
  go_ret
  exact RetB.mk rfl (below_then H2 H2.size b3)
 | true =>
 obtain ⟨hq4, hdl⟩ := HSM.out rfl
 have hqn : q.name.length ≤ 100000 := by have := lsum_ge q.name; omega
 clear HSM hq4
 go_wp2_with fail
 refine (FE.out _ H2).mono ?_
 rintro _ w3 ⟨b, rfl, hfe, b3⟩
 have B3 := B2.below b3 B2.lt
 have H3 := below_then H2 H2.size b3
 have HFE := Hh hfe
 clear B2 H2 b3 FE hfe
 cases b with
 | false =>
  go_wp2_with fail
  refine (works29_any _).mono ?_
  rintro _ w4 ⟨rfl, b4⟩
  go_wp2_with fail
  go_ret
  exact RetB.mk rfl (below_then H3 H3.size b4)
 | true =>
 obtain ⟨hl80, htot⟩ := HFE.out rfl
 clear HFE
 have LN := Hh (fun V (hV : Below w.heap.size w V) => lnew_any As cd ds V (fun hp => by obtain ⟨b, off, h1, h2, h3⟩ := HDR.out hp; exact ⟨b, off, h1, range_below h3 hV h2⟩) (by omega))
 have XN := Hh (fun gl V (hV : Below w.heap.size w V) (hLt : LotAt V gl ⟨ds, 0⟩) => xnew_any cs r q A c turn gl ⟨ds, 0⟩ V (HRS.out.below hV) (HNM.out.below hV) hqn hLt (by show (0 : Nat) ≤ 999999990; omega) (by show ds.length ≤ 17592186044416; omega))
 have LR : Hid (∀ V, Below w3.heap.size w3 V → (Instr.loadAt 69 (.pointer (some ⟨w.heap.size, 0, none⟩))).run prog V = .ok (.agg cs.toArray) V) := Hh (fun V hV => (B3.below hV B3.lt).loads 69 0 10 (by omega) _ underlying69 rfl rsI10 _ L0)
 have LQ : Hid (∀ V, Below w3.heap.size w3 V → (Instr.loadAt 28 (.pointer (some ⟨w.heap.size, 10, none⟩))).run prog V = .ok (.agg (qC (.slice A q.name.length c) q).toArray) V) := Hh (fun V hV => (B3.below hV B3.lt).loads 28 10 3 (by omega) _ underlying28 rfl qInfo _ L10)
 have LT : Hid (∀ V, Below w3.heap.size w3 V → (Instr.loadAt 3 (.pointer (some ⟨w.heap.size, 13, none⟩))).run prog V = .ok (.int .i64 turn) V) := Hh (fun V hV => run_load1 underlying3 rfl ((B3.below hV B3.lt).cell_ 13 L13))
 have LD : Hid (∀ V, Below w3.heap.size w3 V → (Instr.loadAt 70 (.pointer (some ⟨w.heap.size, 14, none⟩))).run prog V = .ok (.slice As ds.length cd) V) := Hh (fun V hV => run_load1 underlying70 rfl ((B3.below hV B3.lt).cell_ 14 L14))
 have NI := Hh (fun ok => InvX.new r q turn ⟨ds, 0⟩ rfl ok)
 have NL := Hh (newX_len (heldR r).tmo (heldR r).vc (heldR r).ed q (triesR r turn) ⟨ds, 0⟩)
 obtain ⟨X0, hX0⟩ : ∃ X0, Hid (newX (heldR r).tmo (heldR r).vc (heldR r).ed q (triesR r turn) ⟨ds, 0⟩ = X0) := ⟨_, Hh rfl⟩
 rw [hX0.out] at XN NI NL
 obtain ⟨Q, hQ⟩ : ∃ Q, Hid (qC (.slice A q.name.length c) q = Q) := ⟨_, Hh rfl⟩
 rw [hQ.out] at XN LQ
 have HL0 := Hh L0
 clear L0 L10 L13 L14 hQ hX0 HNM
 go_upto_region 4 with fail
 go_cut [5, 6] (fun v5 v6 wx => ∃ g gl D, v5 = .pointer (some ⟨g, 0, none⟩) ∧ OusN w.heap.size wx v6 X0.2.2 ∧ XchgAt wx g gl D X0.1 ∧ LotAt wx gl X0.2.1 ∧ Below w3.heap.size w3 wx ∧ w3.heap.size ≤ g ∧ w3.heap.size ≤ gl ∧ ∀ i, D = some i → w3.heap.size ≤ i)
 case first =>
  refine wp_region_held_drew (S := fun V => Below w3.heap.size w3 V) (by kernel_rfl) (Below.refl _ _).drew (fun hS => ?_)
  refine held_seq hS 8 [0,1,2,3,4,5,6,7] rfl (by kernel_rfl) (fun _ _ _ _ _ h => h) rfl rfl ?_
  repeat (refine ⟨_, _, rfl, .inl ⟨rfl, fun W hW => rfl⟩, ?_⟩; simp only [Act.put, lsA, lsB, lsC])
  (refine ⟨_, _, rfl, .inl ⟨rfl, fun V hV => (exec_ld 69 (.tmp 25) ⟨w.heap.size, 0, none⟩ rfl rfl (LR.out V hV))⟩, ?_⟩; simp only [Act.put, lsA, lsB, lsC])
  repeat (refine ⟨_, _, rfl, .inl ⟨rfl, fun W hW => rfl⟩, ?_⟩; simp only [Act.put, lsA, lsB, lsC])
  (refine ⟨_, _, rfl, .inl ⟨rfl, fun V hV => (exec_ld 28 (.tmp 27) ⟨w.heap.size, 10, none⟩ rfl rfl (LQ.out V hV))⟩, ?_⟩; simp only [Act.put, lsA, lsB, lsC])
  repeat (refine ⟨_, _, rfl, .inl ⟨rfl, fun W hW => rfl⟩, ?_⟩; simp only [Act.put, lsA, lsB, lsC])
  (refine ⟨_, _, rfl, .inl ⟨rfl, fun V hV => (exec_ld 3 (.tmp 29) ⟨w.heap.size, 13, none⟩ rfl rfl (LT.out V hV))⟩, ?_⟩; simp only [Act.put, lsA, lsB, lsC])
  repeat (refine ⟨_, _, rfl, .inl ⟨rfl, fun W hW => rfl⟩, ?_⟩; simp only [Act.put, lsA, lsB, lsC])
  (refine ⟨_, _, rfl, .inl ⟨rfl, fun V hV => (exec_ld 70 (.tmp 31) ⟨w.heap.size, 14, none⟩ rfl rfl (LD.out V hV))⟩, ?_⟩; simp only [Act.put, lsA, lsB, lsC])
  simp only [SeqC]
  refine held_call 8 (some 33) 33 #[.slice As ds.length cd] (by kernel_rfl) rfl rfl (by kernel_rfl) (by go_simp) (LN.out _ (below_then H3 H3.size hS)) ?_
  rintro _ w4 ⟨gl, rfl, hLt, b4, hgl⟩
  have hS4 := below_then hS hS.size b4
  refine ⟨_, rfl, hS4, ?_⟩
  have hgl3 : w3.heap.size ≤ gl := Nat.le_trans hS.size hgl
  clear hS b4 hgl
  have hS := hS4
  clear hS4
  simp only [Act.put, lsA, lsB, lsC]
  refine held_call 9 (some 34) 32 #[.agg cs.toArray, .agg Q.toArray, .int .i64 turn, .pointer (some ⟨gl, 0, none⟩)] (by kernel_rfl) rfl rfl (by kernel_rfl) (by go_simp) (XN.out gl _ (below_then H3 H3.size hS) hLt) ?_
  rintro _ w5 ⟨g, v, D, rfl, hO, hX, hl5, hf, hg, hD⟩
  have hS5 : Below w3.heap.size w3 w5 := hf.toBelow hS hS.size (fun i hi h => by omega)
  refine ⟨_, rfl, hS5, ?_⟩
  have hO5 := hO.mono (show w.heap.size ≤ w4.heap.size from Nat.le_trans H3.size hS.size)
  have hg3 : w3.heap.size ≤ g := Nat.le_trans hS.size hg
  have hD3 : ∀ i, D = some i → w3.heap.size ≤ i := fun i hi => Nat.le_trans hS.size (hD i hi)
  clear hS hf hO hg hD hLt
  have hS := hS5
  clear hS5
  simp only [Act.put, lsA, lsB, lsC]
  refine held_seq hS 5 [10,11,12,13,14] rfl (by kernel_rfl) (fun _ _ _ _ _ h => h) rfl rfl ?_
  (refine ⟨_, (.tuple #[.pointer (some ⟨g, 0, none⟩), v]), rfl, .inl ⟨rfl, fun V hV => rfl⟩, ?_⟩; simp only [Act.put, lsA, lsB, lsC])
  (refine ⟨_, (.pointer (some ⟨g, 0, none⟩)), rfl, .inl ⟨rfl, fun V hV => rfl⟩, ?_⟩; simp only [Act.put, lsA, lsB, lsC])
  (refine ⟨_, v, rfl, .inl ⟨rfl, fun V hV => rfl⟩, ?_⟩; simp only [Act.put, lsA, lsB, lsC])
  (refine ⟨_, (.pointer (some ⟨g, 0, none⟩)), rfl, .inl ⟨rfl, fun V hV => rfl⟩, ?_⟩; simp only [Act.put, lsA, lsB, lsC])
  (refine ⟨_, v, rfl, .inl ⟨rfl, fun V hV => rfl⟩, ?_⟩; simp only [Act.put, lsA, lsB, lsC])
  simp only [SeqC]
  refine wpAnyH_done (by kernel_rfl) ?_ _
  go_wp2_with fail
  go_meet
  case rel => exact ⟨g, gl, D, rfl, hO5, hX, hl5, hS, hg3, hgl3, hD3⟩
 obtain ⟨g, gl, D, rfl, hO, hX, hLt, HW, hg3, hgl3, hD3⟩ := hcut
 clear LR LQ LT LD LN XN
 obtain ⟨w5, rfl⟩ : ∃ w5, w5 = wc := ⟨_, rfl⟩
 obtain ⟨n1, n2, n3, n4, n5⟩ := NI.out hX.ok
 have hlen := NL.out
 obtain ⟨A5, c5, rfl, hR5, _⟩ := hO.form
 have BGN := Hh (begun_any A5 c5 X0.2.2 w5 hR5 (by omega))
 rw [← n2] at BGN
 have B5 := B3.below HW B3.lt
 have H5 := below_then H3 H3.size HW
 have hw3 : w.heap.size < w3.heap.size := B3.lt
 have hw35 : w3.heap.size ≤ w5.heap.size := HW.size
 obtain ⟨hT1, hT2⟩ := ticks_le r
 have TK := Hh (fun V (hV : Below w.heap.size w V) => ticks_any w cs r V HRS.out hV)
 have MO := Hh (fun V (hV : Below w.heap.size w V) => refMost_any cs r V (HRS.out.below hV))
 have hMO : Hid (mostR r = 3 * (triesR r 0).length) := Hh rfl
 obtain ⟨T, hT⟩ : ∃ T, Hid (ticksR r = T) := ⟨_, Hh rfl⟩
 rw [hT.out] at n1 hT1 TK
 generalize (triesR r 0).length = nt at *
 obtain ⟨x0, hx0⟩ : ∃ x0, Hid (X0.1 = x0) := ⟨_, Hh rfl⟩
 obtain ⟨L1, hL1⟩ : ∃ L1, Hid (X0.2.1 = L1) := ⟨_, Hh rfl⟩
 rw [hx0.out] at hX n1 BGN n5
 rw [hL1.out] at hLt n3 n4
 generalize X0.2.2 = o0 at *
 have hX5 := Hh hX
 have hL5 := Hh hLt
 have hI5 := Hh n1
 have hU5 := Hh (And.intro n3 (And.intro n4 n5))
 clear hX hLt n1 n2 n3 n4 n5 NI NL hO hR5 hT HW B3 H3
 go_wp2_with fail
 refine BGN.out.mono ?_
 rintro _ w5' ⟨rfl, rfl⟩
 clear BGN
 go_wp2_with fail
 go_loopw [7, 8, 9] (fun lv tv iv wr => ∃ (k tk : Nat) (x : Xc) (M : Lt) (E : Option Nat), k ≤ l.length ∧ tk ≤ k ∧ lv = .int .i64 x.sent ∧ tv = .int .i64 tk ∧ iv = .int .i64 k ∧ Hid (XchgAt wr g gl E x) ∧ Hid (LotAt wr gl M) ∧ Hid (InvX nt T x tk) ∧ M.us ≤ 2 + 2 * k ∧ M.ds.length ≤ 17592186044416 ∧ x.d.heard.length ≤ totE (l.take k) ∧ Below w.heap.size w wr ∧ w3.heap.size ≤ wr.heap.size ∧ Blk wr w.heap.size 72 L ∧ ∀ i, E = some i → w3.heap.size ≤ i) (fun _ _ iv _ => l.length - (intOf iv).toNat)
 case atStart => exact ⟨0, 0, x0, L1, D, Nat.zero_le _, Nat.le_refl _, rfl, rfl, rfl, hX5, hL5, hI5, hU5.out.1, by rw [hU5.out.2.1]; omega, by rw [hU5.out.2.2]; exact Nat.zero_le _, H5, hw35, B5, hD3⟩
 clear hX5 hL5 hI5 hU5 H5 B5 hD3 hx0 hL1
 obtain ⟨k, tk, x, M, E, hk, htk, rfl, rfl, rfl, HX, HL, HI, hu, hMd, hh, HB, hwr, BT, hE⟩ := hrel
 have hg0 : w.heap.size < g := Nat.lt_of_lt_of_le hw3 hg3
 have hgl0 : w.heap.size < gl := Nat.lt_of_lt_of_le hw3 hgl3
 have hsn : x.sent ≤ 135 := by have := HI.out.rst; have := hMO.out; omega
 by_cases hlt : k < l.length
 case pos =>
  have hlt' : (k : Int) < l.length := by omega
  obtain ⟨ba, oa, hA1, la1, ra, hip, hdl'⟩ := HEV.out.at_ k hlt
  have hT := totE_take l k hlt
  have hT2 := totE_le l (k + 1)
  have hel : (evC l[k]).length = 22 := evC_len hip
  have re := range_below ra HB la1
  have c0 : wr.cell? ⟨ba, oa + k * 22, none⟩ = some (.int .i64 l[k].kind) := by
   have := re 0 (.int .i64 l[k].kind) rfl
   simpa using this
  have HC := Hh (xhear_any g gl E x M l[k] wr HX.out HL.out hip (by omega) (by omega) hMd (by omega))
  obtain ⟨i1, i2, i3, i4, i5⟩ := HI.out.hear HX.out.ok M l[k]
  have hx2 := hearX_len x M l[k]
  have hh2 : (hearX x M l[k]).1.d.heard.length ≤ totE (l.take (k + 1)) := by omega
  have HIN := Hh (And.intro i1 (And.intro i2 (And.intro i3 (And.intro i4 hh2))))
  subst hA1
  unfold XRet at HC
  clear i1 i2 i3 i4 i5 hh2 hT hT2 hh ra hdl' HX HL HI
  generalize hearX x M l[k] = R at *
  generalize l[k].kind = kd at *
  generalize hek : evC l[k] = ek at *
  go_upto_if 52 with fail
  go_cut [8] (fun v8 wx => v8 = .int .i64 ((tk + if kd = 1 then 1 else 0 : Nat) : Int) ∧ wx = wr)
  case first =>
   by_cases h1 : kd = 1
   case pos =>
    subst h1
    go_wp2_with fail
    go_meet
    case rel => exact ⟨by simp, rfl⟩
   case neg =>
    have h1' : (kd == 1) = false := by simpa using h1
    go_wp2_with fail
    go_meet
    case rel => exact ⟨by rw [if_neg h1]; rfl, rfl⟩
  obtain ⟨rfl, hwc⟩ := hcut
  rw [hwc]
  clear hwc
  have htk2 : (tk + if kd = 1 then 1 else 0) ≤ k + 1 := by split <;> omega
  generalize (tk + if kd = 1 then 1 else 0) = tk2 at *
  clear c0
  go_wp2_with (refine at_op (.load 42 (.tmp 59)) rfl ?_; go_must (refine wpList_ldR rfl 42 (.tmp 59) rfl ba (oa + k * 22) rfl ek re _ underlying42 rfl (by rw [hel]; exact evI22) ?_))
  refine HC.out.mono ?_
  rintro _ w6 ⟨v6, E2, rfl, hO6, hX6, hL6, hf6, hE6⟩
  obtain ⟨A6, c6, rfl, hR6, _⟩ := hO6.form
  have BG6 := Hh (begun_any A6 c6 R.2.2 w6 hR6 (by omega))
  have B6 := hf6.blkT BT (by unfold StTy; decide)
  have hw6 : wr.heap.size ≤ w6.heap.size := hf6.size
  have H6 : Below w.heap.size w w6 := hf6.toBelow HB HB.size (fun i hi h => by
   rcases h with h | h | h
   ·
    omega
   ·
    omega
   ·
    have := hE i h; omega)
  have hE2 : ∀ i, E2 = some i → w3.heap.size ≤ i := fun i hi => by
   rcases hE6 i hi with h | h
   ·
    exact hE i h
   ·
    omega
  have hX6' := Hh hX6
  have hL6' := Hh hL6
  obtain ⟨j1, j2, j3, j4, j5⟩ := HIN.out
  have hj1 := Hh j1
  have hbl : begunL R.2.2 ≤ 2 := Nat.le_trans (begunL_le _) hx2
  have hj2 := Hh j2
  clear HC hO6 hX6 hL6 hf6 hE6 hR6 j1 j2 BT HB hE HIN re
  generalize begunL R.2.2 = nb at *
  generalize hsx : x.sent = sx at *
  go_wp2_with fail
  refine BG6.out.mono ?_
  rintro _ w6' ⟨rfl, rfl⟩
  clear BG6
  go_wp2_with fail
  go_roundw
  case rel => exact ⟨k + 1, tk2, R.1, R.2.1, E2, by omega, htk2, by rw [hj2.out]; go_num, rfl, by go_num, hX6', hL6', hj1, by omega, by rw [j4]; exact hMd, j5, H6, by omega, B6, hE2⟩
  case measure => simp [intOf]; omega
 have hlt' : ¬ (k : Int) < l.length := by omega
 have TK1 := Hh (TK.out wr HB)
 have hus : M.us ≤ 162 + 2 * tk := by omega
 have hhd : x.d.heard.length ≤ 20000 := by have := totE_le l k; omega
 have EB := Hh (fun V => run_be1 V)
 have HWR := Hh HB
 have HBT := Hh BT
 have HEE := Hh hE
 clear hu hh HEV hE hdl hEl
 go_wp2_with (refine at_op (.load 69 (.tmp 64)) rfl ?_; go_must (refine wpList_ldB rfl _ _ rfl w.heap.size 0 rfl BT 10 (by omega) _ underlying69 rfl rsI10 cs HL0.out ?_))
 refine TK1.out.mono ?_
 rintro _ w7 ⟨rfl, b7⟩
 have hX7 := Hh (HX.out.below b7)
 have hL7 := Hh (HL.out.below b7)
 have H7 := below_then HWR.out HWR.out.size b7
 have H7s := b7.size
 have B7 := HBT.out.below b7 HBT.out.lt
 clear TK1 TK HX HL b7 BT HB HWR HBT
 have hw7 : w3.heap.size ≤ w7.heap.size := Nat.le_trans hwr H7s
 go_wp2_with fail
 go_loopw [7, 8] (fun lv tv wr => ∃ (tk : Nat) (x : Xc) (M : Lt) (E : Option Nat), tk ≤ 80 + T ∧ lv = .int .i64 x.sent ∧ tv = .int .i64 tk ∧ Hid (XchgAt wr g gl E x) ∧ Hid (LotAt wr gl M) ∧ Hid (InvX nt T x tk) ∧ M.us ≤ 162 + 2 * tk ∧ M.ds.length ≤ 17592186044416 ∧ x.d.heard.length ≤ 20000 ∧ Below w.heap.size w wr ∧ w3.heap.size ≤ wr.heap.size ∧ Blk wr w.heap.size 72 L ∧ ∀ i, E = some i → w3.heap.size ≤ i) (fun _ tv _ => T - (intOf tv).toNat)
 case atStart => exact ⟨tk, x, M, E, by omega, rfl, rfl, hX7, hL7, HI, hus, hMd, hhd, H7, hw7, B7, HEE.out⟩
 clear hX7 hL7 HI hus hMd hhd H7 hw7 B7 HEE hsn hk htk hlt hlt'
 obtain ⟨tk, x, M, E, htk, rfl, rfl, HX, HL, HI, hu, hMd, hh, HB, hwr, BT, hE⟩ := hrel
 have hsn : x.sent ≤ 135 := by have := HI.out.rst; have := hMO.out; omega
 by_cases hlt : tk < T
 case pos =>
  have hlt' : (tk : Int) < T := by omega
  have HC := Hh (fun V hX hL => xhear_any g gl E x M tick29 V hX hL rfl (by show x.d.heard.length + 0 ≤ 8796093022208; omega) (by omega) hMd (by omega))
  obtain ⟨i1, i2, i3, i4, i5⟩ := HI.out.hear HX.out.ok M tick29
  have hx2 := hearX_len x M tick29
  rw [show (tk + if tick29.kind = 1 then 1 else 0) = tk + 1 from rfl] at i1
  have i5 : (hearX x M tick29).1.d.heard.length ≤ 20000 := Nat.le_trans i5 hh
  have HIN := Hh (And.intro i1 (And.intro i2 (And.intro i3 (And.intro i4 i5))))
  unfold XRet at HC
  have ez : Hid ((evC ⟨1, Adr.zero, 0, 0, []⟩ : List Value) = evC tick29) := Hh rfl
  rw [ez.out] at EB
  have HXL := Hh (And.intro HX.out HL.out)
  clear i1 i2 i3 i4 i5 hh HX HL HI
  generalize hearX x M tick29 = R at *
  generalize evC tick29 = ek at *
  have CC := Hh (HC.out wr HXL.out.1 HXL.out.2)
  clear HC HXL
  go_wp2_with (refine at_op (.build 42 #[(0, .const (.int .i64 1))]) rfl ?_; go_must (refine wpList_bld rfl 42 _ rfl #[(0, .int .i64 1)] (by simp [Act.eval, Act.put]) (EB.out _) ?_))
  refine CC.out.mono ?_
  rintro _ w6 ⟨v6, E2, rfl, hO6, hX6, hL6, hf6, hE6⟩
  obtain ⟨A6, c6, rfl, hR6, _⟩ := hO6.form
  have BG6 := Hh (begun_any A6 c6 R.2.2 w6 hR6 (by omega))
  have B6 := hf6.blkT BT (by unfold StTy; decide)
  have hw6 : wr.heap.size ≤ w6.heap.size := hf6.size
  have H6 : Below w.heap.size w w6 := hf6.toBelow HB HB.size (fun i hi h => by
   rcases h with h | h | h
   ·
    omega
   ·
    omega
   ·
    have := hE i h; omega)
  have hE2 : ∀ i, E2 = some i → w3.heap.size ≤ i := fun i hi => by
   rcases hE6 i hi with h | h
   ·
    exact hE i h
   ·
    omega
  have hX6' := Hh hX6
  have hL6' := Hh hL6
  obtain ⟨j1, j2, j3, j4, j5⟩ := HIN.out
  have hj1 := Hh j1
  have hbl : begunL R.2.2 ≤ 2 := Nat.le_trans (begunL_le _) hx2
  have hj2 := Hh j2
  clear CC hO6 hX6 hL6 hf6 hE6 hR6 j1 j2 BT HB hE HIN
  generalize begunL R.2.2 = nb at *
  generalize hsx : x.sent = sx at *
  go_wp2_with fail
  refine BG6.out.mono ?_
  rintro _ w6' ⟨rfl, rfl⟩
  clear BG6
  go_wp2_with fail
  go_roundw
  case rel => exact ⟨tk + 1, R.1, R.2.1, E2, by omega, by rw [hj2.out]; go_num, by go_num, hX6', hL6', hj1, by omega, by rw [j4]; exact hMd, j5, H6, by omega, B6, hE2⟩
  case measure => simp [intOf]; omega
 have hlt' : ¬ (tk : Int) < T := by omega
 have hdn := HI.out.done HX.out.ok (by omega)
 have hvd := HI.out.vd hdn
 have hle : x.sent ≤ mostR r := by have := HI.out.rst; have := hMO.out; omega
 have DN := Hh (xdone_any HX.out)
 rw [hdn] at DN
 have SN := Hh (xsent_any HX.out)
 have OC := Hh (fun V (hV : Below wr.heap.size wr V) => outcome_any g gl E x V (HX.out.below hV))
 unfold OcRet at OC
 have MO1 := Hh (MO.out wr HB)
 have hvd' : (x.vd != 0) = true := by simpa using hvd
 have HWR := Hh HB
 clear hdn hvd HI HX HL EB MO hu hMd hh hE HRS
 have hle' : (x.sent : Int) ≤ mostR r := by omega
 generalize hms : mostR r = mm at *
 generalize x.sent = sx at *
 generalize x.vd = vd at *
 go_wp2_with fail
 refine DN.out.mono ?_
 rintro _ w8 ⟨rfl, rfl⟩
 clear DN
 go_wp2_with fail
 refine SN.out.mono ?_
 rintro _ w8 ⟨rfl, rfl⟩
 clear SN
 go_wp2_with (refine at_op (.load 69 (.tmp 88)) rfl ?_; go_must (refine wpList_ldG 69 (.tmp 88) rfl (by go_simp) w.heap.size 0 rfl BT 10 (by omega) _ underlying69 rfl rsI10 cs HL0.out ?_))
 refine MO1.out.mono ?_
 rintro _ w8 ⟨rfl, b8⟩
 have OC8 := Hh (OC.out _ b8)
 have H8 := below_then HWR.out HWR.out.size b8
 clear MO1 OC BT HB HWR b8
 go_wp2_with fail
 refine OC8.out.mono ?_
 rintro _ w9 ⟨dz, rfl, hM, b9⟩
 have H9 := below_then H8 H8.size b9
 have FO := Hh (fun V => fld_oc vd dz hM.len V)
 obtain ⟨O, hO⟩ : ∃ O, Hid (Value.int .i64 vd :: dz = O) := ⟨_, Hh rfl⟩
 rw [hO.out] at FO ⊢
 clear OC8 hM b9 H8
 go_wp2_with (refine at_op (.field 92 (.tmp 95) 0) rfl ?_; go_must (refine wpList_exG (v := .int .i64 vd) (by go_simp) (exec_fld 92 (.tmp 95) 0 rfl rfl (FO.out _)) ?_))
 go_ret
 exact RetB.mk rfl H9
end Go.Proofs.YthnbcmlnpdabhaaGreat

/-
  Layer 29, the laws' own: XchgGoes.
-/
import Derived.Test.YthnbcmlnpdabhaaGreatLaw29eq
import Derived.Test.YthnbcmlnpdabhaaGreatIOq
namespace Go.Proofs.YthnbcmlnpdabhaaGreat
open _root_.Go.Proofs.Tryz
open Go.RowKit
set_option maxRecDepth 100000
set_option linter.unusedVariables false
set_option linter.unusedSimpArgs false
theorem goes_take {tr : List Adr} : ∀ (o : List Ou) (s f : SG), goesG tr s o = some f → ∀ (i : Nat) (hi : i < o.length), ∃ s1 s2, goesG tr s (o.take i) = some s1 ∧ stepG tr s1 o[i] = some s2 ∧ goesG tr s (o.take (i + 1)) = some s2
 | [], _, _, _, i, hi => absurd hi (by simp)
 | o :: l, s, f, h, i, hi => by
  simp only [goesG] at h
  split at h
  ·
   cases h
  ·
   rename_i s' hs
   cases i with
   | zero => exact ⟨s, s', rfl, hs, by simp only [List.take_succ_cons, List.take_zero, goesG, hs]⟩
   | succ i =>
    obtain ⟨s1, s2, h1, h2, h3⟩ := goes_take l s' f h i (by simpa using hi)
    exact ⟨s1, s2, by simp only [List.take_succ_cons, goesG, hs]; exact h1, by simpa using h2, by simp only [List.take_succ_cons, goesG, hs]; exact h3⟩
theorem OusN.frT {S : Nat → Prop} {lo : Nat} {w w' : World} {v : Value} {l : List Ou} (h : OusN lo w v l) (k : Fr S w w') (hS : ∀ b, v.ownBlock = some b → ¬ S b) : OusN lo w' v l := by
 obtain ⟨css, h1, h2⟩ := h
 exact ⟨css, k.ownS h1 hS, h2⟩
theorem stepG_some {tr : List Adr} {s s2 : SG} {o : Ou} (h : stepG tr s o = some s2) (hk : o.kind = 1 ∨ o.kind = 2) : o.port = 1024 + (drawL s.1 64512).1 ∧ (o.kind = 1 → 2 ≤ o.data.length ∧ (numB (o.data.take 2) : Int) = (drawL (drawL s.1 64512).2 65536).1) ∧ (seekG tr o.to_ (tr.length + 1) s.2.1 s.2.2).1 ≠ tr.length ∧ s2 = ((drawL (drawL s.1 64512).2 65536).2, (seekG tr o.to_ (tr.length + 1) s.2.1 s.2.2).1, (seekG tr o.to_ (tr.length + 1) s.2.1 s.2.2).2 + 1) := by
 unfold stepG at h
 rw [if_neg (by rintro ⟨c1, c2⟩; exact hk.elim c1 c2)] at h
 split at h
 ·
  cases h
 ·
  rename_i h1
  split at h
  ·
   cases h
  ·
   rename_i h2
   injection h with h
   refine ⟨Decidable.not_not.1 (fun c => h1 (.inl c)), fun hk1 => ⟨Nat.not_lt.1 (fun c => h1 (.inr ⟨hk1, .inl c⟩)), Decidable.not_not.1 (fun c => h1 (.inr ⟨hk1, .inr c⟩))⟩, h2, h.symm⟩
theorem stepG_skip {tr : List Adr} {s s2 : SG} {o : Ou} (h : stepG tr s o = some s2) (h1 : o.kind ≠ 1) (h2 : o.kind ≠ 2) : s2 = s := by
 unfold stepG at h
 rw [if_pos ⟨h1, h2⟩] at h
 injection h with h
 exact h.symm
theorem seek_le (tr : List Adr) (t : Adr) : ∀ (f a l : Nat), a ≤ tr.length → l ≤ 1000 → (seekG tr t f a l).1 ≤ tr.length ∧ (seekG tr t f a l).2 ≤ (if 0 < l then l else 0)
 | 0, a, l, h, _ => ⟨h, by show l ≤ _; split <;> omega⟩
 | f + 1, a, l, h, h2 => by
  unfold seekG
  split
  ·
   split
   ·
    obtain ⟨i1, i2⟩ := seek_le tr t f (a + 1) 0 (by omega) (by omega)
    exact ⟨i1, by rw [if_neg (by omega)] at i2; omega⟩
   ·
    exact ⟨h, by show l ≤ _; split <;> omega⟩
  ·
   exact ⟨h, by show l ≤ _; split <;> omega⟩
theorem exec_neA {w : World} {o : Oper} {a : Act} {A B : Adr} (x y : Operand) (ho : o.op = .binOp .neq 24 x y 24) (hx : a.eval x = .agg A.cells.toArray) (hy : a.eval y = .agg B.cells.toArray) (h1 : A.ip.length = 16) (h2 : B.ip.length = 16) : (execOp a.eval o).run prog w = .ok (.value (.bool (!decide (A = B)))) w := by
 have hr := run_eqA A B h1 h2 w
 have hg : (eqGuard .neq 24 x y (.agg A.cells.toArray) (.agg B.cells.toArray)).run prog w = .ok () w := run_eqGuard_agg w _ _ _ _ _ _ Tryz.eqGuardType24
 unfold execOp
 simp only [ho, hx, hy, Sem.run_bind, hg, run_neq_struct, hr, Result.andThen_ok, Sem.run_pure]
theorem gouI : (prog.info? 97).map (·.size) = some 21 := by kernel_rfl
theorem OusN.cells {lo : Nat} {w : World} {A : Option Addr} {n c : Nat} {o : List Ou} (h : OusN lo w (.slice A n c) o) (i : Nat) (hi : i < o.length) : ∃ b off, A = some ⟨b, off, none⟩ ∧ w.cell? ⟨b, off + i * 21, none⟩ = some (.int .i64 o[i].kind) ∧ w.rangeAt b (off + i * 21 + 1) o[i].to_.cells ∧ w.cell? ⟨b, off + i * 21 + 19, none⟩ = some (.int .i64 o[i].port) ∧ w.cell? ⟨b, off + i * 21 + 20, none⟩ = some (.string (bs o[i].data)) ∧ o[i].to_.ip.length = 16 ∧ b < w.heap.size := by
 obtain ⟨A', c', hv', hR, _⟩ := h.form
 injection hv' with hv1 hv2 hv3
 subst hv1 hv3
 obtain ⟨bo, oo, hAo, hbo, hrow⟩ := hR.2 (by omega)
 have hoi := hrow i hi
 have hip : (o[i]).to_.ip.length = 16 := hR.1 _ (List.getElem_mem hi)
 refine ⟨bo, oo, hAo, ?_, fun j v hv => ?_, hoi 19 _ (ouC_at hip 0), hoi 20 _ (ouC_at hip 1), hip, hbo⟩
 ·
  have := hoi 0 (.int .i64 o[i].kind) rfl
  simpa using this
 ·
  have h18 := ouC_ad hip
  have hj : j < 18 := by have := (List.getElem?_eq_some_iff.1 hv).1; rw [Adr.cells_len _ hip] at this; exact this
  have e : (ouC o[i])[1 + j]? = some v := by
   rw [← h18, List.getElem?_take_of_lt hj, List.getElem?_drop] at hv
   exact hv
  have := hoi (1 + j) v e
  rw [← Nat.add_assoc] at this
  exact this
theorem XchgAt.off {w : World} {g gl lo : Nat} {D : Option Nat} {x : Xc} {L : Lt} {v : Value} {l : List Ou} (h : XchgAt w g gl D x) (hl : LotAt w gl L) (ho : OusN lo w v l) : ∀ b, v.ownBlock = some b → ¬ XS g gl D b := by
 intro b hb hx
 obtain ⟨Lg, hLg⟩ := h.blk
 obtain ⟨Ll, hLl⟩ := lot_blk hl
 rcases hx with hx | hx | hx
 ·
  subst hx; exact ho.offT hLg (by decide) hb
 ·
  subst hx; exact ho.offT hLl (by decide) hb
 ·
  obtain ⟨ok, vn, hs, eb, qs, hB, h1, h2⟩ := h
  cases hd : x.done with
  | true => rw [h1 hd] at hx; cases hx
  | false =>
   obtain ⟨_, _, _, k1, k2⟩ := h2 hd
   by_cases hlg : x.lg = 2
   ·
    obtain ⟨gd, e, hA⟩ := k2 hlg
    rw [e] at hx
    injection hx with hx
    subst hx
    obtain ⟨Ld, hLd⟩ := hA.blkD
    exact ho.offT hLd (by decide) hb
   ·
    rw [k1 hlg] at hx; cases hx
set_option maxHeartbeats 8000000 in
theorem xchgGoes_any (As : Option Addr) (cs : List Value) (r : Rs) (A : Option Addr) (c : Nat) (q : Qn) (turn : Int) (ds : List Int) (cd : Nat) (Ae : Option Addr) (ce : Nat) (l : List Ev) (w : World) (h : RsIs w cs r) (hN : NmR w A c q.name) (hD : DrwsR w As ds) (hE : EvsR w Ae l) (hEl : l.length ≤ 17592186044416) :
  Calls prog 6 #[.agg (tskC (.slice As ds.length cd) (.slice A q.name.length c) cs q turn).toArray, .slice Ae l.length ce] w (RetB (.bool true) w) := by
 have hcl := h.len
 obtain ⟨hLl, L0, L10, L13, L14⟩ := tsk_at (vs := .slice As ds.length cd) (vn := .slice A q.name.length c) (q := q) (turn := turn) hcl
 have SM := Hh (fun V (b : Below w.heap.size w V) => small29_any As cs r A c q turn ds.length cd V (h.below b) (hN.below b))
 have FE := Hh (fun w' (b : Below w.heap.size w w') => few28_any Ae ce l 80 w' (hE.below b) hEl)
 have HRS := Lib.hid h
 have HNM := Hh hN
 have HDR := Hh hD
 have HEV := Hh hE
 obtain ⟨L, hL⟩ : ∃ L, Hid (tskC (.slice As ds.length cd) (.slice A q.name.length c) cs q turn = L) := ⟨_, Hh rfl⟩
 rw [hL.out] at hLl L0 L10 L13 L14 SM ⊢
 have hB : Below w.heap.size w (w.alloc (.cells L.toArray 72)) := (Below.refl _ _).alloc (Nat.le_refl _) _
 have B := Blk.new w 72 L
 clear h hN hD hE hL
 go_enter func6, ntmps6
 go_wp2_with fail
 refine (works29_any _).mono ?_
 rintro _ w1 ⟨rfl, b1⟩
 have B1 := B.below b1 B.lt
 have H1 := below_then hB hB.size b1
 clear B hB b1
 go_wp2_with (refine at_op (.load 72 (.tmp 2)) rfl ?_; go_must (refine wpList_ldG 72 (.tmp 2) rfl (by go_simp) w.heap.size 0 rfl B1 15 (by omega) _ underlying72 rfl tskI L (tk0 (by omega)) ?_))
 refine (SM.out _ H1).mono ?_
 rintro _ w2 ⟨b, rfl, hsm, b2⟩
 have B2 := B1.below b2 B1.lt
 have H2 := below_then H1 H1.size b2
 have HSM := Hh hsm
 clear B1 H1 b2 SM hsm
 cases b with
 | false =>
  clear FE
  go_wp2_with fail
  refine (works29_any _).mono ?_
  rintro _ w3 ⟨rfl, b3⟩
  go_wp2_with fail
  go_ret
  exact RetB.mk rfl (below_then H2 H2.size b3)
 | true =>
 obtain ⟨hq4, hdl⟩ := HSM.out rfl
 have hqn : q.name.length ≤ 100000 := by have := lsum_ge q.name; omega
 clear HSM hq4
 go_wp2_with fail
 refine (FE.out _ H2).mono ?_
 rintro _ w3 ⟨b, rfl, hfe, b3⟩
 have B3 := B2.below b3 B2.lt
 have H3 := below_then H2 H2.size b3
 have HFE := Hh hfe
 clear B2 H2 b3 FE hfe
 cases b with
 | false =>
  go_wp2_with fail
  refine (works29_any _).mono ?_
  rintro _ w4 ⟨rfl, b4⟩
  go_wp2_with fail
  go_ret
  exact RetB.mk rfl (below_then H3 H3.size b4)
 | true =>
 obtain ⟨hl80, htot⟩ := HFE.out rfl
 clear HFE
 have LN := Hh (fun V (hV : Below w.heap.size w V) => lnew_any As cd ds V (fun hp => by obtain ⟨b, off, h1, h2, h3⟩ := HDR.out hp; exact ⟨b, off, h1, range_below h3 hV h2⟩) (by omega))
 have XN := Hh (fun gl V (hV : Below w.heap.size w V) (hLt : LotAt V gl ⟨ds, 0⟩) => xnew_any cs r q A c turn gl ⟨ds, 0⟩ V (HRS.out.below hV) (HNM.out.below hV) hqn hLt (by show (0 : Nat) ≤ 999999990; omega) (by show ds.length ≤ 17592186044416; omega))
 have LR : Hid (∀ V, Below w3.heap.size w3 V → (Instr.loadAt 69 (.pointer (some ⟨w.heap.size, 0, none⟩))).run prog V = .ok (.agg cs.toArray) V) := Hh (fun V hV => (B3.below hV B3.lt).loads 69 0 10 (by omega) _ underlying69 rfl rsI10 _ L0)
 have LQ : Hid (∀ V, Below w3.heap.size w3 V → (Instr.loadAt 28 (.pointer (some ⟨w.heap.size, 10, none⟩))).run prog V = .ok (.agg (qC (.slice A q.name.length c) q).toArray) V) := Hh (fun V hV => (B3.below hV B3.lt).loads 28 10 3 (by omega) _ underlying28 rfl qInfo _ L10)
 have LT : Hid (∀ V, Below w3.heap.size w3 V → (Instr.loadAt 3 (.pointer (some ⟨w.heap.size, 13, none⟩))).run prog V = .ok (.int .i64 turn) V) := Hh (fun V hV => run_load1 underlying3 rfl ((B3.below hV B3.lt).cell_ 13 L13))
 have LD : Hid (∀ V, Below w3.heap.size w3 V → (Instr.loadAt 70 (.pointer (some ⟨w.heap.size, 14, none⟩))).run prog V = .ok (.slice As ds.length cd) V) := Hh (fun V hV => run_load1 underlying70 rfl ((B3.below hV B3.lt).cell_ 14 L14))
 have NI := Hh (fun ok => InvX.new r q turn ⟨ds, 0⟩ rfl ok)
 have NL := Hh (newX_len (heldR r).tmo (heldR r).vc (heldR r).ed q (triesR r turn) ⟨ds, 0⟩)
 obtain ⟨X0, hX0⟩ : ∃ X0, Hid (newX (heldR r).tmo (heldR r).vc (heldR r).ed q (triesR r turn) ⟨ds, 0⟩ = X0) := ⟨_, Hh rfl⟩
 rw [hX0.out] at XN NI NL
 obtain ⟨Q, hQ⟩ : ∃ Q, Hid (qC (.slice A q.name.length c) q = Q) := ⟨_, Hh rfl⟩
 rw [hQ.out] at XN LQ
 have HL0 := Hh L0
 have HL13 := Hh L13
 have HL14 := Hh L14
 clear L0 L10 L13 L14 hQ HNM
 go_upto_region 4 with fail
 go_cut [5, 6] (fun v5 v6 wx => ∃ g gl D, v5 = .pointer (some ⟨g, 0, none⟩) ∧ OusN w.heap.size wx v6 X0.2.2 ∧ XchgAt wx g gl D X0.1 ∧ LotAt wx gl X0.2.1 ∧ Below w3.heap.size w3 wx ∧ w3.heap.size ≤ g ∧ w3.heap.size ≤ gl ∧ ∀ i, D = some i → w3.heap.size ≤ i)
 case first =>
  refine wp_region_held_drew (S := fun V => Below w3.heap.size w3 V) (by kernel_rfl) (Below.refl _ _).drew (fun hS => ?_)
  refine held_seq hS 8 [0,1,2,3,4,5,6,7] rfl (by kernel_rfl) (fun _ _ _ _ _ h => h) rfl rfl ?_
  repeat (refine ⟨_, _, rfl, .inl ⟨rfl, fun W hW => rfl⟩, ?_⟩; simp only [Act.put, lsA, lsB, lsC])
  (refine ⟨_, _, rfl, .inl ⟨rfl, fun V hV => (exec_ld 69 (.tmp 29) ⟨w.heap.size, 0, none⟩ rfl rfl (LR.out V hV))⟩, ?_⟩; simp only [Act.put, lsA, lsB, lsC])
  repeat (refine ⟨_, _, rfl, .inl ⟨rfl, fun W hW => rfl⟩, ?_⟩; simp only [Act.put, lsA, lsB, lsC])
  (refine ⟨_, _, rfl, .inl ⟨rfl, fun V hV => (exec_ld 28 (.tmp 31) ⟨w.heap.size, 10, none⟩ rfl rfl (LQ.out V hV))⟩, ?_⟩; simp only [Act.put, lsA, lsB, lsC])
  repeat (refine ⟨_, _, rfl, .inl ⟨rfl, fun W hW => rfl⟩, ?_⟩; simp only [Act.put, lsA, lsB, lsC])
  (refine ⟨_, _, rfl, .inl ⟨rfl, fun V hV => (exec_ld 3 (.tmp 33) ⟨w.heap.size, 13, none⟩ rfl rfl (LT.out V hV))⟩, ?_⟩; simp only [Act.put, lsA, lsB, lsC])
  repeat (refine ⟨_, _, rfl, .inl ⟨rfl, fun W hW => rfl⟩, ?_⟩; simp only [Act.put, lsA, lsB, lsC])
  (refine ⟨_, _, rfl, .inl ⟨rfl, fun V hV => (exec_ld 70 (.tmp 35) ⟨w.heap.size, 14, none⟩ rfl rfl (LD.out V hV))⟩, ?_⟩; simp only [Act.put, lsA, lsB, lsC])
  simp only [SeqC]
  refine held_call 8 (some 37) 33 #[.slice As ds.length cd] (by kernel_rfl) rfl rfl (by kernel_rfl) (by go_simp) (LN.out _ (below_then H3 H3.size hS)) ?_
  rintro _ w4 ⟨gl, rfl, hLt, b4, hgl⟩
  have hS4 := below_then hS hS.size b4
  refine ⟨_, rfl, hS4, ?_⟩
  have hgl3 : w3.heap.size ≤ gl := Nat.le_trans hS.size hgl
  clear hS b4 hgl
  have hS := hS4
  clear hS4
  simp only [Act.put, lsA, lsB, lsC]
  refine held_call 9 (some 38) 32 #[.agg cs.toArray, .agg Q.toArray, .int .i64 turn, .pointer (some ⟨gl, 0, none⟩)] (by kernel_rfl) rfl rfl (by kernel_rfl) (by go_simp) (XN.out gl _ (below_then H3 H3.size hS) hLt) ?_
  rintro _ w5 ⟨g, v, D, rfl, hO, hX, hl5, hf, hg, hD⟩
  have hS5 : Below w3.heap.size w3 w5 := hf.toBelow hS hS.size (fun i hi h => by omega)
  refine ⟨_, rfl, hS5, ?_⟩
  have hO5 := hO.mono (show w.heap.size ≤ w4.heap.size from Nat.le_trans H3.size hS.size)
  have hg3 : w3.heap.size ≤ g := Nat.le_trans hS.size hg
  have hD3 : ∀ i, D = some i → w3.heap.size ≤ i := fun i hi => Nat.le_trans hS.size (hD i hi)
  clear hS hf hO hg hD hLt
  have hS := hS5
  clear hS5
  simp only [Act.put, lsA, lsB, lsC]
  refine held_seq hS 5 [10,11,12,13,14] rfl (by kernel_rfl) (fun _ _ _ _ _ h => h) rfl rfl ?_
  (refine ⟨_, (.tuple #[.pointer (some ⟨g, 0, none⟩), v]), rfl, .inl ⟨rfl, fun V hV => rfl⟩, ?_⟩; simp only [Act.put, lsA, lsB, lsC])
  (refine ⟨_, (.pointer (some ⟨g, 0, none⟩)), rfl, .inl ⟨rfl, fun V hV => rfl⟩, ?_⟩; simp only [Act.put, lsA, lsB, lsC])
  (refine ⟨_, v, rfl, .inl ⟨rfl, fun V hV => rfl⟩, ?_⟩; simp only [Act.put, lsA, lsB, lsC])
  (refine ⟨_, (.pointer (some ⟨g, 0, none⟩)), rfl, .inl ⟨rfl, fun V hV => rfl⟩, ?_⟩; simp only [Act.put, lsA, lsB, lsC])
  (refine ⟨_, v, rfl, .inl ⟨rfl, fun V hV => rfl⟩, ?_⟩; simp only [Act.put, lsA, lsB, lsC])
  simp only [SeqC]
  refine wpAnyH_done (by kernel_rfl) ?_ _
  go_wp2_with fail
  go_meet
  case rel => exact ⟨g, gl, D, rfl, hO5, hX, hl5, hS, hg3, hgl3, hD3⟩
 obtain ⟨g, gl, D, rfl, hO, hX, hLt, HW, hg3, hgl3, hD3⟩ := hcut
 clear LR LQ LT LD LN XN
 obtain ⟨w5, rfl⟩ : ∃ w5, w5 = wc := ⟨_, rfl⟩
 obtain ⟨n1, n2, n3, n4, n5⟩ := NI.out hX.ok
 have hlen := NL.out
 have st0 := newX_st r q turn ⟨ds, 0⟩ (by rw [hX0.out]; exact hX.ok)
 have GN := newX_go (heldR r).tmo (heldR r).vc (heldR r).ed q (triesR r turn) ⟨ds, 0⟩ st0
 have TRE := (newX_end (heldR r).tmo (heldR r).vc (heldR r).ed q (triesR r turn) ⟨ds, 0⟩ st0).tr
 rw [hX0.out] at GN TRE
 obtain ⟨a0, l0, g1, g2⟩ := GN
 have RT := Hh (fun V (hV : Below w.heap.size w V) => rtries_any cs r turn V (HRS.out.below hV))
 obtain ⟨tl, htl⟩ : ∃ tl, Hid (triesR r turn = tl) := ⟨_, Hh rfl⟩
 have g1 : goesG (triesR r turn) (⟨ds, 0⟩, 0, 0) X0.2.2 = some (X0.2.1, a0, l0) := g1
 have TRE : X0.1.tr = triesR r turn := TRE
 have htl15 := (tries_le r turn).2
 rw [htl.out] at g1 TRE RT htl15
 have B5 := B3.below HW B3.lt
 have H5 := below_then H3 H3.size HW
 have hw3 : w.heap.size < w3.heap.size := B3.lt
 have hw35 : w3.heap.size ≤ w5.heap.size := HW.size
 obtain ⟨hT1, hT2⟩ := ticks_le r
 have hMO : Hid (mostR r = 3 * (triesR r 0).length) := Hh rfl
 generalize ticksR r = T at *
 generalize (triesR r 0).length = nt at *
 generalize mostR r = mm at *
 obtain ⟨x0, hx0⟩ : ∃ x0, Hid (X0.1 = x0) := ⟨_, Hh rfl⟩
 obtain ⟨L1, hL1⟩ : ∃ L1, Hid (X0.2.1 = L1) := ⟨_, Hh rfl⟩
 rw [hx0.out] at hX n1 n5 g2 TRE
 rw [hL1.out] at hLt n3 n4 g1
 generalize X0.2.2 = o0 at *
 have hX5 := Hh hX
 have hL5 := Hh hLt
 have hI5 := Hh n1
 have hO5 := Hh hO
 have hU5 := Hh (And.intro n3 (And.intro n4 n5))
 have hG5 := Hh (And.intro g1 (And.intro g2 TRE))
 clear hX hLt n1 n2 n3 n4 n5 NI NL hO HW B3 H3 g1 g2 TRE st0 htl hX0
 go_wp2_with fail
 go_loopw [6, 7] (fun ov iv wr => ∃ (k tk : Nat) (x : Xc) (M : Lt) (E : Option Nat) (o : List Ou) (a b : Nat), k ≤ l.length ∧ iv = .int .i64 k ∧ Hid (OusN w.heap.size wr ov o) ∧ Hid (XchgAt wr g gl E x) ∧ Hid (LotAt wr gl M) ∧ Hid (InvX nt T x tk) ∧ Hid (goesG tl (⟨ds, 0⟩, 0, 0) o = some (M, a, b) ∧ InG x a b ∧ x.tr = tl) ∧ o.length ≤ 1 + 2 * k ∧ M.us ≤ 2 + 2 * k ∧ M.ds.length ≤ 17592186044416 ∧ x.d.heard.length ≤ totE (l.take k) ∧ Below w.heap.size w wr ∧ w3.heap.size ≤ wr.heap.size ∧ Blk wr w.heap.size 72 L ∧ ∀ i, E = some i → w3.heap.size ≤ i) (fun _ iv _ => l.length - (intOf iv).toNat)
 case atStart => exact ⟨0, 0, x0, L1, D, o0, a0, l0, Nat.zero_le _, rfl, hO5, hX5, hL5, hI5, hG5, by omega, hU5.out.1, by rw [hU5.out.2.1]; omega, by rw [hU5.out.2.2]; exact Nat.zero_le _, H5, hw35, B5, hD3⟩
 clear hX5 hL5 hI5 hU5 H5 B5 hD3 hx0 hL1 hO5 hG5
 obtain ⟨k, tk, x, M, E, o, a, b, hk, rfl, HO, HX, HL, HI, HG, hol, hu, hMd, hh, HB, hwr, BT, hE⟩ := hrel
 have hg0 : w.heap.size < g := Nat.lt_of_lt_of_le hw3 hg3
 have hgl0 : w.heap.size < gl := Nat.lt_of_lt_of_le hw3 hgl3
 have hsn : x.sent ≤ 135 := by have := HI.out.rst; have := hMO.out; omega
 obtain ⟨Ao, co, hov, _⟩ := HO.out.form
 subst hov
 by_cases hlt : k < l.length
 case pos =>
  have hlt' : (k : Int) < l.length := by omega
  obtain ⟨ba, oa, hA1, la1, ra, hip, hdl'⟩ := HEV.out.at_ k hlt
  have hT := totE_take l k hlt
  have hT2 := totE_le l (k + 1)
  have hel : (evC l[k]).length = 22 := evC_len hip
  have re := range_below ra HB la1
  have HC := Hh (xhear_any g gl E x M l[k] wr HX.out HL.out hip (by omega) (by omega) hMd (by omega))
  obtain ⟨i1, i2, i3, i4, i5⟩ := HI.out.hear HX.out.ok M l[k]
  obtain ⟨gg1, gg2, gg3⟩ := HG.out
  have GO := hearX_go HX.out.ok HI.out.lg M l[k] a b gg2
  have TR2 := (hearX_end HX.out.ok.st (fun hd => (HX.out.ok.go hd).2.1) HI.out.lg HI.out.vd M l[k]).tr
  rw [gg3] at TR2
  obtain ⟨a2, b2, go1, go2⟩ := GO
  rw [gg3] at go1
  have hx2 := hearX_len x M l[k]
  have hh2 : (hearX x M l[k]).1.d.heard.length ≤ totE (l.take (k + 1)) := by omega
  have HGG := Hh (And.intro ((goes_app tl o _ _ _ gg1).trans go1) (And.intro go2 TR2))
  have HIN := Hh (And.intro i1 (And.intro i3 (And.intro i4 hh2)))
  have OFF := Hh (HX.out.off HL.out HO.out)
  subst hA1
  unfold XRet at HC
  clear i1 i2 i3 i4 i5 hh2 hT hT2 hh ra hdl' HX HL HI gg1 gg2 gg3 go1 go2 TR2 HG
  generalize hearX x M l[k] = R at *
  generalize hek : evC l[k] = ek at *
  obtain ⟨no, hno⟩ : ∃ no, Hid (o.length = no) := ⟨_, Hh rfl⟩
  rw [hno.out] at hol ⊢
  go_wp2_with (refine at_op (.load 42 (.tmp 51)) rfl ?_; go_must (refine wpList_ldR rfl 42 (.tmp 51) rfl ba (oa + k * 22) rfl ek re _ underlying42 rfl (by rw [hel]; exact evI22) ?_))
  refine HC.out.mono ?_
  rintro _ w6 ⟨v6, E2, rfl, hO6, hX6, hL6, hf6, hE6⟩
  have hw6 : wr.heap.size ≤ w6.heap.size := hf6.size
  have B6 := hf6.blkT BT (by unfold StTy; decide)
  have H6 : Below w.heap.size w w6 := hf6.toBelow HB HB.size (fun i hi h => by
   rcases h with h | h | h
   ·
    omega
   ·
    omega
   ·
    have := hE i h; omega)
  have hE2 : ∀ i, E2 = some i → w3.heap.size ≤ i := fun i hi => by
   rcases hE6 i hi with h | h
   ·
    exact hE i h
   ·
    omega
  have O6 : OusN w.heap.size w6 (.slice Ao no co) o := by have := HO.out.frT hf6 OFF.out; rwa [hno.out] at this
  have hX6' := Hh hX6
  have hL6' := Hh hL6
  have hO6' := Hh hO6
  have HO6 := Hh O6
  clear HC hO6 hX6 hL6 hf6 hE6 BT HB hE re HO OFF O6
  go_wp2_with (at_builtin; go_must (refine wpList_appOu _ rfl (.tmp 47) (.tmp 53) rfl rfl rfl HO6.out hO6'.out (by omega) (by rw [hno.out]; omega) ?_))
  intro v7 w7 hO7 f7
  obtain ⟨Lg, hLg⟩ := hX6'.out.blk
  obtain ⟨Ll, hLl⟩ := lot_blk hL6'.out
  have hX7 := Hh (hX6'.out.fr f7 (HO6.out.offT hLg (by decide)) (fun i L hi hb => HO6.out.offT hb (by decide)))
  have hL7 := Hh (hL6'.out.fr f7 (HO6.out.offT hLl (by decide)))
  have B7 := f7.blkT B6 (by unfold StTy; decide)
  have H7 : Below w.heap.size w w7 := f7.toBelow H6 H6.size (fun i hi h => by
   obtain ⟨css, ho, _⟩ := HO6.out
   have := own_base ho i h
   omega)
  have hw7 : w6.heap.size ≤ w7.heap.size := f7.size
  have hO7' := Hh hO7
  obtain ⟨j1, j3, j4, j5⟩ := HIN.out
  have hj1 := Hh j1
  have hol2 : (o ++ R.2.2).length ≤ 1 + 2 * (k + 1) := by rw [List.length_append, hno.out]; omega
  clear hX6' hL6' hO6' HO6 hO7 f7 hLg hLl B6 H6 j1 HIN
  go_wp2_with fail
  go_roundw
  case rel => exact ⟨k + 1, _, R.1, R.2.1, E2, o ++ R.2.2, a2, b2, by omega, by go_num, hO7', hX7, hL7, hj1, HGG, hol2, by omega, by rw [j4]; exact hMd, j5, H7, by omega, B7, hE2⟩
  case measure => simp [intOf]; omega
 have hlt' : ¬ (k : Int) < l.length := by omega
 have hol : o.length ≤ 161 := by omega
 have HGO : Hid (goesG tl (⟨ds, 0⟩, 0, 0) o = some (M, a, b)) := Hh HG.out.1
 clear HG HX HL HI hu hMd hh hE hsn hEl HEV hl80 htot hMO
 have RT1 := Hh (RT.out wr HB)
 obtain ⟨no, hno⟩ : ∃ no, Hid (o.length = no) := ⟨_, Hh rfl⟩
 have e13 := BT.cell_ 13 HL13.out
 clear RT HRS
 rw [hno.out] at hol ⊢
 go_wp2_with (refine at_op (.load 69 (.tmp 55)) rfl ?_; go_must (refine wpList_ldB rfl _ _ rfl w.heap.size 0 rfl BT 10 (by omega) _ underlying69 rfl rsI10 cs HL0.out ?_))
 refine RT1.out.mono ?_
 rintro _ w7 ⟨vT, rfl, oT, b7⟩
 have B7 := BT.below b7 BT.lt
 have H7 := below_then HB HB.size b7
 have O7 : OusN w.heap.size w7 (.slice Ao no co) o := by have := HO.out.below b7; rwa [hno.out] at this
 have HO7 := Hh O7
 have HT7 := Hh oT
 have e14 := B7.cell_ 14 HL14.out
 clear RT1 b7 BT HB HO e13 oT O7
 have BN := Blk.new w7 86 [.slice As ds.length cd, .int .i64 0]
 have BB : Below w7.heap.size w7 (w7.alloc (.cells #[.slice As ds.length cd, .int .i64 0] 86)) := (Below.refl _ _).alloc (Nat.le_refl _) _
 have HLR : Hid (RLotAt (w7.alloc (.cells #[.slice As ds.length cd, .int .i64 0] 86)) w7.heap.size As cd ⟨ds, 0⟩) := Hh ⟨BN, fun hp => by obtain ⟨b, off, h1, h2, h3⟩ := HDR.out hp; have hb := below_then H7 H7.size BB; exact ⟨b, off, h1, Nat.lt_of_lt_of_le h2 hb.size, range_below h3 hb h2⟩, fun hp b hb => by
  obtain ⟨b', off, h1, h2, h3⟩ := HDR.out hp
  rw [h1] at hb
  injection hb with hb
  subst hb
  show b' ≠ w7.heap.size
  have := H7.size
  omega⟩
 have HO8 := Hh (HO7.out.below BB)
 have HT8 := Hh (LOwn.below (R' := AdI) HT7.out BB (fun _ _ h => h))
 have H8 := below_then H7 H7.size BB
 have hgr : w.heap.size ≤ w7.heap.size := H7.size
 clear HO7 HT7 BN BB B7 H7 HDR
 obtain ⟨At, ct, hvT⟩ := HT8.out.form
 subst hvT
 generalize htn : tl.length = nt' at *
 have HTN := Hh htn
 clear htn
 go_wp2_with fail
 go_loopw [10, 11, 12] (fun av lv iv wr => ∃ (i a b : Nat) (M : Lt), i ≤ no ∧ av = .int .i64 a ∧ lv = .int .i64 b ∧ iv = .int .i64 i ∧ Hid (goesG tl (⟨ds, 0⟩, 0, 0) (o.take i) = some (M, a, b)) ∧ Hid (RLotAt wr w7.heap.size As cd M) ∧ Hid (OusN w.heap.size wr (.slice Ao no co) o) ∧ Hid (AdsO wr 0 (.slice At nt' ct) tl) ∧ M.us ≤ 2 * i ∧ b ≤ i ∧ a ≤ nt' ∧ Below w.heap.size w wr ∧ w7.heap.size < wr.heap.size) (fun _ _ iv _ => no - (intOf iv).toNat)
 case atStart => exact ⟨0, 0, 0, ⟨ds, 0⟩, Nat.zero_le _, rfl, rfl, rfl, Hh rfl, HLR, HO8, HT8, Nat.le_refl _, Nat.le_refl _, Nat.zero_le _, H8, by simp⟩
 clear HLR HO8 HT8 H8
 obtain ⟨i, a, b, M, hi, rfl, rfl, rfl, HGI, HR, HO, HT, hMu, hbi, han, HB, hws⟩ := hrel
 by_cases hlt : i < no
 case neg =>
  have hlt' : ¬ (i : Int) < no := by omega
  clear HGI HR HO HT HGO
  go_wp2_with fail
  go_ret
  exact RetB.mk rfl HB
 have hlt' : (i : Int) < no := by omega
 have hio : i < o.length := by rw [hno.out]; exact hlt
 obtain ⟨s1, s2, t1, t2, t3⟩ := goes_take o _ _ HGO.out i hio
 rw [HGI.out] at t1
 injection t1 with t1
 subst t1
 obtain ⟨bo, oo, hAo, c0, -, -, -, hip, -⟩ := HO.out.cells i hio
 subst hAo
 by_cases hk : o[i].kind = 1 ∨ o[i].kind = 2
 case neg =>
  have h1 : o[i].kind ≠ 1 := fun e => hk (.inl e)
  have h2 : o[i].kind ≠ 2 := fun e => hk (.inr e)
  have e2 := stepG_skip t2 h1 h2
  rw [e2] at t3
  have HG3 := Hh t3
  have k1 : (o[i].kind != 1) = true := by simpa using h1
  have k2 : (o[i].kind != 2) = true := by simpa using h2
  clear t2 t3 h1 h2 e2 hk HGI
  generalize o[i].kind = kd at *
  go_wp2_with fail
  go_roundw
  case rel => exact ⟨i + 1, a, b, M, by omega, rfl, rfl, by go_num, HG3, HR, HO, HT, by omega, by omega, han, HB, hws⟩
  case measure => simp [intOf]; omega
 obtain ⟨p1, p2, p3, p4⟩ := stepG_some t2 hk
 rw [p4] at t3
 have hal : tl.length = nt' := HTN.out
 obtain ⟨m1, m2⟩ := draw_lt M (show (0 : Int) < 64512 by decide)
 obtain ⟨m3, m4⟩ := draw_lt (drawL M 64512).2 (show (0 : Int) < 65536 by decide)
 have D1 := Hh (rdraw_any w7.heap.size As cd M 64512 wr HR.out (by decide) (by decide) (by omega))
 have D2 := Hh (fun V h => rdraw_any w7.heap.size As cd (drawL M 64512).2 65536 V h (by decide) (by decide) (by show M.us + 1 ≤ 1000000000; omega))
 have hu2 : (drawL (drawL M 64512).2 65536).2.us = M.us + 2 := rfl
 unfold RDrRet at D1 D2
 obtain ⟨sk1, sk2⟩ := seek_le tl o[i].to_ (tl.length + 1) a b (by omega) (by omega)
 have sk2' : (seekG tl o[i].to_ (tl.length + 1) a b).2 ≤ b := by split at sk2 <;> omega
 have P3 := Hh (show (seekG tl o[i].to_ (tl.length + 1) a b).1 ≠ tl.length from p3)
 have HG3 : Hid (goesG tl (⟨ds, 0⟩, 0, 0) (o.take (i + 1)) = some ((drawL (drawL M 64512).2 65536).2, (seekG tl o[i].to_ (tl.length + 1) a b).1, (seekG tl o[i].to_ (tl.length + 1) a b).2 + 1)) := Hh t3
 have hkk : (o[i].kind == 1 ∨ True) := .inr trivial
 clear t2 t3 p3 p4 HGI sk2
 obtain ⟨R1, hR1⟩ : ∃ R1, Hid (drawL M 64512 = R1) := ⟨_, Hh rfl⟩
 rw [hR1.out] at D1 D2 m1 m2 m3 m4 p1 p2 hu2 HG3
 obtain ⟨R2, hR2⟩ : ∃ R2, Hid (drawL R1.2 65536 = R2) := ⟨_, Hh rfl⟩
 rw [hR2.out] at D2 m3 m4 p2 hu2 HG3
 obtain ⟨Z, hZ⟩ : ∃ Z, Hid (seekG tl o[i].to_ (tl.length + 1) a b = Z) := ⟨_, Hh rfl⟩
 rw [hZ.out] at sk1 sk2' P3 HG3
 clear hkk hR1 hR2
 obtain ⟨kd, hkd⟩ : ∃ kd, Hid (o[i].kind = kd) := ⟨_, Hh rfl⟩
 rw [hkd.out] at hk c0 p2
 have hno2 := Hh hio
 go_upto_region 14 with fail
 go_cut [83] (fun v wx => v = .bool false ∧ wx = wr)
 case first =>
  rcases hk with h | h
  all_goals
   subst h
   go_wp2_with fail
   go_meet
   case rel => exact ⟨rfl, rfl⟩
 obtain ⟨rfl, hwc⟩ := hcut
 rw [hwc]
 clear hwc c0
 go_wp2_with fail
 refine D1.out.mono ?_
 rintro _ w8 ⟨rfl, hR8, g8⟩
 have hblk := HR.out.1
 have hO8 := Hh (LOwn.blk HO.out g8 hblk (by decide))
 have hT8 := Hh (LOwn.blk HT.out g8 hblk (by decide))
 have H8 := below_grown HB g8 HB.size hgr
 have D3 := Hh (D2.out w8 hR8)
 have hR8' := Hh hR8
 have hw8 : w7.heap.size < w8.heap.size := Nat.lt_of_lt_of_le hws g8.size
 clear D1 D2 g8 hblk HO HT HR HB hR8
 generalize R1.1 = pp at *
 go_wp2_with fail
 refine D3.out.mono ?_
 rintro _ w9 ⟨rfl, hR9, g9⟩
 have hblk := hR8'.out.1
 have hO9 : Hid (OusN w.heap.size w9 (.slice (some ⟨bo, oo, none⟩) no co) o) := Hh (LOwn.blk hO8.out g9 hblk (by decide))
 have hT9 := Hh (LOwn.blk hT8.out g9 hblk (by decide))
 have H9 := below_grown H8 g9 H8.size hgr
 have hw9 : w7.heap.size < w9.heap.size := Nat.lt_of_lt_of_le hw8 g9.size
 have hR9' := Hh hR9
 clear D3 g9 hblk hO8 hT8 H8 hR8' hR9 hw8
 generalize R2.1 = ii at *
 obtain ⟨bo2, oo2, hAo2, c0, rto, c19, c20, hip2, hbo⟩ := hO9.out.cells i hio
 injection hAo2 with hAo2
 injection hAo2 with e1 e2 e3
 subst e1 e2
 rw [hkd.out] at c0
 rw [p1] at c19
 have RTO := Hh rto
 have hdl : (o[i]).data.length ≤ 281474976710656 ∨ True := .inr trivial
 generalize hdt : o[i].data = dt at *
 clear rto hdl
 go_upto_region 16 with fail
 go_cut [123] (fun v wx => v = .bool false ∧ wx = w9)
 case first =>
  rcases hk with h | h
  ·
   subst h
   obtain ⟨d1, d2⟩ := p2 rfl
   have NM := Hh (fun W => refNum_any (dt.take 2) W (by rw [List.length_take]; omega))
   rw [d2] at NM
   have d1' : ¬ (dt.length : Int) < 2 := by omega
   clear p2 d2
   go_wp2_with fail
   refine (NM.out _).mono ?_
   rintro _ w9' ⟨rfl, rfl⟩
   go_wp2_with fail
   go_meet
   case rel => exact ⟨rfl, rfl⟩
  ·
   subst h
   go_wp2_with fail
   go_meet
   case rel => exact ⟨rfl, rfl⟩
 obtain ⟨rfl, hwc⟩ := hcut
 rw [hwc]
 clear hwc c0 c19 c20 p1 p2 hk
 generalize hto : o[i].to_ = to_ at *
 go_upto_block 4 with fail
 go_cut [10, 11] (fun av lv wx => av = .int .i64 Z.1 ∧ lv = .int .i64 Z.2 ∧ Below w9.heap.size w9 wx)
 case first =>
  go_wp2_with fail
  go_loopw [10, 11] (fun av lv wr => ∃ f a' b' : Nat, av = .int .i64 a' ∧ lv = .int .i64 b' ∧ Hid (seekG tl to_ f a' b' = Z) ∧ tl.length < f + a' ∧ a' ≤ nt' ∧ b' ≤ i ∧ Below w9.heap.size w9 wr) (fun av _ _ => nt' - (intOf av).toNat)
  case atStart => exact ⟨tl.length + 1, a, b, rfl, rfl, hZ, by omega, han, hbi, Below.refl _ _⟩
  obtain ⟨f, a', b', rfl, rfl, HZ, hf, ha', hb', HV⟩ := hrel
  by_cases ha : a' < nt'
  case neg =>
   have hx : Z = (a', b') := by
    rw [← HZ.out]
    cases f with
    | zero => rfl
    | succ f => unfold seekG; rw [dif_neg (by omega)]
   have HX := Hh hx
   have hd : decide ((a' : Int) < nt') = false := by simp; omega
   clear hx
   go_wp2_with fail
   refine wp_region_held_drew (S := fun V => Below w9.heap.size w9 V) (by kernel_rfl) HV.drew (fun hS => ?_)
   refine held_seq hS 20 [0,1,2,3,4,5,6,7,8,9,10,11,12,13,14,15,16,17,18,19] rfl (by kernel_rfl) (fun _ _ _ _ _ h => h) rfl rfl ?_
   repeat (refine ⟨_, _, rfl, .inl ⟨rfl, fun W hW => rfl⟩, ?_⟩; simp only [Act.put, lsA, lsB, lsC])
   (refine ⟨_, (.int .i64 (nt' : Int)), rfl, .inl ⟨rfl, fun V hV => (by go_simp)⟩, ?_⟩; simp only [Act.put, lsA, lsB, lsC])
   repeat (refine ⟨_, _, rfl, .inl ⟨rfl, fun W hW => rfl⟩, ?_⟩; simp only [Act.put, lsA, lsB, lsC])
   simp only [hd]
   repeat (refine ⟨_, undef, rfl, .inr ⟨rfl, rfl⟩, ?_⟩; simp only [Act.put, lsA, lsB, lsC])
   repeat (refine ⟨_, _, rfl, .inl ⟨rfl, fun W hW => rfl⟩, ?_⟩; simp only [Act.put, lsA, lsB, lsC])
   simp only [SeqC]
   refine wpAnyH_done (by kernel_rfl) ?_ _
   go_wp2_with fail
   go_meet
   case rel => exact ⟨by rw [HX.out], by rw [HX.out], hS⟩
  have hal2 : a' < tl.length := by omega
  have hd : decide ((a' : Int) < nt') = true := by simp; omega
  have ha2 : (a' : Int) < nt' := by omega
  obtain ⟨f, rfl⟩ : ∃ f0, f = f0 + 1 := ⟨f - 1, by omega⟩
  have HZ2 : Hid (Z = if tl[a'] ≠ to_ ∨ b' = 3 then seekG tl to_ f (a' + 1) 0 else (a', b')) := Hh (by rw [← HZ.out]; conv => lhs; unfold seekG; rw [dif_pos hal2])
  have hTT : AdsO w9 0 (.slice At tl.length ct) tl := by have := hT9.out; rwa [← HTN.out] at this
  obtain ⟨gT, hAt, hgT, hrow⟩ := LOwn.at_ (fun _ _ h => h.len) hTT (show 0 < tl.length by omega)
  obtain ⟨es, hes, hce, hip3⟩ := hrow a' hal2
  rw [hce] at hes
  have LT : Hid (∀ V, Below w9.heap.size w9 V → (Instr.loadAt 24 (.pointer (some ⟨gT, 0 + a' * 18, none⟩))).run prog V = .ok (.agg tl[a'].cells.toArray) V) := Hh (fun V hV => rangeK_loads (range_below hes hV hgT) underlying24 rfl (by rw [Adr.cells_len _ hip3]; exact adI18))
  have LO : Hid (∀ V, Below w9.heap.size w9 V → (Instr.loadAt 24 (.pointer (some ⟨bo, oo + i * 21 + 1, none⟩))).run prog V = .ok (.agg to_.cells.toArray) V) := Hh (fun V hV => rangeK_loads (range_below RTO.out hV hbo) underlying24 rfl (by rw [Adr.cells_len _ hip2]; exact adI18))
  subst hAt
  have hio2 : i < no := by have := hno2.out; rwa [hno.out] at this
  have han2 : a' < nt' := ha
  clear hrow hes hce HZ
  by_cases hne : tl[a'] = to_
  case neg =>
   have hd2 : (!decide (tl[a'] = to_)) = true := by simp [hne]
   have HX : Hid (seekG tl to_ f (a' + 1) 0 = Z) := Hh (by rw [HZ2.out, if_pos (.inl hne)])
   clear HZ2
   generalize tl[a'] = ta at *
   go_wp2_with fail
   refine wp_region_held_drew (S := fun V => Below w9.heap.size w9 V) (by kernel_rfl) HV.drew (fun hS => ?_)
   refine held_seq hS 20 [0,1,2,3,4,5,6,7,8,9,10,11,12,13,14,15,16,17,18,19] rfl (by kernel_rfl) (fun _ _ _ _ _ h => h) rfl rfl ?_
   repeat (refine ⟨_, _, rfl, .inl ⟨rfl, fun W hW => rfl⟩, ?_⟩; simp only [Act.put, lsA, lsB, lsC])
   (refine ⟨_, (.int .i64 (nt' : Int)), rfl, .inl ⟨rfl, fun V hV => (by go_simp)⟩, ?_⟩; simp only [Act.put, lsA, lsB, lsC])
   repeat (refine ⟨_, _, rfl, .inl ⟨rfl, fun W hW => rfl⟩, ?_⟩; simp only [Act.put, lsA, lsB, lsC])
   simp only [hd]
   (refine ⟨_, _, rfl, .inl ⟨rfl, fun V hV => rfl⟩, ?_⟩; simp only [Act.put, lsA, lsB, lsC])
   (refine ⟨_, _, rfl, .inl ⟨rfl, fun V hV => rfl⟩, ?_⟩; simp only [Act.put, lsA, lsB, lsC])
   (refine ⟨_, _, rfl, .inl ⟨rfl, fun V hV => (exec_ixK underlying65 adI18 (by decide) (.tmp 129) (.tmp 130) rfl rfl rfl han2 V)⟩, ?_⟩; simp only [Act.put, lsA, lsB, lsC])
   (refine ⟨_, _, rfl, .inl ⟨rfl, fun V hV => (exec_ld 24 (.tmp 131) ⟨gT, 0 + a' * 18, none⟩ rfl rfl (LT.out V hV))⟩, ?_⟩; simp only [Act.put, lsA, lsB, lsC])
   (refine ⟨_, _, rfl, .inl ⟨rfl, fun V hV => rfl⟩, ?_⟩; simp only [Act.put, lsA, lsB, lsC])
   (refine ⟨_, _, rfl, .inl ⟨rfl, fun V hV => rfl⟩, ?_⟩; simp only [Act.put, lsA, lsB, lsC])
   (refine ⟨_, _, rfl, .inl ⟨rfl, fun V hV => (exec_ixK underlying34 gouI (by decide) (.tmp 133) (.tmp 134) rfl rfl rfl hio2 V)⟩, ?_⟩; simp only [Act.put, lsA, lsB, lsC])
   (refine ⟨_, _, rfl, .inl ⟨rfl, fun V hV => rfl⟩, ?_⟩; simp only [Act.put, lsA, lsB, lsC])
   (refine ⟨_, _, rfl, .inl ⟨rfl, fun V hV => (exec_ld 24 (.tmp 136) ⟨bo, oo + i * 21 + 1, none⟩ rfl rfl (LO.out V hV))⟩, ?_⟩; simp only [Act.put, lsA, lsB, lsC])
   (refine ⟨_, (.bool true), rfl, .inl ⟨rfl, fun V hV => ((exec_neA (.tmp 132) (.tmp 137) rfl rfl rfl hip3 hip2).trans (by rw [hd2]))⟩, ?_⟩; simp only [Act.put, lsA, lsB, lsC])
   (refine ⟨_, _, rfl, .inl ⟨rfl, fun V hV => rfl⟩, ?_⟩; simp only [Act.put, lsA, lsB, lsC])
   refine ⟨_, undef, rfl, .inr ⟨rfl, rfl⟩, ?_⟩
   simp only [Act.put, lsA, lsB, lsC]
   refine ⟨_, undef, rfl, .inr ⟨rfl, rfl⟩, ?_⟩
   simp only [Act.put, lsA, lsB, lsC]
   (refine ⟨_, _, rfl, .inl ⟨rfl, fun V hV => rfl⟩, ?_⟩; simp only [Act.put, lsA, lsB, lsC])
   (refine ⟨_, _, rfl, .inl ⟨rfl, fun V hV => rfl⟩, ?_⟩; simp only [Act.put, lsA, lsB, lsC])
   simp only [SeqC]
   refine wpAnyH_done (by kernel_rfl) ?_ _
   clear LT LO hd hd2
   go_wp2_with fail
   go_roundw
   case rel => exact ⟨f, a' + 1, 0, by go_num, rfl, HX, by omega, by omega, by omega, hS⟩
   case measure => simp [intOf]; omega
  have hd2 : (!decide (tl[a'] = to_)) = false := by simp [hne]
  by_cases hb3 : b' = 3
  case pos =>
   have HX : Hid (seekG tl to_ f (a' + 1) 0 = Z) := Hh (by rw [HZ2.out, if_pos (.inr hb3)])
   clear HZ2
   subst hb3
   generalize tl[a'] = ta at *
   go_wp2_with fail
   refine wp_region_held_drew (S := fun V => Below w9.heap.size w9 V) (by kernel_rfl) HV.drew (fun hS => ?_)
   refine held_seq hS 20 [0,1,2,3,4,5,6,7,8,9,10,11,12,13,14,15,16,17,18,19] rfl (by kernel_rfl) (fun _ _ _ _ _ h => h) rfl rfl ?_
   repeat (refine ⟨_, _, rfl, .inl ⟨rfl, fun W hW => rfl⟩, ?_⟩; simp only [Act.put, lsA, lsB, lsC])
   (refine ⟨_, (.int .i64 (nt' : Int)), rfl, .inl ⟨rfl, fun V hV => (by go_simp)⟩, ?_⟩; simp only [Act.put, lsA, lsB, lsC])
   repeat (refine ⟨_, _, rfl, .inl ⟨rfl, fun W hW => rfl⟩, ?_⟩; simp only [Act.put, lsA, lsB, lsC])
   simp only [hd]
   (refine ⟨_, _, rfl, .inl ⟨rfl, fun V hV => rfl⟩, ?_⟩; simp only [Act.put, lsA, lsB, lsC])
   (refine ⟨_, _, rfl, .inl ⟨rfl, fun V hV => rfl⟩, ?_⟩; simp only [Act.put, lsA, lsB, lsC])
   (refine ⟨_, _, rfl, .inl ⟨rfl, fun V hV => (exec_ixK underlying65 adI18 (by decide) (.tmp 129) (.tmp 130) rfl rfl rfl han2 V)⟩, ?_⟩; simp only [Act.put, lsA, lsB, lsC])
   (refine ⟨_, _, rfl, .inl ⟨rfl, fun V hV => (exec_ld 24 (.tmp 131) ⟨gT, 0 + a' * 18, none⟩ rfl rfl (LT.out V hV))⟩, ?_⟩; simp only [Act.put, lsA, lsB, lsC])
   (refine ⟨_, _, rfl, .inl ⟨rfl, fun V hV => rfl⟩, ?_⟩; simp only [Act.put, lsA, lsB, lsC])
   (refine ⟨_, _, rfl, .inl ⟨rfl, fun V hV => rfl⟩, ?_⟩; simp only [Act.put, lsA, lsB, lsC])
   (refine ⟨_, _, rfl, .inl ⟨rfl, fun V hV => (exec_ixK underlying34 gouI (by decide) (.tmp 133) (.tmp 134) rfl rfl rfl hio2 V)⟩, ?_⟩; simp only [Act.put, lsA, lsB, lsC])
   (refine ⟨_, _, rfl, .inl ⟨rfl, fun V hV => rfl⟩, ?_⟩; simp only [Act.put, lsA, lsB, lsC])
   (refine ⟨_, _, rfl, .inl ⟨rfl, fun V hV => (exec_ld 24 (.tmp 136) ⟨bo, oo + i * 21 + 1, none⟩ rfl rfl (LO.out V hV))⟩, ?_⟩; simp only [Act.put, lsA, lsB, lsC])
   (refine ⟨_, (.bool false), rfl, .inl ⟨rfl, fun V hV => ((exec_neA (.tmp 132) (.tmp 137) rfl rfl rfl hip3 hip2).trans (by rw [hd2]))⟩, ?_⟩; simp only [Act.put, lsA, lsB, lsC])
   (refine ⟨_, _, rfl, .inl ⟨rfl, fun V hV => rfl⟩, ?_⟩; simp only [Act.put, lsA, lsB, lsC])
   (refine ⟨_, _, rfl, .inl ⟨rfl, fun V hV => rfl⟩, ?_⟩; simp only [Act.put, lsA, lsB, lsC])
   (refine ⟨_, (.bool true), rfl, .inl ⟨rfl, fun V hV => rfl⟩, ?_⟩; simp only [Act.put, lsA, lsB, lsC])
   (refine ⟨_, _, rfl, .inl ⟨rfl, fun V hV => rfl⟩, ?_⟩; simp only [Act.put, lsA, lsB, lsC])
   (refine ⟨_, _, rfl, .inl ⟨rfl, fun V hV => rfl⟩, ?_⟩; simp only [Act.put, lsA, lsB, lsC])
   simp only [SeqC]
   refine wpAnyH_done (by kernel_rfl) ?_ _
   clear LT LO hd hd2
   go_wp2_with fail
   go_roundw
   case rel => exact ⟨f, a' + 1, 0, by go_num, rfl, HX, by omega, by omega, by omega, hS⟩
   case measure => simp [intOf]; omega
  have HX : Hid (Z = (a', b')) := Hh (by rw [HZ2.out, if_neg (fun c => c.elim (fun c => c hne) hb3)])
  have hd3 : decide ((b' : Int) = 3) = false := by simp; omega
  clear HZ2
  generalize tl[a'] = ta at *
  go_wp2_with fail
  refine wp_region_held_drew (S := fun V => Below w9.heap.size w9 V) (by kernel_rfl) HV.drew (fun hS => ?_)
  refine held_seq hS 20 [0,1,2,3,4,5,6,7,8,9,10,11,12,13,14,15,16,17,18,19] rfl (by kernel_rfl) (fun _ _ _ _ _ h => h) rfl rfl ?_
  repeat (refine ⟨_, _, rfl, .inl ⟨rfl, fun W hW => rfl⟩, ?_⟩; simp only [Act.put, lsA, lsB, lsC])
  (refine ⟨_, (.int .i64 (nt' : Int)), rfl, .inl ⟨rfl, fun V hV => (by go_simp)⟩, ?_⟩; simp only [Act.put, lsA, lsB, lsC])
  repeat (refine ⟨_, _, rfl, .inl ⟨rfl, fun W hW => rfl⟩, ?_⟩; simp only [Act.put, lsA, lsB, lsC])
  simp only [hd]
  (refine ⟨_, _, rfl, .inl ⟨rfl, fun V hV => rfl⟩, ?_⟩; simp only [Act.put, lsA, lsB, lsC])
  (refine ⟨_, _, rfl, .inl ⟨rfl, fun V hV => rfl⟩, ?_⟩; simp only [Act.put, lsA, lsB, lsC])
  (refine ⟨_, _, rfl, .inl ⟨rfl, fun V hV => (exec_ixK underlying65 adI18 (by decide) (.tmp 129) (.tmp 130) rfl rfl rfl han2 V)⟩, ?_⟩; simp only [Act.put, lsA, lsB, lsC])
  (refine ⟨_, _, rfl, .inl ⟨rfl, fun V hV => (exec_ld 24 (.tmp 131) ⟨gT, 0 + a' * 18, none⟩ rfl rfl (LT.out V hV))⟩, ?_⟩; simp only [Act.put, lsA, lsB, lsC])
  (refine ⟨_, _, rfl, .inl ⟨rfl, fun V hV => rfl⟩, ?_⟩; simp only [Act.put, lsA, lsB, lsC])
  (refine ⟨_, _, rfl, .inl ⟨rfl, fun V hV => rfl⟩, ?_⟩; simp only [Act.put, lsA, lsB, lsC])
  (refine ⟨_, _, rfl, .inl ⟨rfl, fun V hV => (exec_ixK underlying34 gouI (by decide) (.tmp 133) (.tmp 134) rfl rfl rfl hio2 V)⟩, ?_⟩; simp only [Act.put, lsA, lsB, lsC])
  (refine ⟨_, _, rfl, .inl ⟨rfl, fun V hV => rfl⟩, ?_⟩; simp only [Act.put, lsA, lsB, lsC])
  (refine ⟨_, _, rfl, .inl ⟨rfl, fun V hV => (exec_ld 24 (.tmp 136) ⟨bo, oo + i * 21 + 1, none⟩ rfl rfl (LO.out V hV))⟩, ?_⟩; simp only [Act.put, lsA, lsB, lsC])
  (refine ⟨_, (.bool false), rfl, .inl ⟨rfl, fun V hV => ((exec_neA (.tmp 132) (.tmp 137) rfl rfl rfl hip3 hip2).trans (by rw [hd2]))⟩, ?_⟩; simp only [Act.put, lsA, lsB, lsC])
  (refine ⟨_, _, rfl, .inl ⟨rfl, fun V hV => rfl⟩, ?_⟩; simp only [Act.put, lsA, lsB, lsC])
  (refine ⟨_, _, rfl, .inl ⟨rfl, fun V hV => rfl⟩, ?_⟩; simp only [Act.put, lsA, lsB, lsC])
  (refine ⟨_, (.bool false), rfl, .inl ⟨rfl, fun V hV => (by rw [← hd3]; go_simp; omega)⟩, ?_⟩; simp only [Act.put, lsA, lsB, lsC])
  (refine ⟨_, _, rfl, .inl ⟨rfl, fun V hV => rfl⟩, ?_⟩; simp only [Act.put, lsA, lsB, lsC])
  (refine ⟨_, _, rfl, .inl ⟨rfl, fun V hV => rfl⟩, ?_⟩; simp only [Act.put, lsA, lsB, lsC])
  simp only [SeqC]
  refine wpAnyH_done (by kernel_rfl) ?_ _
  clear LT LO hd hd2 hd3
  go_wp2_with fail
  go_meet
  case rel => exact ⟨by rw [HX.out], by rw [HX.out], hS⟩
 obtain ⟨rfl, rfl, HW⟩ := hcut
 obtain ⟨w10, rfl⟩ : ∃ w10, w10 = wc := ⟨_, rfl⟩
 have hR10 : Hid (RLotAt w10 w7.heap.size As cd R2.2) := Hh ⟨hR9'.out.1.below HW hR9'.out.1.lt, fun hp => by
  obtain ⟨b0, o0, e1, e2, e3⟩ := hR9'.out.2.1 hp
  exact ⟨b0, o0, e1, Nat.lt_of_lt_of_le e2 HW.size, range_below e3 HW e2⟩, hR9'.out.2.2⟩
 have hO10 := Hh (hO9.out.below HW)
 have hT10 := Hh (LOwn.below (R' := AdI) hT9.out HW (fun _ _ h => h))
 have H10 : Below w.heap.size w w10 := H9.trans (HW.mono H9.size)
 have hw10 : w7.heap.size < w10.heap.size := Nat.lt_of_lt_of_le hw9 HW.size
 have hz : ¬ ((Z.1 : Nat) : Int) = (nt' : Int) := by have h1 := P3.out; have h2 := HTN.out; omega
 have hz1 : Z.1 ≤ nt' := by have h2 := HTN.out; omega
 have hu : R2.2.us ≤ 2 * (i + 1) := by omega
 generalize R2.2 = M2 at *
 generalize Z.1 = z1 at *
 generalize Z.2 = z2 at *
 clear RTO hR9' hO9 hT9 H9 HW hw9 P3 hu2
 go_wp2_with fail
 go_roundw
 case rel => exact ⟨i + 1, z1, z2 + 1, M2, by omega, rfl, by go_num, by go_num, HG3, hR10, hO10, hT10, hu, by omega, hz1, H10, hw10⟩
 case measure => simp [intOf]; omega
end Go.Proofs.YthnbcmlnpdabhaaGreat

/-
  Layer 35 (single): goOn.
-/
import Derived.Test.YthnbcmlnpdabhaaGreatIPq
namespace Go.Proofs.YthnbcmlnpdabhaaGreat
open _root_.Go.Proofs.Tryz
open Go.RowKit
set_option maxRecDepth 100000
set_option linter.unusedVariables false
set_option linter.unusedSimpArgs false
def SiTy (t : TypeId) : Prop := t = 185
def OuTy (t : TypeId) : Prop := t = 97
theorem lv_sg : ∀ t, LvTy t → SgTy t := by
 intro t h
 rcases h with rfl | rfl <;> (unfold SgTy; decide)
theorem si_sg : ∀ t, SiTy t → SgTy t := fun t h => .inl h
theorem x_sg : ∀ t, XTy t → SgTy t := by
 intro t h
 rcases h with rfl | rfl | rfl <;> (unfold SgTy; decide)
theorem ou_sg : ∀ t, OuTy t → SgTy t := by
 intro t h
 unfold OuTy at h
 subst h
 unfold SgTy
 decide
def natAt (w : World) (g i : Nat) : Nat := match w.cell? ⟨g, i, none⟩ with
 | some (.int _ n) => n.toNat
 | _ => 0
theorem natAt_eq {w : World} {g i n : Nat} (h : w.cell? ⟨g, i, none⟩ = some (.int .i64 n)) : natAt w g i = n := by
 unfold natAt
 rw [h]
 rfl
theorem run_bq3 (A : Option Addr) (n c : Nat) (t : Int) (W : World) : (Instr.build 28 #[(0, .slice A n c), (1, .int .i64 t), (2, .int .i64 1)]).run prog W = .ok (.agg [Value.slice A n c, .int .i64 t, .int .i64 1].toArray) W := by kernel_rfl
theorem OusN.ownTy {lo : Nat} {w : World} {v : Value} {l : List Ou} {p : TypeId → Prop} (h : OusN lo w v l) (hp : p 97) : ∀ i, v.ownBlock = some i → TyS w p lo i := by
 intro i e
 obtain ⟨css, h1, _⟩ := h
 rcases h1.2 with ⟨hv, _⟩ | ⟨g', cap, cur, hv, hB, hg, _⟩
 ·
  rw [hv] at e; cases e
 ·
  rw [hv] at e
  injection e with e
  have e : g' = i := e
  subst e
  exact ⟨hB, _, cur.toList, hg, hp⟩
theorem xp_neq (A : Option Addr) (w : World) : (binOp BinOp.neq 76 (.pointer A) (.pointer none)).run prog w = .ok (.bool A.isSome) w := by cases A <;> kernel_rfl
theorem xpInfo1 : (prog.info? 76).map (·.size) = some 1 := by kernel_rfl
theorem nmI1s : (prog.info? 26).map (·.size) = some 1 := by kernel_rfl
theorem exS_len (s : Sg) (L : Lt) : (exS s L).2.2.length ≤ 1 := newX_len ..
set_option maxHeartbeats 4000000 in
theorem goOn_any (w0 : World) (b g gl : Nat) (D : Option Nat) (s : Sg) (L : Lt) (o : List Ou) (v : Value) (tk k H : Nat) (w : World) (h : SgAt w0 w b g gl D s) (hl : LotAt w gl L) (ho : OusN b w v o) (hI : SgI s L tk k H) (hs : s.done = false) (hk : k ≤ 100000) (hol : o.length ≤ 2) (hbw : b ≤ w.heap.size) (hnm : ∀ n ∈ s.nms, n.length ≤ 100000) :
  Calls prog 98 #[.pointer (some ⟨g, 0, none⟩), v] w (SgRetI w0 b g gl (goS (s.nms.length + 1) s L o) tk k H w) := by
 obtain ⟨R, hR⟩ : ∃ R, Hid (goS (s.nms.length + 1) s L o = R) := ⟨_, Hh rfl⟩
 rw [hR.out]
 have hn10 := hI.nl
 have hbg0 := hI.inv.bg
 obtain ⟨nl, hnl⟩ : ∃ nl, nl = s.nms.length := ⟨_, rfl⟩
 rw [← hnl] at hR hn10 hbg0
 obtain ⟨A0, c0, rfl, -, -⟩ := ho.form
 have HAT := Lib.hid h
 have HLT := Hh hl
 have HOU := Hh ho
 have HII := Hh hI
 have HNM := Hh hnm
 have hbgo := h.bg
 clear h hl ho hI hnm
 go_enter func98, ntmps98
 go_wp2_with fail
 go_loopw [1] (fun ov wr => ∃ (f : Nat) (s1 : Sg) (L1 : Lt) (o1 : List Ou) (A1 : Option Addr) (c1 : Nat) (D1 : Option Nat), ov = .slice A1 o1.length c1 ∧ Hid (goS (f + 1) s1 L1 o1 = R) ∧ Hid (SgAt w0 wr b g gl D1 s1) ∧ Hid (LotAt wr gl L1) ∧ Hid (OusN b wr (.slice A1 o1.length c1) o1) ∧ Hid (SgI s1 L1 tk k H) ∧ s1.done = false ∧ s1.nms = s.nms ∧ nl ≤ f + s1.begun ∧ s1.begun ≤ nl ∧ o1.length ≤ 2 + s1.begun ∧ b ≤ wr.heap.size ∧ Hid (Fr (TyS w SgTy b) w wr)) (fun _ wr => nl - natAt wr g 14)
 case atStart => exact ⟨nl, s, L, o, A0, c0, D, rfl, hR, HAT, HLT, HOU, HII, hs, rfl, by omega, hbg0, by omega, hbw, Hh (Fr.refl _ _)⟩
 clear hR HAT HLT HOU HII hs hbw hbg0 hol
 obtain ⟨f, s1, L1, o1, A1, c1, D1, rfl, hR, HAT, HLT, HOU, HII, hs, hnms, hf, hbn, hol, hbw, HFR⟩ := hrel
 obtain ⟨⟨T, vn, vq, vt, vr, vm, pp, a1, a2, a3, a4, a5, a6, a7, a8, a9⟩, h5, h6, h7, h8, h9, h10, h11⟩ := HAT.out
 have d15 : wr.cell? ⟨g, 15, none⟩ = some (ptrV pp) := a1.c 5 rfl
 have hbeg : natAt wr g 14 = s1.begun := natAt_eq (a1.c 4 rfl)
 clear a1 a2 a3 a4 a5 a6 a7 a9 h5 h6 h7 h8 h9 h10 h11
 obtain ⟨Ap, hAp⟩ : ∃ Ap : Option Addr, Hid (ptrV pp = .pointer Ap) := ⟨_, Hh rfl⟩
 rw [hAp.out] at d15
 have EN := xp_neq Ap
 go_upto_if 11 with fail
 go_cut [] (fun wx => ∃ s2 D2, s2.pres = none ∧ s2.done = false ∧ s2.begun = s1.begun ∧ s2.nms = s.nms ∧ Hid (onS f s2 L1 o1 = R) ∧ Hid (SgAt w0 wx b g gl D2 s2) ∧ Hid (LotAt wx gl L1) ∧ Hid (OusN b wx (.slice A1 o1.length c1) o1) ∧ Hid (SgI s2 L1 tk k H) ∧ b ≤ wx.heap.size ∧ Hid (Fr (TyS w SgTy b) w wx))
 case first =>
  cases hp : s1.pres with
  | none =>
   rw [hp] at a8
   cases pp with
   | some gx => exact a8.elim
   | none =>
   have e := hAp.out
   injection e with e
   subst e
   clear hAp
   rw [goS_none _ _ hp] at hR
   go_wp2_with fail
   go_meet
   case rel => exact ⟨s1, D1, hp, hs, rfl, hnms, hR, HAT, HLT, HOU, HII, hbw, HFR⟩
  | some x =>
   rw [hp] at a8
   cases pp with
   | none => exact a8.elim
   | some gx =>
   have e := hAp.out
   injection e with e
   subst e
   clear hAp
   have a8 : XchgAt wr gx gl D1 x := a8
   have DN := Hh (xdone_any a8)
   have d15' : wr.cell? ⟨g, 15, none⟩ = some (.pointer (some ⟨gx, 0, none⟩)) := d15
   clear a8 d15
   cases hd : x.done with
   | false =>
    rw [hd] at DN
    rw [goS_wait _ _ hp hd] at hR
    go_wp2_with fail
    refine DN.out.mono ?_
    rintro _ w2 ⟨rfl, rfl⟩
    go_wp2_with fail
    go_ret
    rw [← hR.out]
    exact ⟨⟨_, D1, rfl, HOU.out, HAT.out, HLT.out, HFR.out⟩, HII.out, fun c => by rw [hp] at c; (cases c), fun y c => by rw [hp] at c; injection c with c; subst c; exact hd⟩
   | true =>
    rw [hd] at DN
    have h45 := HII.out.x45 hp
    have hsn := HII.out.sn
    have htd := HII.out.td
    have LV := Hh (leave_any w0 b g gl D1 s1 x wr HAT.out hp (HII.out.fol hp hd) hs (by rw [hp] at hsn; simp at hsn; omega) (by rw [hp] at htd; simp at htd; omega) hbw)
    have NI := Hh (HII.out.leave hp hd hs)
    obtain ⟨f1, f2, f3, f4, f5, f6⟩ := leaveS_f s1 x
    unfold LvRet at LV
    cases he : (leaveS s1 x).done with
    | true =>
     rw [he] at LV
     rw [goS_end _ _ hp hd he] at hR
     go_wp2_with fail
     refine DN.out.mono ?_
     rintro _ w2 ⟨rfl, rfl⟩
     clear DN
     go_wp2_with fail
     refine LV.out.mono ?_
     rintro _ w2 ⟨rfl, hA2, F2⟩
     clear LV
     go_wp2_with fail
     go_ret
     rw [← hR.out]
     exact ⟨⟨_, none, rfl, HOU.out.frY F2 (by unfold LvTy; decide), hA2, HLT.out.frT F2 (by unfold LvTy; decide), Fr.transT HFR.out (F2.monoT lv_sg)⟩, NI.out, fun _ => he, fun y c => by rw [f1] at c; cases c⟩
    | false =>
     rw [he] at LV
     rw [goS_on _ _ hp hd he] at hR
     go_wp2_with fail
     refine DN.out.mono ?_
     rintro _ w2 ⟨rfl, rfl⟩
     clear DN
     go_wp2_with fail
     refine LV.out.mono ?_
     rintro _ w2 ⟨rfl, hA2, F2⟩
     clear LV
     go_wp2_with fail
     go_meet
     case rel => exact ⟨leaveS s1 x, none, f1, he, f2, by rw [f3]; exact hnms, hR, Hh hA2, Hh (HLT.out.frT F2 (by unfold LvTy; decide)), Hh (HOU.out.frY F2 (by unfold LvTy; decide)), NI, Nat.le_trans hbw F2.size, Hh (Fr.transT HFR.out (F2.monoT lv_sg))⟩
 obtain ⟨s2, D2, hp, hs2, hb2, hn2, hR, HAT2, HLT2, HOU2, HII2, hbw2, HFR2⟩ := hcut
 obtain ⟨w2, rfl⟩ : ∃ w2, w2 = wc := ⟨_, rfl⟩
 obtain ⟨⟨T, vn, vq, vt, vr, vm, pp, a1, a2, a3, a4, a5, a6, a7, a8, a9⟩, h5, h6, h7, h8, h9, h10, h11⟩ := HAT2.out
 rw [hp] at a8
 cases pp with
 | some gx => exact a8.elim
 | none =>
 have hT10 := a1.2
 have hlt2 := a1.1.lt
 have B2 := a1.1
 have RR : SgR w0 w2 b T vn vt vr vm s2 := ⟨a2, a3, a5, a6, a7⟩
 have hbeg2 : natAt w2 g 14 = s2.begun := natAt_eq (a1.c 4 rfl)
 obtain ⟨An, cn, hvn⟩ := a3.form
 rw [hn2, ← hnl] at hvn
 have d14 : w2.cell? ⟨g, 14, none⟩ = some (.int .i64 s2.begun) := a1.c 4 rfl
 have d10 : w2.cell? ⟨g, 10, none⟩ = some (.slice An nl cn) := by rw [← hvn]; exact a1.c 0 rfl
 have HK2 := Hh a1
 have HRR := Hh RR
 have HBA := Hh h5
 have HRS := Hh h11
 have HRL := Hh h10
 have HA3 := Hh a3
 have HQ2 := Hh a4
 clear a1 a2 a3 a4 a5 a6 a7 a8 a9 h5 h11 h10 RR HAT2
 obtain ⟨nb, hnb⟩ : ∃ nb, s2.begun = nb := ⟨_, rfl⟩
 rw [hnb] at d14
 have hnb1 : s1.begun = nb := by omega
 rw [hnb1] at hbeg hbn hf hol
 by_cases hbe : nb = nl
 case pos =>
  have hbe' : ((nb : Int) == (nl : Int)) = true := by simp [hbe]
  unfold onS at hR
  rw [if_pos (by rw [hn2, hnb, hbe, hnl])] at hR
  have NV := Hh (fun V (hV : Below w2.heap.size w2 V) => snothing_any (HK2.out.below hV))
  have RB := Hh (fun V => res_b1 (nothingS s2) V)
  have EI := Hh (HII2.out.end_ hp)
  obtain ⟨nv, hnv⟩ : ∃ nv, Hid (nothingS s2 = nv) := ⟨_, Hh rfl⟩
  rw [hnv.out] at NV RB
  clear HII2 HA3
  go_wp2_with fail
  go_quiet (fail)
  obtain ⟨W, hW⟩ : ∃ W, W = w2.drewN nq := ⟨_, rfl⟩
  rw [← hW]
  have HW : Below w2.heap.size w2 W := hW ▸ below_drewN (Below.refl _ _) _
  have BW := B2.below HW hlt2
  obtain ⟨LW, hLW⟩ : ∃ LW, Hid (T ++ sgM vn vq vt vr vm gl none s2 = LW) := ⟨_, Hh rfl⟩
  have SLW : LW.length = 28 := by rw [← hLW.out]; exact sg_len hT10 ..
  rw [hLW.out] at BW
  have NV1 := Hh (NV.out W HW)
  clear hW d14 d10 NV
  go_wp2_with fail
  refine NV1.out.mono ?_
  rintro _ w4 ⟨rfl, rfl⟩
  clear NV1
  go_wp2_with (first
   | (refine at_op (.build 115 #[(0, .tmp 36)]) rfl ?_; go_must (refine wpList_bld rfl 115 _ rfl #[(0, .int .i64 nv)] (by simp [Act.eval, Act.put]) (RB.out _) ?_))
   | (refine at_op (.store 4 (.tmp 39) (.const (.bool true))) rfl ?_; go_must (refine wpList_stC rfl 4 (.tmp 39) (.const (.bool true)) rfl g 23 rfl (.bool true) rfl BW (by rw [SLW]; decide) boolInfo1 rfl rfl ?_)))
  intro w5 B5 g5 sw
  clear sw
  rw [← hLW.out] at B5
  have B5' := sg_put hT10 13 B5 rfl
  have F5 : Fr (TyS w2 SiTy b) w2 w5 := Fr.transT (Fr.below HW) (Fr.grown g5 BW (by unfold StTy; decide) ⟨hbgo, _, _, BW, rfl⟩)
  have B5'' : Blk w5 g 185 (T ++ sgM vn vq vt vr vm gl none { s2 with done := true }) := B5'
  obtain ⟨L5, hL5⟩ : ∃ L5, Hid (T ++ sgM vn vq vt vr vm gl none { s2 with done := true } = L5) := ⟨_, Hh rfl⟩
  have SL5 : L5.length = 28 := by rw [← hL5.out]; exact sg_len hT10 ..
  rw [hL5.out] at B5''
  clear B5 B5' g5 BW HW
  go_wp2_with (refine at_op (.store 115 (.tmp 41) (.tmp 37)) rfl ?_; go_must (refine wpList_stB rfl _ _ _ rfl g 24 rfl [.int .i64 nv, nilS, nilS, .int .i64 0] rfl B5'' (by rw [SL5]; exact Nat.le_refl 28) resI4 (by simp [Value.oneCell', nilS]) ?_))
  intro w6 B6 g6 sw
  clear sw
  have B6' : Blk w6 g 185 (T ++ sgM vn vq vt nilS nilS gl none (endS s2)) := by
   have e := sg_put24 hT10 nilS nilS vn nv 0 hL5
   have e2 : T ++ sgM vn vq vt nilS nilS gl none (endS s2) = T ++ sgM vn vq vt nilS nilS gl none { ({ s2 with done := true } : Sg) with vd := nv, ttl := 0 } := by rw [← hnv.out]; rfl
   rw [e2, ← e]
   simpa only [List.append_assoc, List.cons_append, List.nil_append] using B6
  have F6 : Fr (TyS w2 SiTy b) w2 w6 := Fr.transT F5 (Fr.grown g6 B5'' (by unfold StTy; decide) ⟨hbgo, _, _, B5'', rfl⟩)
  clear B6 g6 B5'' F5
  go_wp2_with fail
  go_ret
  rw [← hR.out]
  have R6 := HRR.out.frT F6 (by unfold SiTy; decide)
  exact ⟨⟨_, none, rfl, HOU2.out.frY F6 (by unfold SiTy; decide), ⟨⟨T, vn, vq, vt, nilS, nilS, none, ⟨B6', hT10⟩, R6.r, R6.n, HQ2.out.stays F6.stays, R6.t, RRsOwn.nil _ _, World.ownsRow_nil _ _ _ _, by show PresAt _ _ _ s2.pres none; rw [hp]; trivial, by simp⟩, F6.toBelowT HBA.out HBA.out.size (by omega), h6, h7, h8, by simp, by show (0 : Nat) ≤ 65535; omega, HRS.out⟩, HLT2.out.frT F6 (by unfold SiTy; decide), Fr.transT HFR2.out (F6.monoT si_sg)⟩, EI.out, fun _ => rfl, fun y c => by rw [show (endS s2).pres = s2.pres from rfl, hp] at c; cases c⟩
 case neg =>
  have hbe' : ((nb : Int) == (nl : Int)) = false := by simp; omega
  have hlt : nb < nl := by omega
  unfold onS at hR
  rw [if_neg (by rw [hn2, hnb, ← hnl]; exact hbe)] at hR
  have hlt' : s2.begun < s2.nms.length := by rw [hn2, hnb, ← hnl]; exact hlt
  obtain ⟨gs, hAn, hgs, hrow⟩ := LOwn.at_ (R := NmC w2) (k := 1) (fun cs x h => by obtain ⟨v, e, _⟩ := h; rw [e]; rfl) (by have := HA3.out; rw [hvn] at this; rw [show nl = s2.nms.length by rw [hn2, hnl]] at this; exact this) (by omega)
  obtain ⟨cx, hcx, nv, hcv, hNM2⟩ := hrow s2.begun hlt'
  subst hcv
  have cnm : w2.cell? ⟨gs, 0 + nb * 1, none⟩ = some nv := by
   have := hcx 0 nv rfl
   rw [hnb, Nat.add_zero] at this
   exact this
  obtain ⟨Aq, cq, hnv, -⟩ := hNM2.form
  have hqn : qnS s2 = ⟨s2.nms[s2.begun], s2.kind, 1⟩ := by unfold qnS; rw [List.getD_eq_getElem?_getD, List.getElem?_eq_getElem hlt']; rfl
  obtain ⟨qn, hqn'⟩ : ∃ qn, Hid (qnS s2 = qn) := ⟨_, Hh rfl⟩
  have hq1 : qn.name = s2.nms[s2.begun] := by rw [← hqn'.out, hqn]
  have hq2 : qn.ty = s2.kind := by rw [← hqn'.out, hqn]
  have hq3 : qn.cl = 1 := by rw [← hqn'.out, hqn]
  rw [← hq1] at hnv hNM2
  have HN2 := Hh hNM2
  subst hAn
  have hgsg : gs ≠ g := by
   have h3 := HA3.out
   rw [hvn, show nl = s2.nms.length by rw [hn2, hnl]] at h3
   obtain ⟨L, hL⟩ := LOwn.hasBlk h3 (by omega)
   exact blk_ne hL B2 (by decide)
  clear hrow hcx hqn hNM2 HA3
  obtain ⟨knd, hknd⟩ : ∃ knd, s2.kind = knd := ⟨_, rfl⟩
  obtain ⟨ln, hln⟩ : ∃ ln, qn.name.length = ln := ⟨_, rfl⟩
  rw [hln] at hnv
  subst hvn hnv
  have RQ := Hh (fun V => run_bq3 Aq ln cq knd V)
  obtain ⟨sA, hsA⟩ : ∃ sA : Sg, sA = { s2 with q := qn } := ⟨_, rfl⟩
  have L10 : Hid (∀ V u s', Blk V g 185 (T ++ sgM (.slice (some ⟨gs, 0, none⟩) nl cn) u vt vr vm gl none s') → (Instr.loadAt 66 (.pointer (some ⟨g, 10, none⟩))).run prog V = .ok (.slice (some ⟨gs, 0, none⟩) nl cn) V) := Hh (fun V u s' hV => run_load1 underlying66 rfl (SgK.c ⟨hV, hT10⟩ 0 rfl))
  have L14 : Hid (∀ V u s', s'.begun = nb → Blk V g 185 (T ++ sgM (.slice (some ⟨gs, 0, none⟩) nl cn) u vt vr vm gl none s') → (Instr.loadAt 3 (.pointer (some ⟨g, 14, none⟩))).run prog V = .ok (.int .i64 nb) V) := Hh (fun V u s' he hV => run_load1 underlying3 rfl (SgK.c ⟨hV, hT10⟩ 4 (by rw [← he]; rfl)))
  have L11 : Hid (∀ V u s', s'.kind = knd → Blk V g 185 (T ++ sgM (.slice (some ⟨gs, 0, none⟩) nl cn) u vt vr vm gl none s') → (Instr.loadAt 3 (.pointer (some ⟨g, 11, none⟩))).run prog V = .ok (.int .i64 knd) V) := Hh (fun V u s' he hV => run_load1 underlying3 rfl (SgK.c ⟨hV, hT10⟩ 1 (by rw [← he]; rfl)))
  have d14W := fun (V : World) (hV : Below w2.heap.size w2 V) => (hV.cell (p := ⟨g, 14, none⟩) hlt2).trans d14
  go_wp2_with fail
  go_quiet (fail)
  obtain ⟨W, hW⟩ : ∃ W, W = w2.drewN nq := ⟨_, rfl⟩
  rw [← hW]
  have HW : Below w2.heap.size w2 W := hW ▸ below_drewN (Below.refl _ _) _
  clear hW d14 d10 d14W
  have HWd : Below w2.heap.size w2 W.drew := HW.drew
  have BW := B2.below HWd hlt2
  have cW : W.drew.cell? ⟨gs, 0 + nb * 1, none⟩ = some (.slice Aq ln cq) := (HWd.cell (p := ⟨gs, _, none⟩) hgs).trans cnm
  clear cnm
  go_upto_region 8 with fail
  go_cut [] (fun wx => Blk wx g 185 (T ++ sgM (.slice (some ⟨gs, 0, none⟩) nl cn) (.slice Aq ln cq) vt vr vm gl none sA) ∧ Fr (TyS w2 SiTy b) w2 wx)
  case first =>
   refine wp_region_held_drew (S := fun V => (∃ u s', s'.begun = nb ∧ s'.kind = knd ∧ Blk V g 185 (T ++ sgM (.slice (some ⟨gs, 0, none⟩) nl cn) u vt vr vm gl none s')) ∧ V.cell? ⟨gs, 0 + nb * 1, none⟩ = some (.slice Aq ln cq)) (by kernel_rfl) ⟨⟨_, s2, hnb, hknd, BW⟩, cW⟩ (fun hS => ?_)
   refine held_seq hS 18 [0, 1, 2, 3, 4, 5, 6, 7, 8, 9, 10, 11, 12, 13, 14, 15, 16, 17] rfl (by kernel_rfl) (fun _ _ _ _ _ h => h) rfl rfl ?_
   (refine ⟨_, (.pointer (some ⟨g, 0, none⟩)), rfl, .inl ⟨rfl, fun V hV => rfl⟩, ?_⟩; simp only [Act.put, lsA, lsB, lsC])
   (refine ⟨_, (.pointer (some ⟨g, 0, none⟩)), rfl, .inl ⟨rfl, fun V hV => rfl⟩, ?_⟩; simp only [Act.put, lsA, lsB, lsC])
   (refine ⟨_, (.pointer (some ⟨g, 0, none⟩)), rfl, .inl ⟨rfl, fun V hV => rfl⟩, ?_⟩; simp only [Act.put, lsA, lsB, lsC])
   (refine ⟨_, (.pointer (some ⟨g, 10, none⟩)), rfl, .inl ⟨rfl, fun V hV => rfl⟩, ?_⟩; simp only [Act.put, lsA, lsB, lsC])
   (refine ⟨_, _, rfl, .inl ⟨rfl, fun V hV => (exec_ld 66 (.tmp 46) ⟨g, 10, none⟩ rfl rfl (by obtain ⟨u, s', e1, e2, hu⟩ := hV.1; exact L10.out V u s' hu))⟩, ?_⟩; simp only [Act.put, lsA, lsB, lsC])
   (refine ⟨_, (.pointer (some ⟨g, 0, none⟩)), rfl, .inl ⟨rfl, fun V hV => rfl⟩, ?_⟩; simp only [Act.put, lsA, lsB, lsC])
   (refine ⟨_, (.pointer (some ⟨g, 0, none⟩)), rfl, .inl ⟨rfl, fun V hV => rfl⟩, ?_⟩; simp only [Act.put, lsA, lsB, lsC])
   (refine ⟨_, (.pointer (some ⟨g, 14, none⟩)), rfl, .inl ⟨rfl, fun V hV => rfl⟩, ?_⟩; simp only [Act.put, lsA, lsB, lsC])
   (refine ⟨_, _, rfl, .inl ⟨rfl, fun V hV => (exec_ld 3 (.tmp 50) ⟨g, 14, none⟩ rfl rfl (by obtain ⟨u, s', e1, e2, hu⟩ := hV.1; exact L14.out V u s' e1 hu))⟩, ?_⟩; simp only [Act.put, lsA, lsB, lsC])
   (refine ⟨_, _, rfl, .inl ⟨rfl, fun V hV => (exec_ixK underlying66 nmI1s (by decide) (.tmp 47) (.tmp 51) rfl rfl rfl hlt V)⟩, ?_⟩; simp only [Act.put, lsA, lsB, lsC])
   (refine ⟨_, _, rfl, .inl ⟨rfl, fun V hV => (exec_ld 26 (.tmp 52) ⟨gs, 0 + nb * 1, none⟩ rfl rfl (run_load1 underlying26 rfl hV.2))⟩, ?_⟩; simp only [Act.put, lsA, lsB, lsC])
   (refine ⟨_, (.pointer (some ⟨g, 0, none⟩)), rfl, .inl ⟨rfl, fun V hV => rfl⟩, ?_⟩; simp only [Act.put, lsA, lsB, lsC])
   (refine ⟨_, (.pointer (some ⟨g, 0, none⟩)), rfl, .inl ⟨rfl, fun V hV => rfl⟩, ?_⟩; simp only [Act.put, lsA, lsB, lsC])
   (refine ⟨_, (.pointer (some ⟨g, 11, none⟩)), rfl, .inl ⟨rfl, fun V hV => rfl⟩, ?_⟩; simp only [Act.put, lsA, lsB, lsC])
   (refine ⟨_, _, rfl, .inl ⟨rfl, fun V hV => (exec_ld 3 (.tmp 56) ⟨g, 11, none⟩ rfl rfl (by obtain ⟨u, s', e1, e2, hu⟩ := hV.1; exact L11.out V u s' e2 hu))⟩, ?_⟩; simp only [Act.put, lsA, lsB, lsC])
   (refine ⟨_, (.agg [.slice Aq ln cq, .int .i64 knd, .int .i64 1].toArray), rfl, .inl ⟨rfl, fun V hV => (exec_bldH 28 _ rfl #[(0, .slice Aq ln cq), (1, .int .i64 knd), (2, .int .i64 1)] (by kernel_rfl) (RQ.out V))⟩, ?_⟩; simp only [Act.put, lsA, lsB, lsC])
   (refine ⟨_, (.pointer (some ⟨g, 0, none⟩)), rfl, .inl ⟨rfl, fun V hV => rfl⟩, ?_⟩; simp only [Act.put, lsA, lsB, lsC])
   (refine ⟨_, (.pointer (some ⟨g, 16, none⟩)), rfl, .inl ⟨rfl, fun V hV => rfl⟩, ?_⟩; simp only [Act.put, lsA, lsB, lsC])
   simp only [SeqC]
   refine held_stB 18 none 28 (.tmp 60) (.tmp 58) (by kernel_rfl) rfl rfl rfl (by kernel_rfl) g 16 rfl [.slice Aq ln cq, .int .i64 knd, .int .i64 1] rfl BW (by rw [sg_len hT10]; exact (by decide : 16 + 3 ≤ 28)) qInfo (by simp [Value.oneCell']) ?_
   intro w7 B7 g7 s7
   have B7' : Blk w7 g 185 (T ++ sgM (.slice (some ⟨gs, 0, none⟩) nl cn) (.slice Aq ln cq) vt vr vm gl none sA) := sg_puts hT10 6 B7 (by rw [hsA, ← (hq2.trans hknd), ← hq3]; rfl)
   have F7 : Fr (TyS w2 SiTy b) w2 w7 := Fr.transT (Fr.below HWd) (Fr.grown g7 BW (by unfold StTy; decide) ⟨hbgo, _, _, BW, rfl⟩)
   have c7 : w7.cell? ⟨gs, 0 + nb * 1, none⟩ = some (.slice Aq ln cq) := by
    rw [← cW]
    exact grown_cell g7 ⟨gs, _, none⟩ (Nat.lt_of_lt_of_le hgs HWd.size) (by intro e; injection e with e; exact hgsg e)
   refine ⟨⟨⟨_, sA, by rw [hsA]; exact hnb, by rw [hsA]; exact hknd, B7'⟩, c7⟩, ?_⟩
   simp only [Act.put, lsA, lsB, lsC]
   refine wpAnyH_done (by kernel_rfl) ?_ _
   go_wp2_with fail
   go_meet
   case rel => exact ⟨B7', F7⟩
  obtain ⟨B7, F7⟩ := hcut
  obtain ⟨w7, rfl⟩ : ∃ w7, w7 = wc := ⟨_, rfl⟩
  clear L10 L14 L11 RQ BW cW HW HWd B2
  have R7 := HRR.out.frT F7 (by unfold SiTy; decide)
  have N7 := HN2.out.stays F7.stays
  have LT7 := HLT2.out.frT F7 (by unfold SiTy; decide)
  have OU7 := HOU2.out.frY F7 (by unfold SiTy; decide)
  have BA7 : Below w0.heap.size w0 w7 := F7.toBelowT HBA.out HBA.out.size (by omega)
  have hrs := HRS.out
  have IS7 := R7.r.is BA7 (by omega) (by omega) (by omega)
  have hql : qn.name.length ≤ 100000 := by rw [hq1]; exact HNM.out _ (by rw [← hn2]; exact List.getElem_mem ..)
  have hus : L1.us ≤ 999999990 := by have := HII2.out.us; omega
  have hds := HII2.out.ds
  have hXl := exS_len s2 L1
  have SN := Hh (fun ok => HII2.out.new hp hs2 hlt' ok)
  obtain ⟨X, hX⟩ : ∃ X, Hid (exS s2 L1 = X) := ⟨_, Hh rfl⟩
  rw [hX.out] at hR hXl SN
  have XN : Hid (∀ V, Below w7.heap.size w7 V → Calls prog 32 #[.agg T.toArray, .agg [.slice Aq ln cq, .int .i64 knd, .int .i64 1].toArray, .int .i64 (IntKind.i64.wrap (s2.turn + nb)), .pointer (some ⟨gl, 0, none⟩)] V (XnRet gl X V)) := Hh (fun V hV => by
   obtain ⟨A', c', e, hNR⟩ := N7.form
   injection e with e1 e2 e3
   subst e1 e3
   have := xnew_any T s2.r qn Aq cq (IntKind.i64.wrap (s2.turn + s2.begun)) gl L1 V (IS7.below hV) (hNR.below hV) hql (LT7.below hV) hus hds
   rw [show qC (.slice Aq qn.name.length cq) qn = [.slice Aq ln cq, .int .i64 knd, .int .i64 1] by unfold qC; rw [hln, hq2, hq3, hknd]] at this
   rw [← hX.out]
   unfold exS
   rw [hqn'.out]
   rw [hnb] at this ⊢
   exact this)
  unfold XnRet at XN
  obtain ⟨tv, htv⟩ : ∃ tv, s2.turn = tv := ⟨_, rfl⟩
  rw [htv] at XN
  have ok2 : sA.begun = nb := by rw [hsA]; exact hnb
  have ok3 : sA.turn = tv := by rw [hsA]; exact htv
  have ok4 : sA.q.ty = knd := by rw [hsA]; exact hq2.trans hknd
  have ok5 : sA.q.cl = 1 := by rw [hsA]; exact hq3
  have N7' := Hh N7
  have R7' := Hh R7
  have LT7' := Hh LT7
  have OU7' := Hh OU7
  have BA7' := Hh BA7
  have F7' := Hh F7
  clear IS7 N7 R7 LT7 OU7 BA7 F7 HRR HN2 HLT2 HOU2 HBA hq1 hq2 hq3 HII2 hrs hql
  obtain ⟨f', hf'⟩ : ∃ f', f = f' + 1 := ⟨f - 1, by omega⟩
  subst hf'
  go_upto_region 9 with fail
  go_cut [5, 6] (fun v5 v6 wx => ∃ gx Ax cx Dx, v5 = .pointer (some ⟨gx, 0, none⟩) ∧ v6 = .slice Ax X.2.2.length cx ∧ Hid (OusN w7.heap.size wx (.slice Ax X.2.2.length cx) X.2.2) ∧ Hid (XchgAt wx gx gl Dx X.1) ∧ Hid (LotAt wx gl X.2.1) ∧ Fr (TyS w7 XTy b) w7 wx ∧ b ≤ gx ∧ (∀ i, Dx = some i → b ≤ i) ∧ Blk wx g 185 (T ++ sgM (.slice (some ⟨gs, 0, none⟩) nl cn) (.slice Aq ln cq) vt vr vm gl none sA))
  case first =>
   have L69 : Hid (∀ V, Blk V g 185 (T ++ sgM (.slice (some ⟨gs, 0, none⟩) nl cn) (.slice Aq ln cq) vt vr vm gl none sA) → (Instr.loadAt 69 (.pointer (some ⟨g, 0, none⟩))).run prog V = .ok (.agg T.toArray) V) := Hh (fun V hV => hV.loads 69 0 10 (by rw [sg_len hT10]; omega) _ underlying69 rfl rsI10 _ (by rw [List.drop_zero]; exact List.take_left' hT10))
   have L28 : Hid (∀ V, Blk V g 185 (T ++ sgM (.slice (some ⟨gs, 0, none⟩) nl cn) (.slice Aq ln cq) vt vr vm gl none sA) → (Instr.loadAt 28 (.pointer (some ⟨g, 16, none⟩))).run prog V = .ok (.agg [.slice Aq ln cq, .int .i64 knd, .int .i64 1].toArray) V) := Hh (fun V hV => hV.loads 28 16 3 (by rw [sg_len hT10]; omega) _ underlying28 rfl qInfo _ (by have := SgK.qcut ⟨hV, hT10⟩; rw [ok4, ok5] at this; exact this))
   have L3 : Hid (∀ V i n, Blk V g 185 (T ++ sgM (.slice (some ⟨gs, 0, none⟩) nl cn) (.slice Aq ln cq) vt vr vm gl none sA) → (sgM (.slice (some ⟨gs, 0, none⟩) nl cn) (.slice Aq ln cq) vt vr vm gl none sA)[i]? = some (.int .i64 n) → (Instr.loadAt 3 (.pointer (some ⟨g, 10 + i, none⟩))).run prog V = .ok (.int .i64 n) V) := Hh (fun V i n hV hi => run_load1 underlying3 rfl (SgK.c ⟨hV, hT10⟩ i hi))
   have L79 : Hid (∀ V, Blk V g 185 (T ++ sgM (.slice (some ⟨gs, 0, none⟩) nl cn) (.slice Aq ln cq) vt vr vm gl none sA) → (Instr.loadAt 79 (.pointer (some ⟨g, 13, none⟩))).run prog V = .ok (.pointer (some ⟨gl, 0, none⟩)) V) := Hh (fun V hV => run_load1 underlying79 rfl (SgK.c ⟨hV, hT10⟩ 3 rfl))
   have kd : Below w7.heap.size w7 w7.drew := (Below.refl _ _).drew
   have XN1 := Hh (XN.out _ kd)
   have hgl1 : gl ≠ g := by
    obtain ⟨cs, hb⟩ := lot_blk LT7'.out
    exact blk_ne hb B7 (by decide)
   have LTd := LT7'.out.below kd
   refine wp_region_held_drew (S := fun V => Blk V g 185 (T ++ sgM (.slice (some ⟨gs, 0, none⟩) nl cn) (.slice Aq ln cq) vt vr vm gl none sA)) (by kernel_rfl) B7.drew (fun hS => ?_)
   refine held_seq hS 21 [0, 1, 2, 3, 4, 5, 6, 7, 8, 9, 10, 11, 12, 13, 14, 15, 16, 17, 18, 19, 20] rfl (by kernel_rfl) (fun _ _ _ _ _ h => h) rfl rfl ?_
   (refine ⟨_, (.pointer (some ⟨g, 0, none⟩)), rfl, .inl ⟨rfl, fun V hV => rfl⟩, ?_⟩; simp only [Act.put, lsA, lsB, lsC])
   (refine ⟨_, (.pointer (some ⟨g, 0, none⟩)), rfl, .inl ⟨rfl, fun V hV => rfl⟩, ?_⟩; simp only [Act.put, lsA, lsB, lsC])
   (refine ⟨_, (.pointer (some ⟨g, 0, none⟩)), rfl, .inl ⟨rfl, fun V hV => rfl⟩, ?_⟩; simp only [Act.put, lsA, lsB, lsC])
   (refine ⟨_, _, rfl, .inl ⟨rfl, fun V hV => (exec_ld 69 (.tmp 64) ⟨g, 0, none⟩ rfl rfl (L69.out V hV))⟩, ?_⟩; simp only [Act.put, lsA, lsB, lsC])
   (refine ⟨_, (.pointer (some ⟨g, 0, none⟩)), rfl, .inl ⟨rfl, fun V hV => rfl⟩, ?_⟩; simp only [Act.put, lsA, lsB, lsC])
   (refine ⟨_, (.pointer (some ⟨g, 0, none⟩)), rfl, .inl ⟨rfl, fun V hV => rfl⟩, ?_⟩; simp only [Act.put, lsA, lsB, lsC])
   (refine ⟨_, (.pointer (some ⟨g, 16, none⟩)), rfl, .inl ⟨rfl, fun V hV => rfl⟩, ?_⟩; simp only [Act.put, lsA, lsB, lsC])
   (refine ⟨_, _, rfl, .inl ⟨rfl, fun V hV => (exec_ld 28 (.tmp 68) ⟨g, 16, none⟩ rfl rfl (L28.out V hV))⟩, ?_⟩; simp only [Act.put, lsA, lsB, lsC])
   (refine ⟨_, (.pointer (some ⟨g, 0, none⟩)), rfl, .inl ⟨rfl, fun V hV => rfl⟩, ?_⟩; simp only [Act.put, lsA, lsB, lsC])
   (refine ⟨_, (.pointer (some ⟨g, 0, none⟩)), rfl, .inl ⟨rfl, fun V hV => rfl⟩, ?_⟩; simp only [Act.put, lsA, lsB, lsC])
   (refine ⟨_, (.pointer (some ⟨g, 12, none⟩)), rfl, .inl ⟨rfl, fun V hV => rfl⟩, ?_⟩; simp only [Act.put, lsA, lsB, lsC])
   (refine ⟨_, _, rfl, .inl ⟨rfl, fun V hV => (exec_ld 3 (.tmp 72) ⟨g, 12, none⟩ rfl rfl (L3.out V 2 tv hV (by rw [← ok3]; rfl)))⟩, ?_⟩; simp only [Act.put, lsA, lsB, lsC])
   (refine ⟨_, (.pointer (some ⟨g, 0, none⟩)), rfl, .inl ⟨rfl, fun V hV => rfl⟩, ?_⟩; simp only [Act.put, lsA, lsB, lsC])
   (refine ⟨_, (.pointer (some ⟨g, 0, none⟩)), rfl, .inl ⟨rfl, fun V hV => rfl⟩, ?_⟩; simp only [Act.put, lsA, lsB, lsC])
   (refine ⟨_, (.pointer (some ⟨g, 14, none⟩)), rfl, .inl ⟨rfl, fun V hV => rfl⟩, ?_⟩; simp only [Act.put, lsA, lsB, lsC])
   (refine ⟨_, _, rfl, .inl ⟨rfl, fun V hV => (exec_ld 3 (.tmp 76) ⟨g, 14, none⟩ rfl rfl (L3.out V 4 nb hV (by rw [← ok2]; rfl)))⟩, ?_⟩; simp only [Act.put, lsA, lsB, lsC])
   (refine ⟨_, (.int .i64 (IntKind.i64.wrap (tv + nb))), rfl, .inl ⟨rfl, fun V hV => rfl⟩, ?_⟩; simp only [Act.put, lsA, lsB, lsC])
   (refine ⟨_, (.pointer (some ⟨g, 0, none⟩)), rfl, .inl ⟨rfl, fun V hV => rfl⟩, ?_⟩; simp only [Act.put, lsA, lsB, lsC])
   (refine ⟨_, (.pointer (some ⟨g, 0, none⟩)), rfl, .inl ⟨rfl, fun V hV => rfl⟩, ?_⟩; simp only [Act.put, lsA, lsB, lsC])
   (refine ⟨_, (.pointer (some ⟨g, 13, none⟩)), rfl, .inl ⟨rfl, fun V hV => rfl⟩, ?_⟩; simp only [Act.put, lsA, lsB, lsC])
   (refine ⟨_, _, rfl, .inl ⟨rfl, fun V hV => (exec_ld 79 (.tmp 81) ⟨g, 13, none⟩ rfl rfl (L79.out V hV))⟩, ?_⟩; simp only [Act.put, lsA, lsB, lsC])
   simp only [SeqC]
   refine held_call 21 (some 83) 32 #[.agg T.toArray, .agg [.slice Aq ln cq, .int .i64 knd, .int .i64 1].toArray, .int .i64 (IntKind.i64.wrap (tv + nb)), .pointer (some ⟨gl, 0, none⟩)] (by kernel_rfl) rfl rfl (by kernel_rfl) (by go_simp) XN1.out ?_
   rintro _ w8 ⟨gx, vo, Dx, rfl, hO8, hX8, hl8, hf8, hg8, hD8⟩
   have B8 := hf8.blk B7.drew (fun e => hgl1 e.symm)
   have F8 : Fr (TyS w7 XTy b) w7 w8 := Fr.transT (Fr.below kd) (hf8.mono (fun i hi => by
    subst hi
    obtain ⟨cs, hb⟩ := lot_blk LTd
    exact ⟨h8, _, _, hb, .inr (.inl rfl)⟩))
   have hwb : b ≤ w7.heap.size := Nat.le_trans hbw2 F7'.out.size
   have hkd := kd.size
   obtain ⟨Ax, cx, hvo, -, -⟩ := hO8.form
   subst hvo
   have O8 := hO8.mono (show w7.heap.size ≤ w7.drew.heap.size from hkd)
   refine ⟨_, rfl, B8, ?_⟩
   clear XN1 XN L69 L28 L3 L79 hS hO8 hf8
   have hS := B8
   simp only [Act.put, lsA, lsB, lsC]
   refine held_seq hS 5 [22, 23, 24, 25, 26] rfl (by kernel_rfl) (fun _ _ _ _ _ h => h) rfl rfl ?_
   (refine ⟨_, (.tuple #[.pointer (some ⟨gx, 0, none⟩), .slice Ax X.2.2.length cx]), rfl, .inl ⟨rfl, fun V hV => rfl⟩, ?_⟩; simp only [Act.put, lsA, lsB, lsC])
   (refine ⟨_, (.pointer (some ⟨gx, 0, none⟩)), rfl, .inl ⟨rfl, fun V hV => rfl⟩, ?_⟩; simp only [Act.put, lsA, lsB, lsC])
   (refine ⟨_, (.slice Ax X.2.2.length cx), rfl, .inl ⟨rfl, fun V hV => rfl⟩, ?_⟩; simp only [Act.put, lsA, lsB, lsC])
   (refine ⟨_, (.pointer (some ⟨gx, 0, none⟩)), rfl, .inl ⟨rfl, fun V hV => rfl⟩, ?_⟩; simp only [Act.put, lsA, lsB, lsC])
   (refine ⟨_, (.slice Ax X.2.2.length cx), rfl, .inl ⟨rfl, fun V hV => rfl⟩, ?_⟩; simp only [Act.put, lsA, lsB, lsC])
   simp only [SeqC]
   refine wpAnyH_done (by kernel_rfl) ?_ _
   go_wp2_with fail
   go_meet
   case rel => exact ⟨gx, Ax, cx, Dx, rfl, rfl, Hh O8, Hh hX8, Hh hl8, F8, by omega, fun i hi => by have := hD8 i hi; omega, B8⟩
  obtain ⟨gx, Ax, cx, Dx, rfl, rfl, HO8, HX8, HL8, F8, hbgx, hbDx, B8⟩ := hcut
  obtain ⟨w8, rfl⟩ : ∃ w8, w8 = wc := ⟨_, rfl⟩
  clear XN B7
  have hwb : b ≤ w7.heap.size := Nat.le_trans hbw2 F7'.out.size
  obtain ⟨L8, hL8⟩ : ∃ L8, Hid (T ++ sgM (.slice (some ⟨gs, 0, none⟩) nl cn) (.slice Aq ln cq) vt vr vm gl none sA = L8) := ⟨_, Hh rfl⟩
  have SL8 : L8.length = 28 := by rw [← hL8.out]; exact sg_len hT10 ..
  rw [hL8.out] at B8
  go_wp2_with (refine at_op (.store 76 (.tmp 89) (.tmp 87)) rfl ?_; go_must (refine wpList_stC rfl 76 (.tmp 89) (.tmp 87) rfl g 15 rfl (.pointer (some ⟨gx, 0, none⟩)) rfl B8 (by rw [SL8]; decide) xpInfo1 rfl rfl ?_))
  intro w9 B9 g9 sw
  clear sw
  rw [← hL8.out] at B9
  have B9' : Blk w9 g 185 (T ++ sgM (.slice (some ⟨gs, 0, none⟩) nl cn) (.slice Aq ln cq) vt vr vm gl (some gx) sA) := sg_put hT10 5 B9 rfl
  have F9 := Fr.grown (S := TyS w8 SiTy b) g9 B8 (by unfold StTy; decide) ⟨hbgo, _, _, B8, rfl⟩
  have d14 : w9.cell? ⟨g, 14, none⟩ = some (.int .i64 nb) := B9'.cell_ 14 ((t10_get hT10 _ 4).trans (by rw [← ok2]; rfl))
  have f14 := B9'.frozen 14
  have hl9 := B9'.lt
  have B10 := sg_put hT10 4 (B9'.set 14 (.int .i64 ((nb + 1 : Nat) : Int))) rfl
  have g10 : w9.grownBy (w9.setCell ⟨g, 14, none⟩ (.int .i64 ((nb + 1 : Nat) : Int))) (some g) := grown_set (World.grownBy.refl _ _) 14 _
  have F10 : Fr (TyS w8 SiTy b) w8 (w9.setCell ⟨g, 14, none⟩ (.int .i64 ((nb + 1 : Nat) : Int))) := Fr.transT F9 (Fr.grown g10 B9' (by unfold StTy; decide) ⟨hbgo, _, _, B9', rfl⟩)
  have hn10 : nb + 1 ≤ 10 := by omega
  have O10 := Hh (HO8.out.frY F10 (by unfold SiTy; decide))
  have O10' := Hh ((OU7'.out.frY F8 (by unfold XTy; decide)).frY F10 (by unfold SiTy; decide))
  have X10 := Hh (HX8.out.frT F10 (by unfold SiTy; decide) (by unfold SiTy; decide))
  have L10' := Hh (HL8.out.frT F10 (by unfold SiTy; decide))
  have R10 := Hh ((R7'.out.frT F8 (by unfold XTy; decide)).frT F10 (by unfold SiTy; decide))
  have N10 := Hh ((N7'.out.stays F8.stays).stays F10.stays)
  have F710 : Hid (Fr (TyS w7 SgTy b) w7 (w9.setCell ⟨g, 14, none⟩ (.int .i64 ((nb + 1 : Nat) : Int)))) := Hh (Fr.transT (F8.monoT x_sg) (F10.monoT si_sg))
  have hw10 : b ≤ (w9.setCell ⟨g, 14, none⟩ (.int .i64 ((nb + 1 : Nat) : Int))).heap.size := Nat.le_trans hwb F710.out.size
  have HB10 := Hh B10
  have hoo : o1.length + X.2.2.length ≤ 100000 := by omega
  clear B9 B9' g9 F9 B10 g10 F10 HO8 HX8 HL8 F8 OU7' R7' N7' LT7' B8
  go_wp2_with (at_builtin; go_must (refine wpList_appOu _ rfl (.tmp 97) (.tmp 98) rfl rfl rfl O10'.out O10.out hw10 hoo ?_))
  intro v' w11 ho11 hf11
  obtain ⟨A', c', hv', -, -⟩ := ho11.form
  have F11 : Fr (TyS (w9.setCell ⟨g, 14, none⟩ (.int .i64 ((nb + 1 : Nat) : Int))) OuTy b) (w9.setCell ⟨g, 14, none⟩ (.int .i64 ((nb + 1 : Nat) : Int))) w11 := hf11.mono (fun i hi => O10'.out.ownTy (p := OuTy) rfl i hi)
  have B11 := F11.blk HB10.out (TyS.not HB10.out (by unfold OuTy; decide))
  have R11 := R10.out.frT F11 (by unfold OuTy; decide)
  have N11 := N10.out.stays F11.stays
  have X11 := X10.out.frT F11 (by unfold OuTy; decide) (by unfold OuTy; decide)
  have L11 := L10'.out.frT F11 (by unfold OuTy; decide)
  have F711 := Fr.transT F710.out (F11.monoT ou_sg)
  have BA11 := F711.toBelowT BA7'.out BA7'.out.size (by omega)
  have hb11 : natAt w11 g 14 = nb + 1 := natAt_eq (B11.cell_ 14 ((t10_get hT10 _ 4).trans rfl))
  have hw11 : b ≤ w11.heap.size := Nat.le_trans hwb F711.size
  have SN1 := SN.out X11.ok
  have AT11 : SgAt w0 w11 b g gl Dx (newS s2 X.1) := ⟨⟨T, _, _, vt, vr, vm, some gx, ⟨by
    have hq : newS s2 X.1 = { sA with pres := some X.1, begun := nb + 1 } := by unfold newS; rw [hqn'.out, hsA, hnb]
    rw [hq]; exact B11, hT10⟩, R11.r, R11.n, by show NmL w11 _ (qnS s2).name; rw [hqn'.out]; exact N11, R11.t, R11.c, R11.m, X11, fun i hi => by injection hi with hi; omega⟩, BA11, h6, h7, h8, hbDx, HRL.out, HRS.out⟩
  have OW := Hh ho11
  have FW := Hh (Fr.transT HFR2.out (Fr.transT (F7'.out.monoT si_sg) F711))
  have AW := Hh AT11
  have LW := Hh L11
  have SW := Hh SN1
  subst hv'
  clear ho11 hf11 F11 B11 R11 N11 X11 L11 F711 BA11 AT11 SN1 O10 O10' X10 L10' R10 N10 F710 HB10 hw10 d14 f14 SN
  go_wp2_with fail
  go_roundw
  case rel => exact ⟨f', newS s2 X.1, X.2.1, o1 ++ X.2.2, A', c', Dx, rfl, hR, AW, LW, OW, SW, hs2, hn2, by show nl ≤ f' + (s2.begun + 1); omega, by show s2.begun + 1 ≤ nl; omega, by rw [List.length_append]; show _ ≤ 2 + (s2.begun + 1); omega, hw11, FW⟩
  case measure => rw [hbeg, hb11]; omega
theorem SgI.dn {s : Sg} {L : Lt} {tk k H tk' k' H' : Nat} (h : SgI s L tk k H) (hd : s.done = true) (hk : k ≤ k') : SgI s L tk' k' H' := by
 have hp := h.inv.pd hd
 have h4 := h.us
 exact ⟨⟨h.inv.bg, fun x c => absurd (hp.symm.trans c) (by simp), fun _ => .inl hd, fun x c => absurd (hp.symm.trans c) (by simp), h.inv.dn, h.inv.pd⟩, by omega, h.ds, h.sn, h.td, h.nl, fun x c => absurd (hp.symm.trans c) (by simp)⟩
theorem SgAt.heard {w0 w : World} {b g gl : Nat} {D : Option Nat} {s : Sg} {x : Xc} (h : SgAt w0 w b g gl D s) (hp : s.pres = some x) (hbw : b ≤ w.heap.size) : ∃ gx, XchgAt w gx gl D x ∧ b ≤ gx ∧ w.cell? ⟨g, 15, none⟩ = some (.pointer (some ⟨gx, 0, none⟩)) ∧ ∀ w' D' x', Fr (TyS w XTy b) w w' → XchgAt w' gx gl D' x' → (∀ i, D' = some i → b ≤ i) → SgAt w0 w' b g gl D' { s with pres := some x' } := by
 obtain ⟨⟨T, vn, vq, vt, vr, vm, pp, a1, a2, a3, a4, a5, a6, a7, a8, a9⟩, h5, h6, h7, h8, h9, h10, h11⟩ := h
 rw [hp] at a8
 cases pp with
 | none => exact a8.elim
 | some gx =>
 refine ⟨gx, a8, a9 gx rfl, a1.c 5 rfl, fun w' D' x' k hx hD => ?_⟩
 exact ⟨⟨T, vn, vq, vt, vr, vm, some gx, ⟨k.blk a1.1 (TyS.not a1.1 (by unfold XTy; decide)), a1.2⟩, a2.fr k, a3.fr k, a4.stays k.stays, a5.stays (fun _ x => k.ownT x (by unfold XTy; decide)) (fun _ _ x => x), a6.fr k, k.stays _ _ a7, hx, a9⟩, k.toBelowT h5 h5.size (by omega), h6, h7, h8, hD, h10, h11⟩
theorem xp_eql (A : Option Addr) (w : World) : (binOp BinOp.eql 76 (.pointer A) (.pointer none)).run prog w = .ok (.bool A.isNone) w := by cases A <;> kernel_rfl
set_option maxHeartbeats 2000000 in
theorem shear_any (w0 : World) (b g gl : Nat) (D : Option Nat) (s : Sg) (L : Lt) (e : Ev) (tk k H : Nat) (w : World) (h : SgAt w0 w b g gl D s) (hl : LotAt w gl L) (hI : SgI s L tk k H) (hpd : s.pres = none → s.done = true) (hxd : ∀ x, s.pres = some x → x.done = false) (hip : e.fr.ip.length = 16) (hH : H + e.data.length ≤ 8796093022208) (hk : k ≤ 90000) (hbw : b ≤ w.heap.size) (hnm : ∀ n ∈ s.nms, n.length ≤ 100000) :
  Calls prog 53 #[.pointer (some ⟨g, 0, none⟩), .agg (evC e).toArray] w (SgRetI w0 b g gl (hearS s L e) (tk + if e.kind = 1 then 1 else 0) (k + 1) (H + e.data.length) w) := by
 obtain ⟨tk2, htk2⟩ : ∃ tk2, (tk + if e.kind = 1 then 1 else 0) = tk2 := ⟨_, rfl⟩
 rw [htk2]
 have hel := evC_len hip
 have HX : Below w.heap.size w (w.alloc (.cells (evC e).toArray 42)) := (Below.refl _ _).alloc (Nat.le_refl _) _
 have E := Blk.new w 42 (evC e)
 cases hp : s.pres with
 | none =>
  have hd := hpd hp
  have hR : Hid (hearS s L e = (s, L, [])) := Hh (by unfold hearS; rw [hp])
  have FA := Hh (h.below hbw HX)
  have FL := Hh (hl.below HX)
  have FI := Hh (hI.dn (tk' := tk2) (k' := k + 1) (H' := H + e.data.length) hd (by omega))
  have hc : (w.alloc (.cells (evC e).toArray 42)).cell? ⟨g, 23, none⟩ = some (.bool true) := by
   obtain ⟨⟨T, vn, vq, vt, vr, vm, pp, a1, _⟩, _⟩ := FA.out
   rw [← hd]
   exact a1.c 13 rfl
  rw [hR.out]
  have HFX := Hh HX
  have HPN := Hh hp
  have HDN := Hh hd
  clear h hl hI hpd hxd hR E HX hnm hp hd htk2
  generalize evC e = es at *
  go_enter func53, ntmps53
  go_wp2_with fail
  go_ret
  exact ⟨⟨_, D, rfl, OusN.nil _ _, FA.out, FL.out, Fr.below HFX.out⟩, FI.out, fun _ => HDN.out, fun x c => absurd (HPN.out.symm.trans c) (by simp)⟩
 | some x =>
  have hxdn := hxd x hp
  have hdn : s.done = false := by
   cases hd : s.done with
   | false => rfl
   | true => rw [hI.inv.pd hd] at hp; cases hp
  have hbgl := h.bl
  have hbD := h.bD
  have h45 := hI.x45 hp
  have hxh := hI.hd x hp
  have hus := hI.us
  have hdsl := hI.ds
  have hnl10 := hI.nl
  have hbg10 := hI.inv.bg
  have hxl := hearX_len x L e
  obtain ⟨T0, vn0, vq0, vt0, vr0, vm0, pp0, a1, _⟩ := h.c
  have hglt := a1.1.lt
  have d23 : (w.alloc (.cells (evC e).toArray 42)).cell? ⟨g, 23, none⟩ = some (.bool false) := by
   rw [← hdn]
   exact (HX.cell (p := ⟨g, 23, none⟩) hglt).trans (a1.c 13 rfl)
  obtain ⟨gx0, _, _, hc0, _⟩ := h.heard hp hbw
  have d15 : (w.alloc (.cells (evC e).toArray 42)).cell? ⟨g, 15, none⟩ = some (.pointer (some ⟨gx0, 0, none⟩)) := (HX.cell (p := ⟨g, 15, none⟩) hglt).trans hc0
  have HXd : Below w.heap.size w (w.alloc (.cells (evC e).toArray 42)).drew := HX.drew
  have Ed := E.drew
  have HWd := Hh HXd
  have hAd := h.below hbw HXd
  obtain ⟨gx, XD0, hbgx, hcx, HRD0⟩ := hAd.heard hp (Nat.le_trans hbw HXd.size)
  have e0 : gx = gx0 := by
   have := (HXd.cell (p := ⟨g, 15, none⟩) hglt).trans hc0
   rw [hcx] at this
   injection this with this
   injection this with this
   injection this with this
   injection this with this
  subst e0
  have LD := Hh (hl.below HXd)
  have XD := Hh XD0
  have HRD := Hh HRD0
  obtain ⟨w1d, hw1d⟩ : ∃ w1d, Hid ((w.alloc (.cells (evC e).toArray 42)).drew = w1d) := ⟨_, Hh rfl⟩
  rw [hw1d.out] at XD LD HRD HWd hcx Ed
  have hwd : b ≤ w1d.heap.size := Nat.le_trans hbw HWd.out.size
  have SH := Hh (hI.hear1 hp XD.out.ok e hdn)
  rw [show (if e.kind = 1 ∧ x.done = false then 1 else 0) = (if e.kind = 1 then 1 else 0) by simp [hxdn], htk2] at SH
  have XH1 := Hh (xhear_any gx gl D x L e w1d XD.out LD.out hip (by omega) (by omega) hdsl (by omega))
  unfold XRet at XH1
  have hR : Hid (hearS s L e = goS (s.nms.length + 1) { s with pres := some (hearX x L e).1 } (hearX x L e).2.1 (hearX x L e).2.2) := Hh (by unfold hearS; rw [hp]; simp only [hdn]; rfl)
  have HNM : Hid (∀ n ∈ ({ s with pres := some (hearX x L e).1 } : Sg).nms, n.length ≤ 100000) := Hh hnm
  have EN := xp_eql (some ⟨gx, 0, none⟩)
  have L15 : Hid ((Instr.loadAt 76 (.pointer (some ⟨g, 15, none⟩))).run prog w1d = .ok (.pointer (some ⟨gx, 0, none⟩)) w1d) := Hh (run_load1 underlying76 rfl hcx)
  have LE : Hid ((Instr.loadAt 42 (.pointer (some ⟨w.heap.size, 0, none⟩))).run prog w1d = .ok (.agg (evC e).toArray) w1d) := Hh (Ed.loads 42 0 22 (by omega) _ underlying42 rfl evI22 _ (tk0 (by omega)))
  rw [hR.out]
  have hdn' : ({ s with pres := some (hearX x L e).1 } : Sg).done = false := hdn
  have HDN := Hh hdn'
  clear htk2 h hl hI hpd hxd hR hnm a1 hcx hc0 XD0 HRD0 hAd E Ed HX HXd hxh hp hdn hdn'
  generalize hearX x L e = R at *
  generalize evC e = es at *
  go_enter func53, ntmps53
  go_wp2_with fail
  have hS := trivial
  refine wp_region_held_drew (S := fun _ => True) (by kernel_rfl) trivial (fun hS => ?_)
  rw [hw1d.out]
  refine held_seq hS 4 [0, 1, 2, 3] rfl (by kernel_rfl) (fun _ _ _ _ _ h => h) rfl rfl ?_
  (refine ⟨_, (.pointer (some ⟨g, 0, none⟩)), rfl, .inl ⟨rfl, fun V hV => rfl⟩, ?_⟩; simp only [Act.put, lsA, lsB, lsC])
  (refine ⟨_, (.pointer (some ⟨g, 0, none⟩)), rfl, .inl ⟨rfl, fun V hV => rfl⟩, ?_⟩; simp only [Act.put, lsA, lsB, lsC])
  (refine ⟨_, (.pointer (some ⟨g, 0, none⟩)), rfl, .inl ⟨rfl, fun V hV => rfl⟩, ?_⟩; simp only [Act.put, lsA, lsB, lsC])
  (refine ⟨_, (.pointer (some ⟨g, 15, none⟩)), rfl, .inl ⟨rfl, fun V hV => rfl⟩, ?_⟩; simp only [Act.put, lsA, lsB, lsC])
  simp only [SeqC]
  refine ord_two 4 5 (by kernel_rfl) ?_ ?_
  ·
   refine opw_ld 4 (some 24) 76 (.tmp 23) ⟨g, 15, none⟩ rfl rfl rfl rfl (by kernel_rfl) L15.out ?_
   refine ⟨trivial, ?_⟩
   simp only [Act.put, lsA, lsB, lsC]
   refine ord_one 5 (by kernel_rfl) ?_
   refine opw_ld 5 (some 25) 42 (.tmp 3) ⟨w.heap.size, 0, none⟩ rfl rfl rfl rfl (by kernel_rfl) LE.out ?_
   refine ⟨trivial, ?_⟩
   simp only [Act.put, lsA, lsB, lsC]
   refine ord_one 6 (by kernel_rfl) ?_
   refine opw_call 6 (some 26) 36 #[.pointer (some ⟨gx, 0, none⟩), .agg es.toArray] rfl rfl (by kernel_rfl) (by go_simp) XH1.out ?_
   rintro _ w2 ⟨v2, D2, rfl, hO2, hX2, hL2, hF2, hD2⟩
   refine ⟨_, rfl, trivial, ?_⟩
   simp only [Act.put, lsA, lsB, lsC]
   refine ord_one 7 (by kernel_rfl) ?_
   refine opw_call 7 (some 27) 99 #[v2] rfl rfl (by kernel_rfl) (by go_simp) (ouclone_any w2 hO2 (by omega)) ?_
   rintro _ w3 ⟨v3, rfl, hO3, b3⟩
   refine ⟨_, rfl, trivial, ?_⟩
   simp only [Act.put, lsA, lsB, lsC]
   have F2 : Fr (TyS w1d XTy b) w1d w2 := hF2.mono (XS.ty XD.out LD.out hbgx hbgl hbD (.inl rfl) (.inr (.inl rfl)) (.inr (.inr rfl)))
   have hw2 := F2.size
   have A2 := HRD.out w2 D2 _ F2 hX2 (fun i hi => by
    rcases hD2 i hi with c | c
    ·
     exact hbD i c
    ·
     omega)
   have A3 := A2.below (by omega) b3
   have G3 := goOn_any w0 b g gl D2 _ _ _ v3 _ _ _ w3 A3 (hL2.below b3) (hO3.mono (by omega)) SH.out HDN.out (by omega) (by omega) (by have := b3.size; omega) HNM.out
   have F3 : Fr (TyS w SgTy b) w w3 := Fr.transT (Fr.below HWd.out) (Fr.transT (F2.monoT x_sg) (Fr.below b3))
   refine ord_one 8 (by kernel_rfl) ?_
   refine opw_call 8 (some 28) 98 #[.pointer (some ⟨g, 0, none⟩), v3] rfl rfl (by kernel_rfl) (by go_simp) G3 ?_
   rintro _ w4 ⟨⟨v4, D4, rfl, q1, q2, q3, q4⟩, q5, q6, q7⟩
   refine ⟨_, rfl, trivial, ?_⟩
   have HF := Hh (Fr.transT F3 q4)
   have HQ := Hh (And.intro q1 (And.intro q2 (And.intro q3 (And.intro q5 (And.intro q6 q7)))))
   clear hO2 hX2 hL2 hF2 hD2 hO3 b3 F2 A2 A3 G3 F3 q1 q2 q3 q4 q5 q6 q7
   simp only [Act.put, lsA, lsB, lsC]
   refine held_seq hS 1 [9] rfl (by kernel_rfl) (fun _ _ _ _ _ h => h) rfl rfl ?_
   (refine ⟨_, v4, rfl, .inl ⟨rfl, fun V hV => rfl⟩, ?_⟩; simp only [Act.put, lsA, lsB, lsC])
   simp only [SeqC]
   refine wpAnyH_done (by kernel_rfl) ?_ _
   go_wp2_with fail
   go_ret
   obtain ⟨q1, q2, q3, q5, q6, q7⟩ := HQ.out
   exact ⟨⟨v4, D4, rfl, q1, q2, q3, HF.out⟩, q5, q6, q7⟩
  ·
   refine opw_ld 5 (some 25) 42 (.tmp 3) ⟨w.heap.size, 0, none⟩ rfl rfl rfl rfl (by kernel_rfl) LE.out ?_
   refine ⟨trivial, ?_⟩
   simp only [Act.put, lsA, lsB, lsC]
   refine ord_one 4 (by kernel_rfl) ?_
   refine opw_ld 4 (some 24) 76 (.tmp 23) ⟨g, 15, none⟩ rfl rfl rfl rfl (by kernel_rfl) L15.out ?_
   refine ⟨trivial, ?_⟩
   simp only [Act.put, lsA, lsB, lsC]
   refine ord_one 6 (by kernel_rfl) ?_
   refine opw_call 6 (some 26) 36 #[.pointer (some ⟨gx, 0, none⟩), .agg es.toArray] rfl rfl (by kernel_rfl) (by go_simp) XH1.out ?_
   rintro _ w2 ⟨v2, D2, rfl, hO2, hX2, hL2, hF2, hD2⟩
   refine ⟨_, rfl, trivial, ?_⟩
   simp only [Act.put, lsA, lsB, lsC]
   refine ord_one 7 (by kernel_rfl) ?_
   refine opw_call 7 (some 27) 99 #[v2] rfl rfl (by kernel_rfl) (by go_simp) (ouclone_any w2 hO2 (by omega)) ?_
   rintro _ w3 ⟨v3, rfl, hO3, b3⟩
   refine ⟨_, rfl, trivial, ?_⟩
   simp only [Act.put, lsA, lsB, lsC]
   have F2 : Fr (TyS w1d XTy b) w1d w2 := hF2.mono (XS.ty XD.out LD.out hbgx hbgl hbD (.inl rfl) (.inr (.inl rfl)) (.inr (.inr rfl)))
   have hw2 := F2.size
   have A2 := HRD.out w2 D2 _ F2 hX2 (fun i hi => by
    rcases hD2 i hi with c | c
    ·
     exact hbD i c
    ·
     omega)
   have A3 := A2.below (by omega) b3
   have G3 := goOn_any w0 b g gl D2 _ _ _ v3 _ _ _ w3 A3 (hL2.below b3) (hO3.mono (by omega)) SH.out HDN.out (by omega) (by omega) (by have := b3.size; omega) HNM.out
   have F3 : Fr (TyS w SgTy b) w w3 := Fr.transT (Fr.below HWd.out) (Fr.transT (F2.monoT x_sg) (Fr.below b3))
   refine ord_one 8 (by kernel_rfl) ?_
   refine opw_call 8 (some 28) 98 #[.pointer (some ⟨g, 0, none⟩), v3] rfl rfl (by kernel_rfl) (by go_simp) G3 ?_
   rintro _ w4 ⟨⟨v4, D4, rfl, q1, q2, q3, q4⟩, q5, q6, q7⟩
   refine ⟨_, rfl, trivial, ?_⟩
   have HF := Hh (Fr.transT F3 q4)
   have HQ := Hh (And.intro q1 (And.intro q2 (And.intro q3 (And.intro q5 (And.intro q6 q7)))))
   clear hO2 hX2 hL2 hF2 hD2 hO3 b3 F2 A2 A3 G3 F3 q1 q2 q3 q4 q5 q6 q7
   simp only [Act.put, lsA, lsB, lsC]
   refine held_seq hS 1 [9] rfl (by kernel_rfl) (fun _ _ _ _ _ h => h) rfl rfl ?_
   (refine ⟨_, v4, rfl, .inl ⟨rfl, fun V hV => rfl⟩, ?_⟩; simp only [Act.put, lsA, lsB, lsC])
   simp only [SeqC]
   refine wpAnyH_done (by kernel_rfl) ?_ _
   go_wp2_with fail
   go_ret
   obtain ⟨q1, q2, q3, q5, q6, q7⟩ := HQ.out
   exact ⟨⟨v4, D4, rfl, q1, q2, q3, HF.out⟩, q5, q6, q7⟩
def startS (r : Rs) (ns : List (List (List UInt8))) (kind turn : Int) : Sg := ⟨r, ns, kind, turn, 0, none, ⟨[], 0, 0⟩, false, false, 0, 0, false, 0, [], [], 0⟩
def newSS (r : Rs) (ns : List (List (List UInt8))) (kind turn : Int) (L : Lt) : SR := goS (ns.length + 1) (startS (heldR r) ns kind turn) L []
theorem startS_I (r : Rs) (ns : List (List (List UInt8))) (kind turn : Int) (L : Lt) (hu : L.us = 0) (hd : L.ds.length ≤ 17592186044416) (hn : ns.length ≤ 10) : SgI (startS r ns kind turn) L 0 0 0 :=
 ⟨InvS.idle (Nat.zero_le _) rfl rfl (Nat.le_refl _), by rw [hu]; exact Nat.zero_le _, hd, Nat.zero_le _, Nat.zero_le _, hn, fun x c => by cases c⟩
theorem bld_SgI (a b c d e f g h i j : Value) (kind turn : Int) (gl : Nat) (W : World) : (Instr.build 185 #[(0, .agg [a, b, c, d, e, f, g, h, i, j].toArray), (2, .int .i64 kind), (3, .int .i64 turn), (4, .pointer (some ⟨gl, 0, none⟩))]).run prog W = .ok (.agg ([a, b, c, d, e, f, g, h, i, j] ++ sgM nilS nilS nilS nilS nilS gl none (startS ⟨[], [], [], 0, 0, 0, false, false, false, false⟩ [] kind turn)).toArray) W := by kernel_rfl
theorem bld_Sg (T : List Value) (hT : T.length = 10) (r : Rs) (ns : List (List (List UInt8))) (kind turn : Int) (gl : Nat) (W : World) : (Instr.build 185 #[(0, .agg T.toArray), (2, .int .i64 kind), (3, .int .i64 turn), (4, .pointer (some ⟨gl, 0, none⟩))]).run prog W = .ok (.agg (T ++ sgM nilS nilS nilS nilS nilS gl none (startS r ns kind turn)).toArray) W := by
 match T, hT with
 | [a, b, c, d, e, f, g, h, i, j], _ => exact bld_SgI ..
theorem run_bsN (A : Option Addr) (n c : Nat) (w : World) : (Instr.buildSlice 66 1 #[(0, .slice A n c)]).run prog w = .ok (.slice (some ⟨w.heap.size, 0, none⟩) 1 1) (w.alloc (.cells #[.slice A n c] 26)) := by kernel_rfl
theorem exec_bsV {P : Program} {w w' : World} {o : Oper} {a : Act} {t : TypeId} {u v : Value} (x : Operand) (ho : o.op = .buildSlice t 1 #[(0, x)]) (hx : a.eval x = u) (hr : (Instr.buildSlice t 1 #[(0, u)]).run P w = .ok v w') : (execOp a.eval o).run P w = .ok (.value v) w' := by
 unfold execOp
 simp only [ho, Sem.run_bind, Sem.run_pure, Result.andThen_ok, List.map_toArray, List.map_cons, List.map_nil, hx, hr]
theorem slI66 : (prog.info? 66).map (·.size) = some 1 := by kernel_rfl
def SnRet (w0 : World) (b gl : Nat) (R : SR) (w : World) (e : Ending) (w' : World) : Prop := ∃ g v D, e = .returned (.tuple #[.pointer (some ⟨g, 0, none⟩), v]) ∧ OusN b w' v R.2.2 ∧ SgAt w0 w' b g gl D R.1 ∧ LotAt w' gl R.2.1 ∧ Fr (TyS w SgTy b) w w' ∧ SgI R.1 R.2.1 0 0 0 ∧ (R.1.pres = none → R.1.done = true) ∧ ∀ x, R.1.pres = some x → x.done = false
theorem heldR_len (r : Rs) : (heldR r).sv.length ≤ 100 ∧ (heldR r).se.length ≤ 100 ∧ (heldR r).so.length ≤ 100 := by
 have h1 := (held_sv r).2
 refine ⟨by omega, ?_, ?_⟩ <;> (unfold heldR leftP; simp only [List.length_take]; omega)
set_option maxHeartbeats 2000000 in
theorem snew_any (w0 : World) (b gl : Nat) (cs : List Value) (r : Rs) (A : Option Addr) (c : Nat) (ns : List (List (List UInt8))) (kind turn : Int) (L : Lt) (w : World) (h : RsIs w0 cs r) (hw : Below w0.heap.size w0 w) (hN : NmsR w A ns) (hl : LotAt w gl L) (hu : L.us = 0) (hd : L.ds.length ≤ 17592186044416) (hn : ns.length ≤ 10) (hnm : ∀ n ∈ ns, n.length ≤ 100000) (h0b : w0.heap.size ≤ b) (hbw : b ≤ w.heap.size) (hbl : b ≤ gl) :
  Calls prog 52 #[.agg cs.toArray, .slice A ns.length c, .int .i64 kind, .int .i64 turn, .pointer (some ⟨gl, 0, none⟩)] w (SnRet w0 b gl (newSS r ns kind turn L) w) := by
 obtain ⟨R, hR⟩ : ∃ R, Hid (newSS r ns kind turn L = R) := ⟨_, Hh rfl⟩
 rw [hR.out]
 have hcl := h.len
 have HB : Below w.heap.size w (w.alloc (.cells cs.toArray 69)) := (Below.refl _ _).alloc (Nat.le_refl _) _
 have B0 := Blk.new w 69 cs
 have HD := Hh (fun W (hb : Below w.heap.size w W) => setHeld_any w0 cs r W h (below_then hw hw.size hb))
 have RB : Hid (∀ W, (Instr.build 171 #[(0, .agg cs.toArray)]).run prog W = .ok (.agg (cs ++ [nilS, nilS, nilS]).toArray) W) := Hh (fun W => by obtain ⟨A1, c1, A2, c2, A3, c3, rfl, _⟩ := h; exact rs_build ..)
 have HNS := Hh hN
 have HNM := Hh hnm
 have HLT := Hh hl
 have HII := Hh (startS_I (heldR r) ns kind turn L hu hd hn)
 have HW0 := Hh hw
 clear h hN hnm hl hu hd hw
 go_enter func52, ntmps52
 go_wp2_with (first
  | (refine at_op (.load 69 (.tmp 5)) rfl ?_; go_must (refine wpList_ldB rfl _ _ rfl w.heap.size 0 rfl B0 10 (by omega) _ underlying69 rfl rsI10 cs (tk0 (by omega)) ?_))
  | (refine at_op (.build 171 #[(0, .tmp 15)]) rfl ?_; go_must (refine wpList_bld rfl 171 _ rfl #[(0, .agg cs.toArray)] (by simp [Act.eval, Act.put]) (RB.out _) ?_)))
 refine (HD.out _ HB).mono ?_
 rintro _ w1 ⟨T, u1, u2, u3, rfl, RO, b1⟩
 have hT10 := RO.len
 have H1 := below_then HB HB.size b1
 have RBS := Hh (fun V => bld_Sg T hT10 (heldR r) ns kind turn gl V)
 have RO1 := Hh RO
 obtain ⟨s0, hs0⟩ : ∃ s0, Hid (startS (heldR r) ns kind turn = s0) := ⟨_, Hh rfl⟩
 rw [hs0.out] at RBS HII
 obtain ⟨L0, hL0⟩ : ∃ L0, Hid (T ++ sgM nilS nilS nilS nilS nilS gl none s0 = L0) := ⟨_, Hh rfl⟩
 rw [hL0.out] at RBS
 clear HB B0 HD RB RO b1
 go_wp2_with (first
  | (refine at_op (.field 171 (.tmp 17) 0) rfl ?_; go_must (refine wpList_fld rfl 171 (.tmp 17) 0 rfl rfl (fill_10 T hT10 u1 u2 u3 _) ?_))
  | (refine at_op (.build 185 #[(0, .tmp 18), (2, .tmp 19), (3, .tmp 20), (4, .tmp 21)]) rfl ?_; go_must (refine wpList_bld rfl 185 _ rfl #[(0, .agg T.toArray), (2, .int .i64 kind), (3, .int .i64 turn), (4, .pointer (some ⟨gl, 0, none⟩))] (by simp [Act.eval, Act.put]) (RBS.out _) ?_)))
 have B2 := Blk.new w1 185 L0
 rw [← hL0.out] at B2
 have H2 : Below w1.heap.size w1 (w1.alloc (.cells L0.toArray 185)) := (Below.refl _ _).alloc (Nat.le_refl _) _
 have hgw : w.heap.size ≤ w1.heap.size := H1.size
 have H1' := Hh H1
 obtain ⟨w2, hw2⟩ : ∃ w2, Hid (w1.alloc (.cells L0.toArray 185) = w2) := ⟨_, Hh rfl⟩
 rw [hw2.out] at H2
 rw [hL0.out, hw2.out, ← hL0.out] at B2
 rw [hw2.out]
 obtain ⟨g, hg⟩ : ∃ g, w1.heap.size = g := ⟨_, rfl⟩
 rw [hg] at B2 H2 hgw ⊢
 have HG := Hh hg
 clear hg H1 RBS
 go_loopw [26] (fun iv wr => ∃ (j : Nat) (vn : Value), j ≤ ns.length ∧ iv = .int .i64 j ∧ Blk wr g 185 (T ++ sgM vn nilS nilS nilS nilS gl none s0) ∧ Hid (LOwn wr g 26 1 (NmC wr) vn (ns.take j)) ∧ Below g w1 wr) (fun iv _ => ns.length - (intOf iv).toNat)
 case atStart => exact ⟨0, nilS, Nat.zero_le _, rfl, B2, Hh (LOwn.nil _ _ _ _ _), H2⟩
 clear B2 H2 hw2
 obtain ⟨j, vn, hj, rfl, BR, HO, HR⟩ := hrel
 have HBw : Below w.heap.size w wr := by
  refine H1'.out.trans ?_
  have := HG.out
  exact HR.mono (by omega)
 by_cases hlt : j < ns.length
 case pos =>
  have hlt' : (j : Int) < ns.length := by omega
  obtain ⟨bn, off, hA, hbn, hr⟩ := HNS.out (by omega)
  obtain ⟨An, cn, ce, hnm1⟩ := hr j hlt
  have ce' : wr.cell? ⟨bn, off + j, none⟩ = some (.slice An ns[j].length cn) := (HBw.cell (p := ⟨bn, off + j, none⟩) hbn).trans ce
  have hnl1 := HNM.out _ (List.getElem_mem hlt)
  have CL := Hh (fun V (hV : Below w.heap.size w V) => clone_any An cn ns[j] V (hnm1.below hV) hnl1)
  have hll : Hid (∀ l ∈ ns[j], l.length ≤ 140737488355328) := Hh hnm1.2.2.2
  subst hA
  clear hr ce hnm1
  obtain ⟨nq, hnq⟩ : ∃ nq, ns[j].length = nq := ⟨_, rfl⟩
  rw [hnq] at ce' CL hnl1
  have HNQ := Hh hnq
  clear hnq
  unfold CloneRet at CL
  go_upto_block 1 with fail
  go_cut [] (fun wx => ∃ vn', Blk wx g 185 (T ++ sgM vn' nilS nilS nilS nilS gl none s0) ∧ Hid (LOwn wx g 26 1 (NmC wx) vn' (ns.take (j + 1))) ∧ Below g w1 wx)
  case first =>
   have kd : Below wr.heap.size wr wr.drew := (Below.refl _ _).drew
   have Bd := BR.drew
   have Hd := HR.drew
   have CL1 := Hh (CL.out _ (below_then HBw HBw.size kd))
   have LD : Hid ((Instr.loadAt 66 (.pointer (some ⟨g, 10, none⟩))).run prog wr.drew = .ok vn wr.drew) := Hh (run_load1 underlying66 rfl (SgK.c ⟨Bd, hT10⟩ 0 rfl))
   obtain ⟨wd, hwd⟩ : ∃ wd, Hid (wr.drew = wd) := ⟨_, Hh rfl⟩
   have LK := Hh (fun V (K : Below wd.heap.size wd V) => (run_load1 (P := prog) (ty := 66) underlying66 rfl (SgK.c (vn := vn) ⟨(by rw [← hwd.out] at K; exact Bd.below K Bd.lt : Blk V g 185 (T ++ sgM vn nilS nilS nilS nilS gl none s0)), hT10⟩ 0 rfl) : (Instr.loadAt 66 (.pointer (some ⟨g, 10 + 0, none⟩))).run prog V = .ok vn V))
   rw [hwd.out] at CL1 LD Hd Bd kd
   have Od := Hh (LOwn.below (R' := NmC wd) HO.out kd (fun _ _ ⟨v, e, n⟩ => ⟨v, e, n.stays (Stays.below kd)⟩))
   go_wp2_with fail
   refine wp_region_held_drew (S := fun _ => True) (by kernel_rfl) trivial (fun hS => ?_)
   rw [hwd.out]
   clear BR HR HO kd ce' CL HBw
   refine held_seq hS 5 [0, 1, 2, 3, 5] rfl (by kernel_rfl) (fun _ _ _ _ _ h => h) rfl rfl ?_
   (refine ⟨_, (.pointer (some ⟨g, 0, none⟩)), rfl, .inl ⟨rfl, fun V hV => rfl⟩, ?_⟩; simp only [Act.put, lsA, lsB, lsC])
   (refine ⟨_, (.pointer (some ⟨g, 0, none⟩)), rfl, .inl ⟨rfl, fun V hV => rfl⟩, ?_⟩; simp only [Act.put, lsA, lsB, lsC])
   (refine ⟨_, (.pointer (some ⟨g, 0, none⟩)), rfl, .inl ⟨rfl, fun V hV => rfl⟩, ?_⟩; simp only [Act.put, lsA, lsB, lsC])
   (refine ⟨_, (.pointer (some ⟨g, 10, none⟩)), rfl, .inl ⟨rfl, fun V hV => rfl⟩, ?_⟩; simp only [Act.put, lsA, lsB, lsC])
   (refine ⟨_, (.slice An nq cn), rfl, .inl ⟨rfl, fun V hV => rfl⟩, ?_⟩; simp only [Act.put, lsA, lsB, lsC])
   simp only [SeqC]
   refine ord_two 4 6 (by kernel_rfl) ?_ ?_
   ·
    refine opw_ld 4 (some 34) 66 (.tmp 33) ⟨g, 10, none⟩ rfl rfl rfl rfl (by kernel_rfl) LD.out ?_
    refine ⟨trivial, ?_⟩
    simp only [Act.put, lsA, lsB, lsC]
    refine ord_one 6 (by kernel_rfl) ?_
    refine opw_call 6 (some 36) 73 #[.slice An nq cn] rfl rfl (by kernel_rfl) (by go_simp) CL1.out ?_
    rintro _ w3 ⟨A1, c1, rfl, ho3, b3⟩
    rw [HNQ.out] at ho3
    have LD3 := Hh (LK.out w3 b3)
    have kz : Below w3.heap.size w3 (w3.alloc (.cells #[.slice A1 nq c1] 26)) := (Below.refl _ _).alloc (Nat.le_refl _) _
    have kdz := below_then b3 b3.size kz
    have LDz := Hh (LK.out _ kdz)
    have RB1 := Hh (run_bsN A1 nq c1 w3)
    have Bz : Blk (w3.alloc (.cells #[.slice A1 nq c1] 26)) w3.heap.size 26 [.slice A1 nq c1] := Blk.new w3 26 [.slice A1 nq c1]
    have N3 : NmL w3 (.slice A1 nq c1) ns[j] := ⟨by have := own_zero ho3; unfold Txts; rw [HNQ.out]; exact this, by rw [HNQ.out]; exact hnl1, hll.out⟩
    have N5 := N3.stays (Stays.below kz)
    have B5 := Bd.below kdz Bd.lt
    have H5 := below_then Hd (Nat.le_of_lt Bd.lt) kdz
    have O5 := LOwn.below (R' := NmC (w3.alloc (.cells #[.slice A1 nq c1] 26))) Od.out kdz (fun _ _ ⟨v, e, n⟩ => ⟨v, e, n.stays (Stays.below kdz)⟩)
    refine ⟨_, by rw [HNQ.out], trivial, ?_⟩
    clear ho3 b3 kz kdz N3
    generalize w3.alloc (.cells #[.slice A1 nq c1] 26) = wz at *
    generalize w3.heap.size = gz at *
    simp only [Act.put, lsA, lsB, lsC]
    refine ord_one 7 (by kernel_rfl) ?_
    refine opw_run 7 (some 37) rfl rfl (by kernel_rfl) (exec_bsV (.tmp 36) rfl rfl RB1.out) ?_
    refine ⟨trivial, ?_⟩
    simp only [Act.put, lsA, lsB, lsC]
    obtain ⟨v', wb, hr, O6, g6⟩ := run_appL (P := prog) wz 66 66 26 _ 1 24 underlying66 nmInfo3 (by kernel_rfl) (by decide) g vn (ns.take j) O5 (Nat.le_of_lt B5.lt) gz [.slice A1 nq c1] ns[j] Bz rfl (by simp [Value.oneCell']) ⟨_, rfl, N5⟩ (by simp only [maxLen, List.length_take]; omega) (by rw [List.length_take]; omega)
    rw [← List.take_succ_eq_append_getElem hlt] at O6
    obtain ⟨Av', cv', hv'⟩ := O6.form
    generalize (ns.take (j + 1)).length = nv' at hv'
    subst hv'
    have B6 := O5.keep B5 (by decide) g6
    have K6 : Stays wz wb := by obtain ⟨css, ho5, _⟩ := O5; exact Stays.own ho5 (by decide) g6
    have H6 := H5.grown g6 (Nat.le_of_lt B5.lt) O5.base
    refine ord_one 8 (by kernel_rfl) ?_
    refine opw_run 8 (some 38) rfl rfl (by kernel_rfl) (exec_apG (.tmp 34) (.tmp 37) rfl rfl rfl rfl hr) ?_
    refine ⟨trivial, ?_⟩
    simp only [Act.put, lsA, lsB, lsC]
    refine held_seq hS 2 [9, 10] rfl (by kernel_rfl) (fun _ _ _ _ _ h => h) rfl rfl ?_
    (refine ⟨_, (.pointer (some ⟨g, 0, none⟩)), rfl, .inl ⟨rfl, fun V hV => rfl⟩, ?_⟩; simp only [Act.put, lsA, lsB, lsC])
    (refine ⟨_, (.pointer (some ⟨g, 10, none⟩)), rfl, .inl ⟨rfl, fun V hV => rfl⟩, ?_⟩; simp only [Act.put, lsA, lsB, lsC])
    simp only [SeqC]
    refine ord_one 11 (by kernel_rfl) ?_
    refine opw_stC 11 66 (.tmp 40) (.tmp 38) rfl rfl rfl (by kernel_rfl) g 10 rfl (.slice Av' nv' cv') rfl B6 (by rw [sg_len hT10]; omega) slI66 rfl rfl ?_
    intro w7 B7 g7 _
    have B7' : Blk w7 g 185 (T ++ sgM (.slice Av' nv' cv') nilS nilS nilS nilS gl none s0) := sg_put hT10 0 B7 rfl
    have K7 : Stays wb w7 := Stays.blk g7 B6 (by decide)
    have O7 : LOwn w7 g 26 1 (NmC w7) (.slice Av' nv' cv') (ns.take (j + 1)) := LOwn.stays (LOwn.blk O6 g7 B6 (by decide)) (fun _ x => x) (fun _ _ ⟨v, e, n⟩ => ⟨v, e, (n.stays K6).stays K7⟩)
    have H7 := below_grown H6 g7 (Nat.le_of_lt B6.lt) (Nat.le_refl _)
    refine ⟨trivial, ?_⟩
    simp only [Act.put, lsA, lsB, lsC]
    refine wpAnyH_done (by kernel_rfl) ?_ _
    go_wp2_with fail
    go_meet
    case rel => exact ⟨_, B7', Hh O7, H7⟩
   ·
    refine opw_call 6 (some 36) 73 #[.slice An nq cn] rfl rfl (by kernel_rfl) (by go_simp) CL1.out ?_
    rintro _ w3 ⟨A1, c1, rfl, ho3, b3⟩
    rw [HNQ.out] at ho3
    have LD3 := Hh (LK.out w3 b3)
    have kz : Below w3.heap.size w3 (w3.alloc (.cells #[.slice A1 nq c1] 26)) := (Below.refl _ _).alloc (Nat.le_refl _) _
    have kdz := below_then b3 b3.size kz
    have LDz := Hh (LK.out _ kdz)
    have RB1 := Hh (run_bsN A1 nq c1 w3)
    have Bz : Blk (w3.alloc (.cells #[.slice A1 nq c1] 26)) w3.heap.size 26 [.slice A1 nq c1] := Blk.new w3 26 [.slice A1 nq c1]
    have N3 : NmL w3 (.slice A1 nq c1) ns[j] := ⟨by have := own_zero ho3; unfold Txts; rw [HNQ.out]; exact this, by rw [HNQ.out]; exact hnl1, hll.out⟩
    have N5 := N3.stays (Stays.below kz)
    have B5 := Bd.below kdz Bd.lt
    have H5 := below_then Hd (Nat.le_of_lt Bd.lt) kdz
    have O5 := LOwn.below (R' := NmC (w3.alloc (.cells #[.slice A1 nq c1] 26))) Od.out kdz (fun _ _ ⟨v, e, n⟩ => ⟨v, e, n.stays (Stays.below kdz)⟩)
    refine ⟨_, by rw [HNQ.out], trivial, ?_⟩
    clear ho3 b3 kz kdz N3
    generalize w3.alloc (.cells #[.slice A1 nq c1] 26) = wz at *
    generalize w3.heap.size = gz at *
    simp only [Act.put, lsA, lsB, lsC]
    refine ord_two 4 7 (by kernel_rfl) ?_ ?_
    ·
     refine opw_ld 4 (some 34) 66 (.tmp 33) ⟨g, 10, none⟩ rfl rfl rfl rfl (by kernel_rfl) LD3.out ?_
     refine ⟨trivial, ?_⟩
     simp only [Act.put, lsA, lsB, lsC]
     refine ord_one 7 (by kernel_rfl) ?_
     refine opw_run 7 (some 37) rfl rfl (by kernel_rfl) (exec_bsV (.tmp 36) rfl rfl RB1.out) ?_
     refine ⟨trivial, ?_⟩
     simp only [Act.put, lsA, lsB, lsC]
     obtain ⟨v', wb, hr, O6, g6⟩ := run_appL (P := prog) wz 66 66 26 _ 1 24 underlying66 nmInfo3 (by kernel_rfl) (by decide) g vn (ns.take j) O5 (Nat.le_of_lt B5.lt) gz [.slice A1 nq c1] ns[j] Bz rfl (by simp [Value.oneCell']) ⟨_, rfl, N5⟩ (by simp only [maxLen, List.length_take]; omega) (by rw [List.length_take]; omega)
     rw [← List.take_succ_eq_append_getElem hlt] at O6
     obtain ⟨Av', cv', hv'⟩ := O6.form
     generalize (ns.take (j + 1)).length = nv' at hv'
     subst hv'
     have B6 := O5.keep B5 (by decide) g6
     have K6 : Stays wz wb := by obtain ⟨css, ho5, _⟩ := O5; exact Stays.own ho5 (by decide) g6
     have H6 := H5.grown g6 (Nat.le_of_lt B5.lt) O5.base
     refine ord_one 8 (by kernel_rfl) ?_
     refine opw_run 8 (some 38) rfl rfl (by kernel_rfl) (exec_apG (.tmp 34) (.tmp 37) rfl rfl rfl rfl hr) ?_
     refine ⟨trivial, ?_⟩
     simp only [Act.put, lsA, lsB, lsC]
     refine held_seq hS 2 [9, 10] rfl (by kernel_rfl) (fun _ _ _ _ _ h => h) rfl rfl ?_
     (refine ⟨_, (.pointer (some ⟨g, 0, none⟩)), rfl, .inl ⟨rfl, fun V hV => rfl⟩, ?_⟩; simp only [Act.put, lsA, lsB, lsC])
     (refine ⟨_, (.pointer (some ⟨g, 10, none⟩)), rfl, .inl ⟨rfl, fun V hV => rfl⟩, ?_⟩; simp only [Act.put, lsA, lsB, lsC])
     simp only [SeqC]
     refine ord_one 11 (by kernel_rfl) ?_
     refine opw_stC 11 66 (.tmp 40) (.tmp 38) rfl rfl rfl (by kernel_rfl) g 10 rfl (.slice Av' nv' cv') rfl B6 (by rw [sg_len hT10]; omega) slI66 rfl rfl ?_
     intro w7 B7 g7 _
     have B7' : Blk w7 g 185 (T ++ sgM (.slice Av' nv' cv') nilS nilS nilS nilS gl none s0) := sg_put hT10 0 B7 rfl
     have K7 : Stays wb w7 := Stays.blk g7 B6 (by decide)
     have O7 : LOwn w7 g 26 1 (NmC w7) (.slice Av' nv' cv') (ns.take (j + 1)) := LOwn.stays (LOwn.blk O6 g7 B6 (by decide)) (fun _ x => x) (fun _ _ ⟨v, e, n⟩ => ⟨v, e, (n.stays K6).stays K7⟩)
     have H7 := below_grown H6 g7 (Nat.le_of_lt B6.lt) (Nat.le_refl _)
     refine ⟨trivial, ?_⟩
     simp only [Act.put, lsA, lsB, lsC]
     refine wpAnyH_done (by kernel_rfl) ?_ _
     go_wp2_with fail
     go_meet
     case rel => exact ⟨_, B7', Hh O7, H7⟩
    ·
     refine opw_run 7 (some 37) rfl rfl (by kernel_rfl) (exec_bsV (.tmp 36) rfl rfl RB1.out) ?_
     refine ⟨trivial, ?_⟩
     simp only [Act.put, lsA, lsB, lsC]
     refine ord_one 4 (by kernel_rfl) ?_
     refine opw_ld 4 (some 34) 66 (.tmp 33) ⟨g, 10, none⟩ rfl rfl rfl rfl (by kernel_rfl) LDz.out ?_
     refine ⟨trivial, ?_⟩
     simp only [Act.put, lsA, lsB, lsC]
     obtain ⟨v', wb, hr, O6, g6⟩ := run_appL (P := prog) wz 66 66 26 _ 1 24 underlying66 nmInfo3 (by kernel_rfl) (by decide) g vn (ns.take j) O5 (Nat.le_of_lt B5.lt) gz [.slice A1 nq c1] ns[j] Bz rfl (by simp [Value.oneCell']) ⟨_, rfl, N5⟩ (by simp only [maxLen, List.length_take]; omega) (by rw [List.length_take]; omega)
     rw [← List.take_succ_eq_append_getElem hlt] at O6
     obtain ⟨Av', cv', hv'⟩ := O6.form
     generalize (ns.take (j + 1)).length = nv' at hv'
     subst hv'
     have B6 := O5.keep B5 (by decide) g6
     have K6 : Stays wz wb := by obtain ⟨css, ho5, _⟩ := O5; exact Stays.own ho5 (by decide) g6
     have H6 := H5.grown g6 (Nat.le_of_lt B5.lt) O5.base
     refine ord_one 8 (by kernel_rfl) ?_
     refine opw_run 8 (some 38) rfl rfl (by kernel_rfl) (exec_apG (.tmp 34) (.tmp 37) rfl rfl rfl rfl hr) ?_
     refine ⟨trivial, ?_⟩
     simp only [Act.put, lsA, lsB, lsC]
     refine held_seq hS 2 [9, 10] rfl (by kernel_rfl) (fun _ _ _ _ _ h => h) rfl rfl ?_
     (refine ⟨_, (.pointer (some ⟨g, 0, none⟩)), rfl, .inl ⟨rfl, fun V hV => rfl⟩, ?_⟩; simp only [Act.put, lsA, lsB, lsC])
     (refine ⟨_, (.pointer (some ⟨g, 10, none⟩)), rfl, .inl ⟨rfl, fun V hV => rfl⟩, ?_⟩; simp only [Act.put, lsA, lsB, lsC])
     simp only [SeqC]
     refine ord_one 11 (by kernel_rfl) ?_
     refine opw_stC 11 66 (.tmp 40) (.tmp 38) rfl rfl rfl (by kernel_rfl) g 10 rfl (.slice Av' nv' cv') rfl B6 (by rw [sg_len hT10]; omega) slI66 rfl rfl ?_
     intro w7 B7 g7 _
     have B7' : Blk w7 g 185 (T ++ sgM (.slice Av' nv' cv') nilS nilS nilS nilS gl none s0) := sg_put hT10 0 B7 rfl
     have K7 : Stays wb w7 := Stays.blk g7 B6 (by decide)
     have O7 : LOwn w7 g 26 1 (NmC w7) (.slice Av' nv' cv') (ns.take (j + 1)) := LOwn.stays (LOwn.blk O6 g7 B6 (by decide)) (fun _ x => x) (fun _ _ ⟨v, e, n⟩ => ⟨v, e, (n.stays K6).stays K7⟩)
     have H7 := below_grown H6 g7 (Nat.le_of_lt B6.lt) (Nat.le_refl _)
     refine ⟨trivial, ?_⟩
     simp only [Act.put, lsA, lsB, lsC]
     refine wpAnyH_done (by kernel_rfl) ?_ _
     go_wp2_with fail
     go_meet
     case rel => exact ⟨_, B7', Hh O7, H7⟩
  obtain ⟨vn', B7, O7, H7⟩ := hcut
  go_wp2_with fail
  go_roundw
  case rel => exact ⟨j + 1, vn', by omega, by go_num, B7, O7, H7⟩
  case measure => simp [intOf]; omega
 case neg =>
  have hlt' : ¬ (j : Int) < ns.length := by omega
  have hje : j = ns.length := by omega
  rw [hje, List.take_length] at HO
  have RO2 := RO1.out.below (by rw [HG.out]; exact HR)
  have hbg : b ≤ g := by omega
  have BA := below_then HW0.out HW0.out.size HBw
  have AT : SgAt w0 wr b g gl none s0 := ⟨⟨T, vn, nilS, nilS, nilS, nilS, none, ⟨BR, hT10⟩, by rw [← hs0.out]; exact RO2, by rw [← hs0.out]; exact LOwn.zero HO.out, by rw [← hs0.out]; exact ⟨World.ownsRow_nil _ _ _ _, by show (0 : Nat) ≤ 100000; omega, by intro l hl; cases hl⟩, by rw [← hs0.out]; exact LOwn.nil _ _ _ _ _, by rw [← hs0.out]; exact RRsOwn.nil _ _, by rw [← hs0.out]; exact World.ownsRow_nil _ _ _ _, by rw [← hs0.out]; trivial, by simp⟩, BA, h0b, hbg, hbl, by simp, by rw [← hs0.out]; show (0 : Nat) ≤ 65535; omega, by rw [← hs0.out]; exact heldR_len r⟩
  have GO := Hh (goOn_any w0 b g gl none s0 L [] nilS 0 0 0 wr AT (HLT.out.below HBw) (OusN.nil _ _) HII.out (by rw [← hs0.out]; rfl) (by omega) (by simp) (Nat.le_trans hbw HBw.size) (by rw [← hs0.out]; exact HNM.out))
  have hRR : Hid (goS (s0.nms.length + 1) s0 L [] = R) := Hh (by rw [← hR.out, ← hs0.out]; rfl)
  rw [hRR.out] at GO
  have FW := Hh (Fr.below (S := TyS w SgTy b) HBw)
  clear AT BA RO2 BR HO HR HBw
  go_wp2_with fail
  refine GO.out.mono ?_
  rintro _ w4 ⟨⟨v4, D4, rfl, q1, q2, q3, q4⟩, q5, q6, q7⟩
  have HQ := Hh (And.intro q1 (And.intro q2 (And.intro q3 (And.intro (Fr.transT FW.out q4) (And.intro q5 (And.intro q6 q7))))))
  clear GO q1 q2 q3 q4 q5 q6 q7
  go_wp2_with fail
  go_ret2
  obtain ⟨q1, q2, q3, q4, q5, q6, q7⟩ := HQ.out
  exact ⟨g, v4, D4, rfl, q1, q2, q3, q4, q5, q6, q7⟩
end Go.Proofs.YthnbcmlnpdabhaaGreat

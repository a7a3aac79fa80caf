/-
  Layer 32 (pair): Hear.
-/
import Derived.Test.YthnbcmlnpdabhaaGreatISq
namespace Go.Proofs.YthnbcmlnpdabhaaGreat
open _root_.Go.Proofs.Tryz
open Go.RowKit
set_option maxRecDepth 100000
set_option linter.unusedVariables false
set_option linter.unusedSimpArgs false
theorem PrAt.step {w0 w w' : World} {b g gl : Nat} {X : List (Nat × Option Nat)} {p : Pr} (h : PrAt w0 w b g gl X p) {L : Lt} (hl : LotAt w gl L) {i gx : Nat} {D D' : Option Nat} {x x' : Xc} (hX : X[i]? = some (gx, D)) (hx : p.bg[i]? = some x) (k : Fr (XS gx gl D) w w') (hat : XchgAt w' gx gl D' x') (hD : ∀ d, D' = some d → D = some d ∨ w.heap.size ≤ d) (hbw : b ≤ w.heap.size) :
  PrAt w0 w' b g gl (X.set i (gx, D')) { p with bg := p.bg.set i x' } ∧ Fr (TyS w XTy b) w w' := by
 obtain ⟨⟨T, vq, vb, a1, a2, a3, a4⟩, h5, h6, h7, h8, h9, h10⟩ := h
 obtain ⟨xa, xb, xd⟩ := h5.at_ i gx D x hX hx
 have F : Fr (TyS w XTy b) w w' := k.mono (XS.ty xa hl xb h9 xd (.inl rfl) (.inr (.inl rfl)) (.inr (.inr rfl)))
 have e : (X.set i (gx, D')).map (·.1) = X.map (·.1) := by
  rw [List.map_set]
  refine List.ext_getElem (by simp) (fun j h1 h2 => ?_)
  rw [List.getElem_set]
  split
  ·
   rename_i hj
   subst hj
   obtain ⟨hi, e⟩ := List.getElem?_eq_some_iff.1 hX
   rw [List.getElem_map, e]
  ·
   rfl
 exact ⟨⟨⟨T, vq, vb, ⟨F.blk a1.1 (TyS.not a1.1 (by unfold XTy; decide)), a1.2⟩, a2.fr F, QsC.fr a3 F, by rw [e]; exact a4.stays (fun _ x => F.ownT x (by unfold XTy; decide)) (fun _ _ x => x)⟩, h5.step hX hx hl k hat hD hbw, F.toBelowT h6 h6.size (by omega), h7, h8, h9, h10⟩, F⟩
theorem hearX_dn {x : Xc} (h : x.done = true) (L : Lt) (e : Ev) : hearX x L e = (x, L, []) := by unfold hearX; rw [if_pos h]
theorem PI.mid {p : Pr} {L : Lt} {tk k H : Nat} (h : PI p L tk k H) (ok : ∀ x ∈ p.bg, x.ok) (e : Ev) : ∀ i, i ≤ p.bg.length → (hearsX (p.bg.take i) L e).2.1.us ≤ L.us + 2 * i ∧ (hearsX (p.bg.take i) L e).2.1.ds = L.ds
 | 0, _ => ⟨Nat.le_refl _, rfl⟩
 | i + 1, hi => by
  obtain ⟨h1, h2⟩ := PI.mid h ok e i (by omega)
  rw [hears_take _ _ _ _ (by omega)]
  obtain ⟨_, y2, y3, _⟩ := (h.ea i _ (List.getElem?_eq_getElem (by omega))).hear (ok _ (List.getElem_mem (by omega))) (hearsX (p.bg.take i) L e).2.1 e p rfl rfl
  refine ⟨?_, ?_⟩
  ·
   show (hearX p.bg[i] (hearsX (p.bg.take i) L e).2.1 e).2.1.us ≤ _
   omega
  ·
   show (hearX p.bg[i] (hearsX (p.bg.take i) L e).2.1 e).2.1.ds = _
   rw [y3, h2]
theorem begin_len : ∀ (f : Nat) (p : Pr) (L : Lt) (o : List Ou), (beginP f p L o).2.2.length ≤ o.length + f
 | 0, p, L, o => Nat.le_refl _
 | f + 1, p, L, o => by
  unfold beginP
  split
  ·
   refine Nat.le_trans (begin_len f _ _ _) ?_
   have := exP_len p L
   rw [List.length_append]; omega
  ·
   show o.length ≤ _; omega
def midP (p : Pr) (L : Lt) (e : Ev) (i : Nat) : Pr := { p with bg := (hearsX (p.bg.take i) L e).1 ++ p.bg.drop i }
theorem mid_get (p : Pr) (L : Lt) (e : Ev) (i : Nat) (hi : i < p.bg.length) : (midP p L e i).bg[i]? = some p.bg[i] := by
 have hl : (hearsX (p.bg.take i) L e).1.length = i := by rw [hears_len, List.length_take]; omega
 unfold midP
 rw [List.getElem?_append_right (by omega), hl, Nat.sub_self, List.getElem?_drop, Nat.add_zero, List.getElem?_eq_getElem hi]
theorem mid_len (p : Pr) (L : Lt) (e : Ev) (i : Nat) (hi : i ≤ p.bg.length) : (midP p L e i).bg.length = p.bg.length := by
 unfold midP
 rw [List.length_append, hears_len, List.length_take, List.length_drop]; omega
theorem mid_dn (p : Pr) (L : Lt) (e : Ev) (i : Nat) (hi : i < p.bg.length) (hd : p.bg[i].done = true) : midP p L e (i + 1) = midP p L e i ∧ (hearsX (p.bg.take (i + 1)) L e).2 = (hearsX (p.bg.take i) L e).2 := by
 have e1 : hearsX (p.bg.take (i + 1)) L e = ((hearsX (p.bg.take i) L e).1 ++ [p.bg[i]], (hearsX (p.bg.take i) L e).2.1, (hearsX (p.bg.take i) L e).2.2) := by
  rw [hears_take _ _ _ _ hi]
  unfold stepX
  rw [hearX_dn hd, List.append_nil]
 refine ⟨?_, by rw [e1]⟩
 unfold midP
 rw [e1, List.drop_eq_getElem_cons hi, List.append_assoc]
 rfl
theorem mid_end (p : Pr) (L : Lt) (e : Ev) : midP p L e p.bg.length = heardP p L e := by
 unfold midP heardP
 rw [List.take_length, List.drop_length, List.append_nil]
def HyTy (t : TypeId) : Prop := XTy t ∨ OuTy t
theorem hy_no {t : TypeId} (h1 : t ≠ 177) (h2 : t ≠ 180) (h3 : t ≠ 152) (h4 : t ≠ 97) : ¬ HyTy t := by
 rintro ((h | h | h) | h)
 ·
  exact h1 h
 ·
  exact h2 h
 ·
  exact h3 h
 ·
  exact h4 h
theorem mid_set (p : Pr) (L : Lt) (e : Ev) (i : Nat) (hi : i < p.bg.length) : ({ midP p L e i with bg := (midP p L e i).bg.set i (hearX p.bg[i] (hearsX (p.bg.take i) L e).2.1 e).1 } : Pr) = midP p L e (i + 1) := by
 have hl : (hearsX (p.bg.take i) L e).1.length = i := by rw [hears_len, List.length_take]; omega
 have : (midP p L e i).bg.set i (hearX p.bg[i] (hearsX (p.bg.take i) L e).2.1 e).1 = (midP p L e (i + 1)).bg := by
  unfold midP
  simp only
  rw [List.set_append, if_neg (by omega), hl, Nat.sub_self, hears_take _ _ _ _ hi, List.drop_eq_getElem_cons hi]
  show _ ++ (_ :: p.bg.drop (i + 1)) = (_ ++ [_]) ++ p.bg.drop (i + 1)
  rw [List.append_assoc]; rfl
 rw [this]; rfl
set_option maxHeartbeats 4000000 in
theorem phear_any (w0 : World) (b g gl : Nat) (X : List (Nat × Option Nat)) (p : Pr) (L : Lt) (e : Ev) (tk k H : Nat) (w : World) (h : PrAt w0 w b g gl X p) (hl : LotAt w gl L) (hI : PI p L tk k H) (hgo : goP p) (hip : e.fr.ip.length = 16) (hH : H + e.data.length ≤ 8796093022208) (hk : k ≤ 90000) (hbw : b ≤ w.heap.size) (hnm : p.nm.length ≤ 100000) :
  Calls prog 65 #[.pointer (some ⟨g, 0, none⟩), .agg (evC e).toArray] w (PrRetI w0 b g gl (hearP p L e) (tk + if e.kind = 1 then 1 else 0) (k + 1) (H + e.data.length) w) := by
 have hel := evC_len hip
 have HX : Below w.heap.size w (w.alloc (.cells (evC e).toArray 42)) := (Below.refl _ _).alloc (Nat.le_refl _) _
 have E := Blk.new w 42 (evC e)
 have ok := h.xs.ok
 have hn2 : p.bg.length ≤ 2 := Nat.le_trans hI.bl hI.tl
 have MID := Hh (hI.mid ok e)
 have PH := Hh (hI.hears ok e hgo)
 obtain ⟨tk2, htk2⟩ : ∃ tk2, (tk + if e.kind = 1 then 1 else 0) = tk2 := ⟨_, rfl⟩
 rw [htk2] at PH ⊢
 clear htk2
 have EA := Hh hI.ea
 have hus := hI.us
 have hds := hI.ds
 have hel0 := Hh hip
 have HAT := Hh (h.below hbw HX)
 have HLT := Hh (hl.below HX)
 obtain ⟨⟨T, vq, vb, a1, a2, a3, a4⟩, h5, h6, h7, h8, h9, h10⟩ := h.below hbw HX
 obtain ⟨Ab, cb, hvb⟩ := a4.form
 subst hvb
 have hXl : (X.map (·.1)).length = p.bg.length := by rw [List.length_map, h5.ln]
 have d13 : (w.alloc (.cells (evC e).toArray 42)).cell? ⟨g, 13, none⟩ = some (.slice Ab (X.map (·.1)).length cb) := a1.c 3 rfl
 obtain ⟨n, hn⟩ : ∃ n, Hid (p.bg.length = n) := ⟨_, Hh rfl⟩
 rw [hXl, hn.out] at d13
 rw [hn.out] at hn2 hus
 obtain ⟨es, hes⟩ : ∃ es, evC e = es := ⟨_, rfl⟩
 have HE := Hh hes
 rw [hes] at E hel HAT HLT d13 HX a1 a2 a3 a4 h5 h6 ⊢
 clear hes
 obtain ⟨W, hW⟩ : ∃ W, Hid (w.alloc (.cells es.toArray 42) = W) := ⟨_, Hh rfl⟩
 have HW := Hh HX
 have HPT := Hh a4
 rw [hW.out] at HAT HLT E HW HPT
 have hbW : b ≤ W.heap.size := Nat.le_trans hbw HW.out.size
 have hbw' := hbw
 obtain ⟨G, hG⟩ : ∃ G, Hid (X.map (·.1) = G) := ⟨_, Hh rfl⟩
 rw [hG.out] at HPT
 have E0 := Hh E
 clear h hl hI a1 a2 a3 a4 h5 h6 h10 hXl HX hgo hbw E
 go_enter func65, ntmps65
 go_wp2_with fail
 rw [hW.out] at d13 ⊢
 go_loopw [5, 15] (fun ov iv wr => ∃ (i : Nat) (o : List Ou) (A1 : Option Addr) (c1 : Nat) (X1 : List (Nat × Option Nat)), i ≤ n ∧ iv = .int .i64 i ∧ ov = .slice A1 o.length c1 ∧ Hid (o = (hearsX (p.bg.take i) L e).2.2) ∧ o.length ≤ 2 * i ∧ Hid (OusN w.heap.size wr (.slice A1 o.length c1) o) ∧ Hid (PrAt w0 wr b g gl X1 (midP p L e i)) ∧ Hid (LotAt wr gl (hearsX (p.bg.take i) L e).2.1) ∧ Hid (X1.map (·.1) = G) ∧ Hid (Fr (TyS W HyTy b) W wr) ∧ Hid (Fr (TyS w PrTy b) w wr)) (fun _ iv _ => n - (intOf iv).toNat)
 case atStart => exact ⟨0, [], none, 0, X, Nat.zero_le _, rfl, rfl, Hh rfl, Nat.zero_le _, Hh (OusN.nil _ _), HAT, HLT, hG, Hh (Fr.refl _ _), Hh (Fr.below HW.out)⟩
 clear HAT HLT hG d13
 obtain ⟨i, o, A1, c1, X1, hi, rfl, rfl, HO, hol, HOU, HAT, HLT, HX1, HFR, HFW⟩ := hrel
 have hwr : w.heap.size ≤ wr.heap.size := HFW.out.size
 have hbwr : b ≤ wr.heap.size := Nat.le_trans hbw' hwr
 by_cases hlt : i < n
 case pos =>
  have hlt' : (i : Int) < n := by omega
  have hlp : i < p.bg.length := by rw [hn.out]; exact hlt
  have hml : i < (midP p L e i).bg.length := by rw [mid_len _ _ _ _ (by omega)]; exact hlp
  have PTr : PtL wr b (.slice Ab (X1.map (·.1)).length cb) (X1.map (·.1)) := by
   rw [HX1.out]
   exact HPT.out.stays (fun _ x => HFR.out.ownT x (hy_no (by decide) (by decide) (by decide) (by decide))) (fun _ _ x => x)
  obtain ⟨gs, off, gx, D, q1, q2, q3, q4, q5, q6, q7⟩ := xs_row PTr HAT.out.xs i hml
  have hge := mid_get p L e i hlp
  have hxe : (midP p L e i).bg[i] = p.bg[i] := by
   have := List.getElem?_eq_getElem hml
   rw [hge] at this
   injection this with this
   exact this.symm
  rw [hxe] at q5
  have DN := Hh (xdone_any q5)
  have ea := EA.out i p.bg[i] (List.getElem?_eq_getElem hlp)
  obtain ⟨m1, m2⟩ := MID.out i (by omega)
  have hxd := ea.hd
  have hxs := ea.s45
  have XC := Hh (xhear_any gx gl D p.bg[i] (hearsX (p.bg.take i) L e).2.1 e wr q5 HLT.out hel0.out (by omega) (by omega) (by rw [m2]; exact hds) (by omega))
  have MD := Hh (mid_dn p L e i hlp)
  have MS := Hh (mid_set p L e i hlp)
  have MT := Hh (hears_take p.bg L e i hlp)
  have HL6 := hearX_len p.bg[i] (hearsX (p.bg.take i) L e).2.1 e
  have HGE := Hh hge
  have HQ4 := Hh q4
  unfold XRet at XC
  rw [HE.out] at XC
  obtain ⟨x, hx⟩ : ∃ x, p.bg[i] = x := ⟨_, rfl⟩
  rw [hx] at DN XC MD MS MT HL6 HGE
  have EB := HFR.out.blk E0.out (TyS.not E0.out (hy_no (by decide) (by decide) (by decide) (by decide)))
  subst q1
  clear q2 q4 q5 q6 q7 hge hxe ea m1 m2 hxd hxs hx PTr hml hlp
  cases hd : x.done with
  | true =>
   rw [hd] at DN
   obtain ⟨e1, e2⟩ := MD.out hd
   have e3 : Hid (o = (hearsX (p.bg.take (i + 1)) L e).2.2) := Hh (by rw [e2]; exact HO.out)
   have e4 : Hid (PrAt w0 wr b g gl X1 (midP p L e (i + 1))) := Hh (by rw [e1]; exact HAT.out)
   have e5 : Hid (LotAt wr gl (hearsX (p.bg.take (i + 1)) L e).2.1) := Hh (by rw [e2]; exact HLT.out)
   clear e1 e2 hd MD MS MT XC HL6 HGE HQ4 EB
   go_wp2_with fail
   refine DN.out.mono ?_
   rintro _ w2 ⟨rfl, rfl⟩
   clear DN
   go_wp2_with fail
   go_roundw
   case rel => exact ⟨i + 1, o, A1, c1, X1, by omega, by go_num, rfl, e3, by omega, HOU, e4, e5, HX1, HFR, HFW⟩
   case measure => simp [intOf]; omega
  | false =>
   rw [hd] at DN
   obtain ⟨R, hR⟩ : ∃ R, Hid (hearX x (hearsX (p.bg.take i) L e).2.1 e = R) := ⟨_, Hh rfl⟩
   rw [hR.out] at XC MS HL6
   have e3 : Hid (o ++ R.2.2 = (hearsX (p.bg.take (i + 1)) L e).2.2) := Hh (by rw [MT.out, HO.out, ← hR.out]; rfl)
   have e5 : Hid (R.2.1 = (hearsX (p.bg.take (i + 1)) L e).2.1) := Hh (by rw [MT.out, ← hR.out]; rfl)
   clear hd MD MT hR
   go_wp2_with fail
   refine DN.out.mono ?_
   rintro _ w2 ⟨rfl, rfl⟩
   clear DN
   go_wp2_with (refine at_op (.load 42 (.tmp 3)) rfl ?_; go_must (refine wpList_ldB rfl _ _ rfl w.heap.size 0 rfl EB 22 (by omega) _ underlying42 rfl evI22 es (tk0 (by omega)) ?_))
   refine XC.out.mono ?_
   rintro _ w6 ⟨v6, D6, rfl, hO6, hX6, hL6, hF6, hD6⟩
   obtain ⟨A6, F6⟩ := HAT.out.step HLT.out HQ4.out HGE.out hF6 hX6 hD6 hbwr
   rw [MS.out] at A6
   have O6 := HOU.out.frY F6 (by unfold XTy; decide)
   have O6' := hO6.mono hwr
   have hmp : (X1.set i (gx, D6)).map (·.1) = G := by
    rw [← HX1.out, List.map_set]
    refine List.ext_getElem (by simp) (fun j h1 h2 => ?_)
    rw [List.getElem_set]
    split
    ·
     rename_i hj
     subst hj
     obtain ⟨hi', e⟩ := List.getElem?_eq_some_iff.1 HQ4.out
     rw [List.getElem_map, e]
    ·
     rfl
   have hmp' := Hh hmp
   have HA6 := Hh A6
   have HO6 := Hh O6
   have HO6' := Hh O6'
   have HF6 := Hh F6
   have HL6' := Hh hL6
   have hw6 : w.heap.size ≤ w6.heap.size := Nat.le_trans hwr F6.size
   have hoo : o.length + R.2.2.length ≤ 100000 := by omega
   clear XC MS HGE HQ4 EB hO6 hX6 hL6 hF6 hD6 A6 F6 O6 O6' HOU HAT HLT HX1 hmp
   go_wp2_with (at_builtin; go_must (refine wpList_appOu _ rfl (.tmp 22) (.tmp 25) rfl rfl rfl HO6.out HO6'.out hw6 hoo ?_))
   intro v' w7 ho7 hf7
   obtain ⟨A', c', hv', -, -⟩ := ho7.form
   have F7 : Fr (TyS w6 OuTy b) w6 w7 := hf7.mono (fun i hi => by obtain ⟨k1, k2⟩ := HO6.out.ownTy (p := OuTy) rfl i hi; exact ⟨by omega, k2⟩)
   have A7 := Hh (HA6.out.frT F7 (Nat.le_refl _) (by omega) (by unfold OuTy; decide) (by unfold OuTy; decide) (by unfold OuTy; decide) (by unfold OuTy; decide))
   have L7 : Hid (LotAt w7 gl (hearsX (p.bg.take (i + 1)) L e).2.1) := Hh (by rw [← e5.out]; exact HL6'.out.frT F7 (by unfold OuTy; decide))
   have FR7 : Hid (Fr (TyS W HyTy b) W w7) := Hh (Fr.transT HFR.out (Fr.transT (HF6.out.monoT (fun _ h => .inl h)) (F7.monoT (fun _ h => .inr h))))
   have FW7 : Hid (Fr (TyS w PrTy b) w w7) := Hh ((Fr.transT HFW.out (HF6.out.monoT x_pr)).trans hf7 (fun i hi c => by have := (HO6.out.ownTy (p := OuTy) rfl i c).1; omega))
   have O7 := Hh ho7
   have hol2 : (o ++ R.2.2).length ≤ 2 * (i + 1) := by rw [List.length_append]; omega
   subst hv'
   clear ho7 hf7 F7 HA6 HO6 HO6' HF6 HL6' HFR HFW HO
   go_wp2_with fail
   go_roundw
   case rel => exact ⟨i + 1, o ++ R.2.2, A', c', X1.set i (gx, D6), by omega, by go_num, rfl, e3, hol2, O7, A7, L7, hmp', FR7, FW7⟩
   case measure => simp [intOf]; omega
 have hlt' : ¬ (i : Int) < n := by omega
 obtain rfl : i = n := by omega
 have hte : p.bg.take i = p.bg := by rw [← hn.out, List.take_length]
 rw [hte] at HO HLT
 have hme : midP p L e i = heardP p L e := by rw [← hn.out]; exact mid_end p L e
 rw [hme] at HAT
 have BG := Hh (pbegin_any w0 b g gl X1 (heardP p L e) (hearsX p.bg L e).2.1 _ _ _ wr HAT.out HLT.out PH.out (by omega) hbwr hnm)
 unfold PrRetI PrRet at BG
 have HR : Hid (hearP p L e = ((beginP 3 (heardP p L e) (hearsX p.bg L e).2.1 []).1, (beginP 3 (heardP p L e) (hearsX p.bg L e).2.1 []).2.1, o ++ (beginP 3 (heardP p L e) (hearsX p.bg L e).2.1 []).2.2)) := Hh (by rw [HO.out]; rfl)
 have hbl : (beginP 3 (heardP p L e) (hearsX p.bg L e).2.1 []).2.2.length ≤ 3 := by have := begin_len 3 (heardP p L e) (hearsX p.bg L e).2.1 []; simpa using this
 generalize beginP 3 (heardP p L e) (hearsX p.bg L e).2.1 [] = B at *
 clear hte hme HAT HLT PH MID EA HPT HFR HX1 E0 HO
 go_wp2_with fail
 refine BG.out.mono ?_
 rintro _ w8 ⟨⟨v8, X8, rfl, o8, a8, l8, f8⟩, pi8, go8⟩
 have O8 := HOU.out.frY f8 (by unfold PrTy; decide)
 have O8' := o8.mono hwr
 have hw8 : w.heap.size ≤ w8.heap.size := Nat.le_trans hwr f8.size
 have HA8 := Hh a8
 have HL8 := Hh l8
 have HF8 := Hh (Fr.transT HFW.out f8)
 have HO8 := Hh O8
 have HO8' := Hh O8'
 have HP8 := Hh (And.intro pi8 go8)
 have hoo : o.length + B.2.2.length ≤ 100000 := by omega
 clear BG HOU HFW o8 a8 l8 f8 pi8 go8 O8 O8'
 go_wp2_with (at_builtin; go_must (refine wpList_appOu _ rfl (.tmp 28) (.tmp 30) rfl rfl rfl HO8.out HO8'.out hw8 hoo ?_))
 intro v' w9 ho9 hf9
 obtain ⟨A', c', hv', -, -⟩ := ho9.form
 have F9 : Fr (TyS w8 OuTy b) w8 w9 := hf9.mono (fun i hi => by obtain ⟨k1, k2⟩ := HO8.out.ownTy (p := OuTy) rfl i hi; exact ⟨by omega, k2⟩)
 have A9 := Hh (HA8.out.frT F9 (Nat.le_refl _) (by omega) (by unfold OuTy; decide) (by unfold OuTy; decide) (by unfold OuTy; decide) (by unfold OuTy; decide))
 have L9 := Hh (HL8.out.frT F9 (by unfold OuTy; decide))
 have FW9 : Hid (Fr (TyS w PrTy b) w w9) := Hh (HF8.out.trans hf9 (fun i hi c => by have := (HO8.out.ownTy (p := OuTy) rfl i c).1; omega))
 have O9 := Hh ho9
 subst hv'
 clear ho9 hf9 F9 HA8 HL8 HF8 HO8 HO8'
 go_wp2_with fail
 go_ret
 rw [HR.out]
 exact ⟨⟨_, X8, rfl, O9.out, A9.out, L9.out, FW9.out⟩, HP8.out⟩
def tysF (f : Int) : List Int := (if f = 6 then [] else [1]) ++ (if f = 4 then [] else [28])
theorem tysF_len (f : Int) : (tysF f).length ≤ 2 := by unfold tysF; split <;> split <;> simp
theorem bld_PrI (a b c d e f g h i j : Value) (turn : Int) (gl : Nat) (W : World) : (Instr.build 197 #[(0, .agg [a, b, c, d, e, f, g, h, i, j].toArray), (2, .int .i64 turn), (3, .pointer (some ⟨gl, 0, none⟩))]).run prog W = .ok (.agg (prC [a, b, c, d, e, f, g, h, i, j] nilS turn gl nilS).toArray) W := by kernel_rfl
theorem bld_Pr (T : List Value) (hT : T.length = 10) (turn : Int) (gl : Nat) (W : World) : (Instr.build 197 #[(0, .agg T.toArray), (2, .int .i64 turn), (3, .pointer (some ⟨gl, 0, none⟩))]).run prog W = .ok (.agg (prC T nilS turn gl nilS).toArray) W := by
 match T, hT with
 | [a, b, c, d, e, f, g, h, i, j], _ => exact bld_PrI ..
theorem qsI1 : (prog.info? 47).map (·.size) = some 1 := by kernel_rfl
theorem prC_set10 {T : List Value} (hT : T.length = 10) (vq : Value) (turn : Int) (gl : Nat) (vb v : Value) : (prC T vq turn gl vb).set 10 v = prC T v turn gl vb := by
 unfold prC
 rw [show (10 : Nat) = 10 + 0 from rfl, t10_set hT]
 rfl
theorem startP_I (r : Rs) (nm : List (List UInt8)) (tys : List Int) (turn : Int) (L : Lt) (k H : Nat) (ht : tys.length ≤ 2) (hu : L.us ≤ 4 * k) (hd : L.ds.length ≤ 17592186044416) : PI (startP r nm tys turn) L 0 k H :=
 ⟨ht, Nat.zero_le _, fun i x h => by simp [startP] at h, by show 0 + ticksR r * (tys.length - 0) ≤ ticksR r * tys.length - 0; rw [Nat.zero_add]; exact Nat.le_refl _, by show L.us ≤ 4 * k + 2 * 0; omega, hd⟩
def PnRet (w0 : World) (b gl : Nat) (R : PR) (k H : Nat) (w : World) (e : Ending) (w' : World) : Prop := ∃ g v X, e = .returned (.tuple #[.pointer (some ⟨g, 0, none⟩), v]) ∧ OusN w.heap.size w' v R.2.2 ∧ PrAt w0 w' b g gl X R.1 ∧ LotAt w' gl R.2.1 ∧ Fr (TyS w PrTy b) w w' ∧ PI R.1 R.2.1 0 k H ∧ goP R.1 ∧ w.heap.size ≤ g
set_option maxHeartbeats 4000000 in
theorem pnew_any' (w0 : World) (b gl : Nat) (cs : List Value) (r : Rs) (A : Option Addr) (c : Nat) (nm : List (List UInt8)) (fam turn : Int) (L : Lt) (k Hn : Nat) (w : World) (h : RsIs w0 cs r) (hw : Below w0.heap.size w0 w) (hN : NmR w A c nm) (hnl : nm.length ≤ 100000) (hl : LotAt w gl L) (hu : L.us ≤ 4 * k) (hk : k ≤ 90000) (hd : L.ds.length ≤ 17592186044416) (h0b : w0.heap.size ≤ b) (hbw : b ≤ w.heap.size) (hbl : b ≤ gl) :
  Calls prog 64 #[.agg cs.toArray, .slice A nm.length c, .int .i64 fam, .int .i64 turn, .pointer (some ⟨gl, 0, none⟩)] w (PnRet w0 b gl (newP r nm (tysF fam) turn L) k Hn w) := by
 have hcl := h.len
 have HB : Below w.heap.size w (w.alloc (.cells cs.toArray 69)) := (Below.refl _ _).alloc (Nat.le_refl _) _
 have B0 := Blk.new w 69 cs
 have HD := Hh (fun W (hb : Below w.heap.size w W) => setHeld_any w0 cs r W h (below_then hw hw.size hb))
 have RB : Hid (∀ W, (Instr.build 171 #[(0, .agg cs.toArray)]).run prog W = .ok (.agg (cs ++ [nilS, nilS, nilS]).toArray) W) := Hh (fun W => by obtain ⟨A1, c1, A2, c2, A3, c3, rfl, _⟩ := h; exact rs_build ..)
 have CL := Hh (fun V (hV : Below w.heap.size w V) => clone_any A c nm V (hN.below hV) hnl)
 have hll : Hid (∀ l ∈ nm, l.length ≤ 140737488355328) := Hh hN.2.2.2
 have HLT := Hh hl
 have HW0 := Hh hw
 have HRL := Hh (heldR_len r)
 have HSI := Hh (startP_I (heldR r) nm (tysF fam) turn L k Hn (tysF_len fam) hu hd)
 obtain ⟨R, hR⟩ : ∃ R, Hid (newP r nm (tysF fam) turn L = R) := ⟨_, Hh rfl⟩
 rw [hR.out]
 obtain ⟨nn, hnn⟩ : ∃ nn, nm.length = nn := ⟨_, rfl⟩
 rw [hnn] at CL ⊢
 have HNN := Hh hnn
 unfold CloneRet at CL
 have hnn2 : nn ≤ 100000 := by omega
 clear h hN hl hu hd hw hnn hnl
 go_enter func64, ntmps64
 go_wp2_with (first
  | (refine at_op (.load 69 (.tmp 5)) rfl ?_; go_must (refine wpList_ldB rfl _ _ rfl w.heap.size 0 rfl B0 10 (by omega) _ underlying69 rfl rsI10 cs (tk0 (by omega)) ?_))
  | (refine at_op (.build 171 #[(0, .tmp 13)]) rfl ?_; go_must (refine wpList_bld rfl 171 _ rfl #[(0, .agg cs.toArray)] (by simp [Act.eval, Act.put]) (RB.out _) ?_)))
 refine (HD.out _ HB).mono ?_
 rintro _ w1 ⟨T, u1, u2, u3, rfl, RO, b1⟩
 have hT10 := RO.len
 have H1 := below_then HB HB.size b1
 have RBS := Hh (fun V => bld_Pr T hT10 turn gl V)
 have RO1 := Hh RO
 obtain ⟨L0, hL0⟩ : ∃ L0, Hid (prC T nilS turn gl nilS = L0) := ⟨_, Hh rfl⟩
 rw [hL0.out] at RBS
 have SL0 : L0.length = 14 := by rw [← hL0.out]; exact prC_len hT10 ..
 clear HB B0 HD RB RO b1
 have B2 := Blk.new w1 197 L0
 have H2 : Below w1.heap.size w1 (w1.alloc (.cells L0.toArray 197)) := (Below.refl _ _).alloc (Nat.le_refl _) _
 have hgw : w.heap.size ≤ w1.heap.size := H1.size
 have CL2 := Hh (CL.out _ (below_then H1 H1.size H2))
 rw [HNN.out] at CL2
 have H1' := Hh H1
 clear H1 CL
 go_wp2_with (first
  | (refine at_op (.field 171 (.tmp 15) 0) rfl ?_; go_must (refine wpList_fld rfl 171 (.tmp 15) 0 rfl rfl (fill_10 T hT10 u1 u2 u3 _) ?_))
  | (refine at_op (.build 197 #[(0, .tmp 16), (2, .tmp 17), (3, .tmp 18)]) rfl ?_; go_must (refine wpList_bld rfl 197 _ rfl #[(0, .agg T.toArray), (2, .int .i64 turn), (3, .pointer (some ⟨gl, 0, none⟩))] (by simp [Act.eval, Act.put]) (RBS.out _) ?_)))
 refine CL2.out.mono ?_
 rintro _ w3 ⟨An, cn, rfl, ho3, b3⟩
 have N3 : NmL w3 (.slice An nn cn) nm := ⟨by have := own_zero ho3; unfold Txts; rw [HNN.out]; exact this, by rw [HNN.out]; exact hnn2, hll.out⟩
 have B3 := B2.below b3 B2.lt
 have H3 := below_then H2 H2.size b3
 obtain ⟨g, hg⟩ : ∃ g, w1.heap.size = g := ⟨_, rfl⟩
 rw [hg, ← hL0.out] at B3
 rw [hg] at H3 hgw ⊢
 have HG := Hh hg
 have HN3 := Hh N3
 clear B2 H2 b3 CL2 RBS ho3 N3 hg SL0 hL0
 go_upto_if 24 with fail
 go_cut [] (fun wx => ∃ Aq cq l, Blk wx g 197 (prC T (.slice Aq (l : List Qn).length cq) turn gl nilS) ∧ Hid (LOwn wx g 28 3 (QI wx) (.slice Aq l.length cq) l) ∧ Hid (NmL wx (.slice An nn cn) nm) ∧ Below g w1 wx ∧ Hid (l = (if fam = 6 then [] else [⟨nm, 1, 1⟩])) ∧ l.length ≤ 1)
 case first =>
  by_cases h6 : fam = 6
  case pos =>
   subst h6
   go_wp2_with fail
   go_meet
   case rel => exact ⟨none, 0, [], B3, Hh (LOwn.nil _ _ _ _ _), HN3, H3, Hh rfl, Nat.zero_le _⟩
  case neg =>
   have h6' : (fam != 6) = true := by simpa using h6
   have h66 := Hh h6
   have HQ : Hid (LOwn w3 g 28 3 (QI w3) (.slice none ([] : List Qn).length 0) []) := Hh (LOwn.nil _ _ _ _ _)
   have B := B3
   have H := H3
   have HN := HN3
   have hlz : ([] : List Qn).length ≤ 1 := Nat.zero_le _
   have d10 : w3.cell? ⟨g, 10, none⟩ = some nilS := PrK.c ⟨B3, hT10⟩ 0 rfl
   clear B3 H3 HN3
   go_wp2_with (first
    | (refine at_op (.build 28 #[(0, .tmp 30), (1, .const (.int .i64 1)), (2, .const (.int .i64 1))]) rfl ?_; go_must (refine wpList_bld rfl 28 _ rfl #[(0, .slice An nn cn), (1, .int .i64 1), (2, .int .i64 1)] (by simp [Act.eval, Act.put]) (run_bq3 An nn cn 1 _) ?_))
    | (refine at_op (.buildSlice 47 1 #[(0, .tmp 31)]) rfl ?_; go_must (refine wpList_bsN rfl 47 28 _ 3 40 underlying47 qInfo3 (by decide) (by decide) (.tmp 31) rfl [.slice An nn cn, .int .i64 1, .int .i64 1] rfl rfl ?_)))
   intro wz Bz kz
   have Nz := HN.out.stays (Stays.below kz)
   have Qz := LOwn.below (R' := QI wz) HQ.out kz (fun _ _ ⟨v, e, n⟩ => ⟨v, e, n.stays (Stays.below kz)⟩)
   have hne := LOwn.ne HQ.out (Nat.le_refl _)
   have Pz := B.below kz B.lt
   have Hz := below_then H (Nat.le_of_lt B.lt) kz
   have QIz : QI wz [.slice An nn cn, .int .i64 1, .int .i64 1] ⟨nm, 1, 1⟩ := ⟨.slice An nn cn, rfl, Nz⟩
   have HPz := Hh Pz
   have HHz := Hh Hz
   have HQz := Hh Qz
   have HNz := Hh Nz
   clear kz Pz Hz Qz Nz B H HQ HN d10
   go_wp2_with (at_builtin; go_must (refine wpList_app1 _ rfl (.tmp 29) (.tmp 32) 47 rfl 28 _ 3 40 underlying47 qInfo3 (by kernel_rfl) (by decide) (R := QI wz) g _ ([] : List Qn) rfl HQz.out (Nat.le_of_lt HPz.out.lt) _ [.slice An nn cn, .int .i64 1, .int .i64 1] ⟨nm, 1, 1⟩ rfl Bz hne rfl (by simp [Value.oneCell']) QIz (by simp only [maxLen]; omega) (by omega) ?_))
   intro v' wa Oa ga
   have Ka : Stays wz wa := by obtain ⟨css, ho5, _⟩ := HQz.out; exact Stays.own ho5 (by decide) ga
   have Na := HNz.out.stays Ka
   have Qa : LOwn wa g 28 3 (QI wa) v' (([] : List Qn) ++ [⟨nm, 1, 1⟩]) := Oa.stays (R' := QI wa) (fun _ x => x) (fun _ _ ⟨v, e, n⟩ => ⟨v, e, n.stays Ka⟩)
   have Pa : Blk wa g 197 (prC T (.slice none (([] : List Qn)).length 0) turn gl nilS) := LOwn.keep HQz.out HPz.out (by decide) ga
   have Ha := HHz.out.grown ga (Nat.le_of_lt HPz.out.lt) HQz.out.base
   obtain ⟨A', c', hv'⟩ := Qa.form
   obtain ⟨l2, hl2⟩ : ∃ l2, Hid (([] : List Qn) ++ [⟨nm, 1, 1⟩] = l2) := ⟨_, Hh rfl⟩
   rw [hl2.out] at Qa hv'
   subst hv'
   obtain ⟨La, hLa⟩ : ∃ La, Hid (prC T (.slice none (([] : List Qn)).length 0) turn gl nilS = La) := ⟨_, Hh rfl⟩
   have SLa : La.length = 14 := by rw [← hLa.out]; exact prC_len hT10 ..
   rw [hLa.out] at Pa
   have HQa := Hh Qa
   have HNa := Hh Na
   have HHa := Hh Ha
   clear HPz HHz HQz HNz Oa ga Ka Na Qa Ha Bz hne QIz
   go_wp2_with (refine at_op (.store 47 (.tmp 35) (.tmp 33)) rfl ?_; go_must (refine wpList_stC rfl 47 (.tmp 35) (.tmp 33) rfl g 10 rfl (.slice A' l2.length c') rfl Pa (by rw [SLa]; decide) qsI1 rfl rfl ?_))
   intro wb Bb gb sw
   clear sw
   rw [← hLa.out, prC_set10 hT10] at Bb
   have Kb : Stays wa wb := Stays.blk gb Pa (by decide)
   have Nb := Hh (HNa.out.stays Kb)
   have Qb : Hid (LOwn wb g 28 3 (QI wb) (.slice A' l2.length c') l2) := Hh ((HQa.out.blk gb Pa (by decide)).stays (R' := QI wb) (fun _ x => x) (fun _ _ ⟨v, e, n⟩ => ⟨v, e, n.stays Kb⟩))
   have Hb := below_grown HHa.out gb (Nat.le_of_lt Pa.lt) (Nat.le_refl _)
   have hl2' := hl2.out
   have hl2n : l2.length ≤ 1 := by rw [← hl2.out]; exact Nat.le_refl 1
   go_wp2_with fail
   go_meet
   case rel => exact ⟨A', c', l2, Bb, Qb, Nb, Hb, Hh (by rw [if_neg h66.out, ← hl2.out]; rfl), hl2n⟩
 obtain ⟨Aq, cq, l, B, HQ, HN, H, HLQ, hl1⟩ := hcut
 obtain ⟨w4, rfl⟩ : ∃ w4, w4 = wc := ⟨_, rfl⟩
 clear B3 H3 HN3
 go_upto_if 37 with fail
 go_cut [] (fun wx => ∃ Aq cq l, Blk wx g 197 (prC T (.slice Aq (l : List Qn).length cq) turn gl nilS) ∧ Hid (LOwn wx g 28 3 (QI wx) (.slice Aq l.length cq) l) ∧ Hid (NmL wx (.slice An nn cn) nm) ∧ Below g w1 wx ∧ Hid (l = (tysF fam).map (fun t => ⟨nm, t, 1⟩)))
 case first =>
  by_cases h4 : fam = 4
  case pos =>
   subst h4
   have HL3 : Hid (l = (tysF 4).map (fun t => ⟨nm, t, 1⟩)) := Hh (by rw [HLQ.out]; rfl)
   go_wp2_with fail
   go_meet
   case rel => exact ⟨Aq, cq, l, B, HQ, HN, H, HL3⟩
  case neg =>
   have h4' : (fam != 4) = true := by simpa using h4
   have h44 := Hh h4
   have d10 : w4.cell? ⟨g, 10, none⟩ = some (.slice Aq l.length cq) := PrK.c ⟨B, hT10⟩ 0 rfl
   go_wp2_with (first
    | (refine at_op (.build 28 #[(0, .tmp 43), (1, .const (.int .i64 28)), (2, .const (.int .i64 1))]) rfl ?_; go_must (refine wpList_bld rfl 28 _ rfl #[(0, .slice An nn cn), (1, .int .i64 28), (2, .int .i64 1)] (by simp [Act.eval, Act.put]) (run_bq3 An nn cn 28 _) ?_))
    | (refine at_op (.buildSlice 47 1 #[(0, .tmp 44)]) rfl ?_; go_must (refine wpList_bsN rfl 47 28 _ 3 40 underlying47 qInfo3 (by decide) (by decide) (.tmp 44) rfl [.slice An nn cn, .int .i64 28, .int .i64 1] rfl rfl ?_)))
   intro wz Bz kz
   have Nz := HN.out.stays (Stays.below kz)
   have Qz := LOwn.below (R' := QI wz) HQ.out kz (fun _ _ ⟨v, e, n⟩ => ⟨v, e, n.stays (Stays.below kz)⟩)
   have hne := LOwn.ne HQ.out (Nat.le_refl _)
   have Pz := B.below kz B.lt
   have Hz := below_then H (Nat.le_of_lt B.lt) kz
   have QIz : QI wz [.slice An nn cn, .int .i64 28, .int .i64 1] ⟨nm, 28, 1⟩ := ⟨.slice An nn cn, rfl, Nz⟩
   have HPz := Hh Pz
   have HHz := Hh Hz
   have HQz := Hh Qz
   have HNz := Hh Nz
   clear kz Pz Hz Qz Nz B H HQ HN d10
   go_wp2_with (at_builtin; go_must (refine wpList_app1 _ rfl (.tmp 42) (.tmp 45) 47 rfl 28 _ 3 40 underlying47 qInfo3 (by kernel_rfl) (by decide) (R := QI wz) g _ l rfl HQz.out (Nat.le_of_lt HPz.out.lt) _ [.slice An nn cn, .int .i64 28, .int .i64 1] ⟨nm, 28, 1⟩ rfl Bz hne rfl (by simp [Value.oneCell']) QIz (by simp only [maxLen]; omega) (by omega) ?_))
   intro v' wa Oa ga
   have Ka : Stays wz wa := by obtain ⟨css, ho5, _⟩ := HQz.out; exact Stays.own ho5 (by decide) ga
   have Na := HNz.out.stays Ka
   have Qa : LOwn wa g 28 3 (QI wa) v' (l ++ [⟨nm, 28, 1⟩]) := Oa.stays (R' := QI wa) (fun _ x => x) (fun _ _ ⟨v, e, n⟩ => ⟨v, e, n.stays Ka⟩)
   have Pa : Blk wa g 197 (prC T (.slice Aq (l).length cq) turn gl nilS) := LOwn.keep HQz.out HPz.out (by decide) ga
   have Ha := HHz.out.grown ga (Nat.le_of_lt HPz.out.lt) HQz.out.base
   obtain ⟨A', c', hv'⟩ := Qa.form
   obtain ⟨l2, hl2⟩ : ∃ l2, Hid (l ++ [⟨nm, 28, 1⟩] = l2) := ⟨_, Hh rfl⟩
   rw [hl2.out] at Qa hv'
   subst hv'
   obtain ⟨La, hLa⟩ : ∃ La, Hid (prC T (.slice Aq (l).length cq) turn gl nilS = La) := ⟨_, Hh rfl⟩
   have SLa : La.length = 14 := by rw [← hLa.out]; exact prC_len hT10 ..
   rw [hLa.out] at Pa
   have HQa := Hh Qa
   have HNa := Hh Na
   have HHa := Hh Ha
   clear HPz HHz HQz HNz Oa ga Ka Na Qa Ha Bz hne QIz
   go_wp2_with (refine at_op (.store 47 (.tmp 48) (.tmp 46)) rfl ?_; go_must (refine wpList_stC rfl 47 (.tmp 48) (.tmp 46) rfl g 10 rfl (.slice A' l2.length c') rfl Pa (by rw [SLa]; decide) qsI1 rfl rfl ?_))
   intro wb Bb gb sw
   clear sw
   rw [← hLa.out, prC_set10 hT10] at Bb
   have Kb : Stays wa wb := Stays.blk gb Pa (by decide)
   have Nb := Hh (HNa.out.stays Kb)
   have Qb : Hid (LOwn wb g 28 3 (QI wb) (.slice A' l2.length c') l2) := Hh ((HQa.out.blk gb Pa (by decide)).stays (R' := QI wb) (fun _ x => x) (fun _ _ ⟨v, e, n⟩ => ⟨v, e, n.stays Kb⟩))
   have Hb := below_grown HHa.out gb (Nat.le_of_lt Pa.lt) (Nat.le_refl _)
   have HL3 : Hid (l2 = (tysF fam).map (fun t => ⟨nm, t, 1⟩)) := Hh (by
    rw [← hl2.out, HLQ.out]
    unfold tysF
    rw [if_neg h44.out]
    split <;> rfl)
   go_wp2_with fail
   go_meet
   case rel => exact ⟨A', c', l2, Bb, Qb, Nb, Hb, HL3⟩
 obtain ⟨Aq2, cq2, l2, B2, HQ2, HN2, H2, HL2⟩ := hcut
 obtain ⟨w5, rfl⟩ : ∃ w5, w5 = wc := ⟨_, rfl⟩
 have HBw : Below w.heap.size w w5 := by
  refine H1'.out.trans ?_
  exact H2.mono hgw
 have RO2 := RO1.out.below (by rw [HG.out]; exact H2)
 have BA := below_then HW0.out HW0.out.size HBw
 have hbg : b ≤ g := by omega
 have hbw5 : b ≤ w5.heap.size := Nat.le_trans hbw HBw.size
 have AT : PrAt w0 w5 b g gl [] (startP (heldR r) nm (tysF fam) turn) := ⟨⟨T, _, nilS, ⟨B2, hT10⟩, RO2, by show QsC w5 _ ((tysF fam).map (fun t => ⟨nm, t, 1⟩)); rw [← HL2.out]; exact LOwn.zero HQ2.out, LOwn.nil _ _ _ _ _⟩, XsAt.nil _ _ _, BA, h0b, hbg, hbl, HRL.out⟩
 have BG := Hh (pbegin_any w0 b g gl [] (startP (heldR r) nm (tysF fam) turn) L 0 k Hn w5 AT (HLT.out.below HBw) HSI.out (by omega) hbw5 (by show nm.length ≤ 100000; rw [HNN.out]; exact hnn2))
 have hRR : Hid (beginP 3 (startP (heldR r) nm (tysF fam) turn) L [] = R) := Hh (by rw [← hR.out]; rfl)
 rw [hRR.out] at BG
 unfold PrRetI PrRet at BG
 have FB := Hh (Fr.below (S := TyS w PrTy b) HBw)
 clear AT BA RO2 B2 HQ2 HN2 H2 HL2 HSI HLT HBw
 go_wp2_with fail
 refine BG.out.mono ?_
 rintro _ w6 ⟨⟨v6, X6, rfl, o6, a6, l6, f6⟩, pi6, go6⟩
 have HF := Hh (Fr.transT FB.out f6)
 have HQ := Hh (And.intro (o6.mono FB.out.size) (And.intro a6 (And.intro l6 (And.intro pi6 go6))))
 clear BG o6 a6 l6 f6 pi6 go6
 go_wp2_with fail
 go_ret2
 obtain ⟨o6, a6, l6, pi6, go6⟩ := HQ.out
 exact ⟨g, v6, X6, rfl, o6, a6, l6, HF.out, pi6, go6, hgw⟩
end Go.Proofs.YthnbcmlnpdabhaaGreat

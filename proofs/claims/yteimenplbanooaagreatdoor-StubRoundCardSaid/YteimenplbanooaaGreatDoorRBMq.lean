/-
  Layer 18 (hosts): has, Find.
-/
import Derived.Test.YteimenplbanooaaGreatDoorRASq
import Derived.Test.YteimenplbanooaaGreatDoorRBLq
namespace Go.Proofs.YteimenplbanooaaGreatDoor
open _root_.Go.Proofs.Tryz
open Go.RowKit
set_option maxRecDepth 100000
set_option linter.unusedVariables false
set_option linter.unusedSimpArgs false
def hasP (h : Hst) (n : List (List UInt8)) : Bool := h.ns.any (fun m => decide (lowN m = lowN n))
structure HstF (h : Hst) : Prop where
 ad : adF h.ad
 n1 : 1 ≤ h.ns.length
 nl : h.ns.length ≤ 17592186044416
 nn : ∀ n ∈ h.ns, n.length ≤ 100000
theorem hstOk_f {h : Hst} (h0 : hstOk h = true) (hip : h.ad.ip.length = 16) (hl : h.ns.length ≤ 17592186044416) (hn : ∀ n ∈ h.ns, nmOk n = true) : HstF h := by
 unfold hstOk at h0
 simp only [Bool.and_eq_true, decide_eq_true_eq] at h0
 refine ⟨?_, h0.2, hl, fun n hx => ?_⟩
 ·
  have h1 : h.ad.check = 0 := by simpa [adOk] using h0.1
  unfold Adr.check at h1
  split at h1
  ·
   rename_i h4
   split at h1
   ·
    rename_i h5; exact ⟨.inl h4, by omega, hip⟩
   ·
    cases h1
  ·
   split at h1
   ·
    rename_i h6
    split at h1
    ·
     cases h1
    ·
     rename_i h7; exact ⟨.inr h6, by omega, hip⟩
   ·
    cases h1
 ·
  have h2 := hn n hx
  unfold nmOk at h2
  simp only [Bool.and_eq_true, decide_eq_true_eq, beq_iff_eq] at h2
  have := (checkN_ok h2.2).2
  have := lsum_ge n
  omega
theorem hhas_any (w0 : World) (cs : List Value) (h : Hst) (A : Option Addr) (c : Nat) (n : List (List UInt8)) (w : World) (x : HstO w0 w cs h) (hw : Below w0.heap.size w0 w) (hN : NmR w A c n) (hf : HstF h) :
  Calls prog 239 #[.agg cs.toArray, .slice A n.length c] w (RetB (.bool (hasP h n)) w) := by
 have hcl := x.len
 have HX : Below w.heap.size w (w.alloc (.cells cs.toArray 196)) := (Below.refl _ _).alloc (Nat.le_refl _) _
 have X := Blk.new w 196 cs
 obtain ⟨v, hcc, hip, hO⟩ := x
 obtain ⟨Al, cl, hv⟩ := hO.form
 subst hv
 have hnl := hf.nl
 have d18 := X.cell_ 18 (u := .slice Al h.ns.length cl) (by rw [hcc, List.getElem?_append_right (by rw [h.ad.cells_len hip]; omega), h.ad.cells_len hip]; rfl)
 have LI := Hh (hO.lin (fun _ _ ⟨_, _, h, _⟩ => by rw [h]; rfl))
 have HN := Hh hN
 have HW := Hh hw
 obtain ⟨R, hR⟩ : ∃ R, Hid (hasP h n = R) := ⟨_, Hh rfl⟩
 have HT := Hh (fun k (hk : k < h.ns.length) (e : lowN h.ns[k] = lowN n) => (show R = true by rw [← hR.out]; exact List.any_eq_true.2 ⟨_, List.getElem_mem hk, by simpa using e⟩))
 have HFl := Hh (fun (e : ∀ k (hk : k < h.ns.length), ¬ lowN h.ns[k] = lowN n) => (show R = false by
  rw [← hR.out]
  refine List.any_eq_false.2 fun m hm => ?_
  obtain ⟨k, hk, rfl⟩ := List.getElem_of_mem hm
  simpa using e k hk))
 rw [hR.out]
 clear hO hN hw hcc hip hR hf
 generalize h.ns = l at *
 go_enter func239, ntmps239
 go_wp2_with fail
 obtain ⟨W, hW⟩ : ∃ W, Hid (w.alloc (.cells cs.toArray 196) = W) := ⟨_, Hh rfl⟩
 rw [hW.out] at d18 HX ⊢
 clear X hW
 go_loopw [10] (fun iv wr => ∃ k : Nat, k ≤ l.length ∧ iv = .int .i64 k ∧ Hid (∀ i (hi : i < l.length), i < k → ¬ lowN l[i] = lowN n) ∧ Below w.heap.size w wr) (fun iv _ => l.length - (intOf iv).toNat)
 case atStart => exact ⟨0, Nat.zero_le _, rfl, Hh (fun i hi c => absurd c (by omega)), HX⟩
 obtain ⟨k, hk, rfl, HS, HB⟩ := hrel
 by_cases hlt : k < l.length
 case neg =>
  have hlt' : ¬ (k : Int) < l.length := by omega
  have hRf := Hh (HFl.out (fun i hi => HS.out i hi (by omega)))
  clear HS HFl HT LI
  go_wp2_with fail
  go_ret
  exact RetB.mk (by rw [hRf.out]; rfl) HB
 have hlt' : (k : Int) < l.length := by omega
 obtain ⟨b, off, rfl, hb, hr⟩ := LI.out (by omega)
 obtain ⟨cs0, hcs0, An, cn, rfl, hnm⟩ := hr k hlt
 have ce := (HB.cell (p := ⟨b, off + k, none⟩) hb).trans (by simpa using hcs0 0 _ rfl)
 have DS := Hh (dsame_any An A l[k] n cn c wr (hnm.below (below_then HW.out HW.out.size HB)) (HN.out.below HB))
 have hn1 := hnm.2.2.1
 have HTk := Hh (HT.out k hlt)
 have HSk : Hid (¬ lowN l[k] = lowN n → ∀ i (hi : i < l.length), i < k + 1 → ¬ lowN l[i] = lowN n) := Hh (fun e i hi c => by
  by_cases q : i = k
  ·
   subst q; exact e
  ·
   exact HS.out i hi (by omega))
 clear hnm hr hcs0 HT HS
 generalize l[k].length = nk at *
 go_wp2_with fail
 refine DS.out.mono ?_
 rintro _ w5 ⟨rfl, b5⟩
 have HB5 := below_then HB HB.size b5
 clear DS b5 HB ce
 by_cases hq : lowN l[k] = lowN n
 ·
  have hRt := Hh (HTk.out hq)
  rw [decide_eq_true hq]
  clear hq HTk HSk HFl
  go_wp2_with fail
  go_ret
  exact RetB.mk (by rw [hRt.out]; rfl) HB5
 ·
  have HS2 := Hh (HSk.out hq)
  rw [decide_eq_false hq]
  clear hq HTk HSk
  go_wp2_with fail
  go_roundw
  case rel => exact ⟨k + 1, by omega, by go_num, HS2, HB5⟩
  case measure => simp [intOf]; omega
theorem headD_get {α : Type} {l : List α} (d : α) (h : 0 < l.length) : l.headD d = l[0] := by cases l with | nil => simp at h | cons x l => rfl
def isH (n : List (List UInt8)) (fam : Int) (h : Hst) : Bool := (decide (fam = 0) || decide (h.ad.fam = fam)) && hasP h n
def stepH (n : List (List UInt8)) (fam : Int) (s : List Adr × List (List UInt8)) (h : Hst) : List Adr × List (List UInt8) := if isH n fam h then (if h.ad ∈ s.1 then s.1 else s.1 ++ [h.ad], if s.1 = [] then h.ns.headD [] else s.2) else s
def findP (l : List Hst) (n : List (List UInt8)) (fam : Int) : List Adr × List (List UInt8) := l.foldl (stepH n fam) ([], [])
theorem find_take (l : List Hst) (n : List (List UInt8)) (fam : Int) (k : Nat) (hk : k < l.length) : findP (l.take (k + 1)) n fam = stepH n fam (findP (l.take k) n fam) l[k] := by
 unfold findP
 rw [List.take_succ_eq_append_getElem hk, List.foldl_append]; rfl
theorem find_len (n : List (List UInt8)) (fam : Int) : ∀ (l : List Hst), (findP l n fam).1.length ≤ l.length := by
 have key : ∀ (l : List Hst) (s : List Adr × List (List UInt8)), (l.foldl (stepH n fam) s).1.length ≤ s.1.length + l.length := by
  intro l
  induction l with
  | nil => intro s; exact Nat.le_refl _
  | cons h l ih =>
   intro s
   rw [List.foldl_cons]
   refine Nat.le_trans (ih _) ?_
   have : (stepH n fam s h).1.length ≤ s.1.length + 1 := by
    unfold stepH
    split
    ·
     simp only; split
     ·
      omega
     ·
      simp
    ·
     omega
   rw [List.length_cons]; omega
 intro l
 have := key l ([], [])
 simpa [findP] using this
def HfRet (R : List Adr × List (List UInt8)) (w : World) (e : Ending) (w' : World) : Prop := ∃ A c vn, e = .returned (.tuple #[.slice A R.1.length c, vn]) ∧ AdsO w' 0 (.slice A R.1.length c) R.1 ∧ Txts w' vn R.2 ∧ Below w.heap.size w w'
structure HfX (w0 w : World) (gm : Nat) (va vn : Value) (R : List Adr × List (List UInt8)) : Prop where
 own : AdsO w w0.heap.size va R.1
 nm : Txts w vn R.2
 map : MapA w gm R.1.length R.1
 ba : Below w0.heap.size w0 w
theorem HfX.below {w0 w w' : World} {gm : Nat} {va vn : Value} {R : List Adr × List (List UInt8)} (h : HfX w0 w gm va vn R) (k : Below w.heap.size w w') : HfX w0 w' gm va vn R :=
 ⟨LOwn.below h.own k (fun _ _ x => x), h.nm.below k, h.map.kept (grown_of_below k none) (by simp), below_then h.ba h.ba.size k⟩
theorem HfX.blk {w0 w w' : World} {gm g : Nat} {va vn : Value} {R : List Adr × List (List UInt8)} {t : TypeId} {cs : List Value} (h : HfX w0 w gm va vn R) (hg : w.grownBy w' (some g)) (hb : Blk w g t cs) (hl : w0.heap.size ≤ g) (h1 : t ≠ 24) (h2 : t ≠ 9) : HfX w0 w' gm va vn R :=
 ⟨h.own.blk hg hb h1, h.nm.grown hg hb h2, h.map.kept hg (by intro c; injection c with c; exact h.map.ne_blk hb c), below_grown h.ba hg h.ba.size hl⟩
set_option maxHeartbeats 8000000 in
theorem hfind_any (w0 : World) (A : Option Addr) (c : Nat) (l : List Hst) (An : Option Addr) (cn : Nat) (n : List (List UInt8)) (fam : Int) (w : World) (hA : LIn w 19 (HstO w0 w) A l) (hw : Below w0.heap.size w0 w) (hN : NmR w An cn n) (hf : ∀ h ∈ l, HstF h) (hl : l.length ≤ 1000) :
  Calls prog 202 #[.slice A l.length c, .slice An n.length cn, .int .i64 fam] w (HfRet (findP l n fam) w) := by
 have hzl : hstZ.length = 19 := rfl
 have HAS := Hh (fun cs h W (hc : HstO w0 w cs h) (hb : Below w.heap.size w W) (hf : HstF h) => hhas_any w0 cs h An cn n W (hc.below hb) (below_then hw hw.size hb) (hN.below hb) hf)
 have CL := Hh (fun A c m W (h : NmR W A c m) (hl : m.length ≤ 100000) => clone_any A c m W h hl)
 have HF := Hh hf
 have HLN := Hh (fun k => find_len n fam (l.take k))
 have MM := MapA.made w
 have HW0 := Hh hw
 obtain ⟨R0, hR0⟩ : ∃ R0, Hid (findP l n fam = R0) := ⟨_, Hh rfl⟩
 rw [hR0.out]
 unfold CloneRet at CL
 clear hf hw hN
 have hmm := @run_makeMap prog
 go_enter func202, ntmps202
 go_wp2_with fail
 obtain ⟨gm, hgm⟩ : ∃ gm, w.heap.size = gm := ⟨_, rfl⟩
 have H0 : Below w.heap.size w (w.alloc (.map #[] 0)) := (Below.refl _ _).alloc (Nat.le_refl _) _
 have X0 : Hid (HfX w (w.alloc (.map #[] 0)) gm (.slice none 0 0) (.slice none 0 0) (findP (l.take 0) n fam)) := Hh ⟨LOwn.nil _ _ _ _ _, Txts.nil _, hgm ▸ MM, H0⟩
 have hgw : w.heap.size ≤ gm := by omega
 clear MM H0 hmm
 obtain ⟨W0, hW0⟩ : ∃ W0, Hid (w.alloc (.map #[] 0) = W0) := ⟨_, Hh rfl⟩
 rw [hgm, hW0.out]
 rw [hW0.out] at X0
 have HGM := Hh hgm
 clear hW0 hgm
 go_loopw [8, 9, 16] (fun fv ov iv wr => ∃ (k : Nat) (A2 : Option Addr) (n2 c2 : Nat), k ≤ l.length ∧ iv = .int .i64 k ∧ fv = .slice A2 n2 c2 ∧ Hid (n2 = (findP (l.take k) n fam).1.length) ∧ Hid (HfX w wr gm (.slice A2 n2 c2) ov (findP (l.take k) n fam))) (fun _ _ iv _ => l.length - (intOf iv).toNat)
 case atStart => exact ⟨0, none, 0, 0, Nat.zero_le _, rfl, rfl, Hh rfl, X0⟩
 clear X0
 obtain ⟨k, A2, n2, c2, hk, rfl, rfl, hn2, HX⟩ := hrel
 by_cases hlt : k < l.length
 case neg =>
  have hlt' : ¬ (k : Int) < l.length := by omega
  have e : l.take k = l := List.take_of_length_le (by omega)
  rw [e, hR0.out] at HX hn2
  clear HAS CL HF HLN hA
  go_wp2_with fail
  go_ret2
  have HX := HX.out
  rw [hn2.out] at HX ⊢
  exact ⟨_, _, _, rfl, LOwn.zero HX.own, HX.nm, HX.ba⟩
 have hlt' : (k : Int) < l.length := by omega
 obtain ⟨b, off, rfl, hb, hr⟩ := hA (by omega)
 obtain ⟨cs, hcs, hce⟩ := hr k hlt
 have hcs := range_below hcs HX.out.ba hb
 have hcl := hce.len
 have hone := hce.one
 have hfk := HF.out _ (List.getElem_mem hlt)
 have FT := Hh (find_take l n fam k hlt)
 have hln := HLN.out k
 have W1 : Below wr.heap.size wr (wr.alloc (.cells hstZ.toArray 196)) := (Below.refl _ _).alloc (Nat.le_refl _) _
 have HXz := Hh (HX.out.below W1)
 have hwr := HX.out.ba.size
 obtain ⟨h, hh⟩ : ∃ h, l[k] = h := ⟨_, rfl⟩
 rw [hh] at hce hfk FT
 obtain ⟨S, hS⟩ : ∃ S, findP (l.take k) n fam = S := ⟨_, rfl⟩
 rw [hS] at HXz FT hn2 hln
 have hn2k : n2 ≤ k := by rw [hn2.out]; refine Nat.le_trans hln ?_; simp; omega
 clear hln hS hr hA HLN HF HX hh
 obtain ⟨gq, hgq⟩ : ∃ gq, Hid (wr.heap.size = gq) := ⟨_, Hh rfl⟩
 have Zq := Blk.new wr 196 hstZ
 go_wp2_with (first
  | (refine at_op (.load 196 (.tmp 18)) rfl ?_; go_must (refine wpList_ldR rfl 196 (.tmp 18) rfl b (off + k * 19) rfl cs hcs _ underlying196 rfl (by rw [hcl]; exact hstI19) ?_))
  | (refine at_op (.store 196 (.tmp 12) (.tmp 19)) rfl ?_; go_must (refine wpList_stB rfl _ _ _ rfl wr.heap.size 0 rfl cs rfl Zq (by rw [hzl, hcl]; decide) (by rw [hcl]; exact hstI19) hone ?_)))
 intro w1 B1 g1 sw
 clear sw
 have B1' := blkAll B1 (by omega)
 have X1 := HXz.out.blk g1 Zq (by omega) (by decide) (by decide)
 clear B1 g1 Zq HXz W1 hcs
 rw [hgq.out] at B1' ⊢
 have HCE := Hh (show HstO w0 w cs h from hce)
 obtain ⟨vh, hcc, hip, hNs⟩ := hce
 obtain ⟨Ah, ch, hvh⟩ := hNs.form
 subst hvh
 have hLa := h.ad.cells_len hip
 have L0 : (cs.drop 0).take 18 = h.ad.cells := by rw [hcc, List.drop_zero]; exact List.take_left' hLa
 have L18 : cs[18]? = some (.slice Ah h.ns.length ch) := by rw [hcc, List.getElem?_append_right (by omega), hLa]; rfl
 have Lf : cs[0]? = some (.int .i64 h.ad.fam) := by rw [hcc]; rfl
 have HNS := Hh hNs
 have HX1 := Hh X1
 have HK := Hh hfk
 have hns1 := hfk.n1
 have hnsl := hfk.nl
 have hgqw : w.heap.size ≤ gq := by rw [← hgq.out]; exact hwr
 clear hcc hNs X1 hfk hone hgq hcs hb
 go_upto_region 7 with fail
 go_cut [34] (fun v wx => v = .bool (!isH n fam h) ∧ Hid (HfX w wx gm (.slice A2 n2 c2) u9 S) ∧ Blk wx gq 196 cs)
 case first =>
  have d0 := B1'.cell_ 0 Lf
  have HI : Hid (isH n fam h = ((decide (fam = 0) || decide (h.ad.fam = fam)) && hasP h n)) := Hh rfl
  by_cases hq : fam = 0 ∨ h.ad.fam = fam
  case neg =>
   have q1 : (fam != 0) = true := by simpa using fun c => hq (.inl c)
   have q2 : (h.ad.fam != fam) = true := by simpa using fun c => hq (.inr c)
   have HI2 : Hid ((!isH n fam h) = true) := Hh (by
    rw [HI.out, decide_eq_false (fun c => hq (.inl c)), decide_eq_false (fun c => hq (.inr c))]; rfl)
   clear hq HI HAS
   go_wp2_with fail
   go_meet
   case rel => exact ⟨by rw [HI2.out], HX1, B1'⟩
  have HI2 : Hid ((!isH n fam h) = !hasP h n) := Hh (by
   rw [HI.out]
   rcases hq with c | c
   ·
    rw [decide_eq_true c]; rfl
   ·
    rw [decide_eq_true c, Bool.or_true]; rfl)
  have HA1 := Hh (HAS.out cs h w1 HCE.out HX1.out.ba HK.out)
  have hq2 : fam = 0 ∨ ((fam != 0) = true ∧ (h.ad.fam != fam) = false) := by
   by_cases c : fam = 0
   ·
    exact .inl c
   ·
    refine .inr ⟨by simpa using c, ?_⟩
    rcases hq with e | e
    ·
     exact absurd e c
    ·
     simpa using e
  clear hq HI HAS
  rcases hq2 with rfl | ⟨q1, q2⟩
  all_goals
   go_wp2_with (refine at_op (.load 196 (.tmp 12)) rfl ?_; go_must (refine wpList_ldG 196 (.tmp 12) rfl (by go_simp) gq 0 rfl B1' 19 (by omega) _ underlying196 rfl hstI19 cs (tk0 (by omega)) ?_))
   refine HA1.out.mono ?_
   rintro _ w5 ⟨rfl, b5⟩
   have HX5 := Hh (HX1.out.below b5)
   have B5 := B1'.below b5 B1'.lt
   clear HA1 b5 HX1 B1' d0
   go_wp2_with fail
   go_meet
   case rel => exact ⟨by rw [HI2.out], HX5, B5⟩
 obtain ⟨rfl, HX, B⟩ := hcut
 obtain ⟨w2, rfl⟩ : ∃ w2, w2 = wc := ⟨_, rfl⟩
 clear HX1 B1' HAS
 cases hi : isH n fam h with
 | false =>
  have HS : Hid (findP (l.take (k + 1)) n fam = S) := Hh (by rw [FT.out]; unfold stepH; rw [hi]; rfl)
  have HX2 : Hid (HfX w w2 gm (.slice A2 n2 c2) u9 (findP (l.take (k + 1)) n fam)) := Hh (by rw [HS.out]; exact HX.out)
  have HN3 : Hid (n2 = (findP (l.take (k + 1)) n fam).1.length) := Hh (by rw [HS.out]; exact hn2.out)
  clear hi FT HS HX CL hn2
  go_wp2_with fail
  go_roundw
  case rel => exact ⟨k + 1, A2, n2, c2, by omega, by go_num, rfl, HN3, HX2⟩
  case measure => simp [intOf]; omega
 | true =>
 have FT2 : Hid (findP (l.take (k + 1)) n fam = (if h.ad ∈ S.1 then S.1 else S.1 ++ [h.ad], if S.1 = [] then h.ns.headD [] else S.2)) := Hh (by rw [FT.out]; unfold stepH; rw [hi]; rfl)
 clear FT hi
 obtain ⟨b2, off2, hA2', hb2, hr2⟩ := HNS.out.lin (fun _ _ ⟨_, _, h, _⟩ => by rw [h]; rfl) (by omega)
 subst hA2'
 obtain ⟨cs0, hcs0, Ao, co, rfl, hno⟩ := hr2 0 (by omega)
 have ce := (HX.out.ba.cell (p := ⟨b2, off2, none⟩) hb2).trans (by simpa using hcs0 0 _ rfl)
 have d18 := B.cell_ 18 L18
 have hno2 := HK.out.nn _ (List.getElem_mem (show 0 < h.ns.length by omega))
 have hhd := headD_get (l := h.ns) [] (by omega)
 have HHD := Hh hhd
 have CL1 := Hh (CL.out Ao co h.ns[0] w2 (hno.below (below_then HW0.out HW0.out.size HX.out.ba)) hno2)
 obtain ⟨nm0, hnm0⟩ : ∃ nm0, h.ns[0]'(by omega) = nm0 := ⟨_, rfl⟩
 rw [hnm0] at CL1 ce hno2 HHD
 generalize nm0.length = nml at *
 clear hno hhd hcs0 hr2 hnm0 CL
 go_upto_if 37 with fail
 go_cut [9] (fun ov wx => Hid (HfX w wx gm (.slice A2 n2 c2) ov (S.1, if S.1 = [] then h.ns.headD [] else S.2)) ∧ Blk wx gq 196 cs)
 case first =>
  by_cases h0 : n2 = 0
  case neg =>
   have h0' : ((n2 : Int) == 0) = false := by simp; exact h0
   have HX2 : Hid (HfX w w2 gm (.slice A2 n2 c2) u9 (S.1, if S.1 = [] then h.ns.headD [] else S.2)) := Hh (by
    rw [if_neg (fun c => h0 (by rw [hn2.out, c]; rfl))]; exact HX.out)
   clear h0
   go_wp2_with fail
   go_meet
   case rel => exact ⟨HX2, B⟩
  have h0' : ((n2 : Int) == 0) = true := by simp; exact h0
  have hSn : Hid (S.1 = []) := Hh (List.length_eq_zero_iff.1 (by rw [← hn2.out]; exact h0))
  have HIF : Hid ((if S.1 = [] then h.ns.headD [] else S.2) = nm0) := Hh (by rw [if_pos hSn.out]; exact HHD.out)
  have hns' : (0 : Int) < h.ns.length := by omega
  have HN2 := Hh h0
  generalize h.ns.length = hnl at *
  clear h0
  go_wp2_with fail
  refine CL1.out.mono ?_
  rintro _ w3 ⟨A3, c3, rfl, ho3, b3⟩
  have X3 := HX.out.below b3
  have HX3 : Hid (HfX w w3 gm (.slice A2 n2 c2) (.slice A3 nml c3) (S.1, if S.1 = [] then h.ns.headD [] else S.2)) := Hh ⟨X3.own, by rw [HIF.out]; exact txts_own ho3, X3.map, X3.ba⟩
  have B3 := B.below b3 B.lt
  clear X3 ho3 b3 CL1 B
  go_wp2_with fail
  go_meet
  case rel => exact ⟨HX3, B3⟩
 obtain ⟨HX3, B3⟩ := hcut
 obtain ⟨w3, rfl⟩ : ∃ w3, w3 = wc := ⟨_, rfl⟩
 obtain ⟨own, hown⟩ : ∃ own, Hid ((if S.1 = [] then h.ns.headD [] else S.2) = own) := ⟨_, Hh rfl⟩
 rw [hown.out] at HX3 FT2
 clear HX B CL1 ce d18 HHD hown
 have haf := Hh HK.out.ad
 have hdl := h.ad.cells_len hip
 have hd1 := h.ad.cells_one
 have HLK := HX3.out.map.look h.ad haf.out
 by_cases hm : h.ad ∈ S.1
 case pos =>
  rw [if_pos hm] at HLK FT2
  have HX4 : Hid (HfX w w3 gm (.slice A2 n2 c2) u9 (findP (l.take (k + 1)) n fam)) := Hh (by rw [FT2.out]; exact HX3.out)
  have HN4 : Hid (n2 = (findP (l.take (k + 1)) n fam).1.length) := Hh (by rw [FT2.out]; exact hn2.out)
  clear hm FT2 HX3
  go_wp2_with (refine at_op (.load 24 (.tmp 44)) rfl ?_; go_must (refine wpList_ldB rfl _ _ rfl gq 0 rfl B3 18 (by omega) _ underlying24 rfl adI18 h.ad.cells L0 ?_))
  go_roundw
  case rel => exact ⟨k + 1, A2, n2, c2, by omega, by go_num, rfl, HN4, HX4⟩
  case measure => simp [intOf]; omega
 rw [if_neg hm] at HLK FT2
 clear hm
 go_wp2_with (first
  | (refine at_op (.load 24 (.tmp 44)) rfl ?_; go_must (refine wpList_ldB rfl _ _ rfl gq 0 rfl B3 18 (by omega) _ underlying24 rfl adI18 h.ad.cells L0 ?_))
  | (refine at_op (.load 24 (.tmp 49)) rfl ?_; go_must (refine wpList_ldB rfl _ _ rfl gq 0 rfl B3 18 (by omega) _ underlying24 rfl adI18 h.ad.cells L0 ?_))
  | (refine at_op (.mapUpdate 348 (.tmp 48) (.tmp 50) (.const (.int .i64 1))) rfl ?_; go_must (refine wpList_mapA _ rfl _ _ _ rfl gm S.1.length S.1 h.ad rfl rfl rfl HX3.out.map haf.out (by rw [← hn2.out]; simp only [maxLen]; omega) ?_)))
 intro w4 M4 g4
 have hgqm : gq ≠ gm := fun c => HX3.out.map.ne_blk B3 c.symm
 have B4 := B3.grown g4 (by simpa using hgqm)
 have O4 := LOwn.map HX3.out.own g4 (HX3.out.map.ne_own HX3.out.own)
 have H4 := below_grown HX3.out.ba g4 HX3.out.ba.size hgw
 have N4 : Txts w4 u9 own := World.ownsRow.kept HX3.out.nm g4 (.inr (fun c => by
  have := HX3.out.nm
  rcases this.2 with ⟨hv, _⟩ | ⟨g', cap, cur, hv, _, hh, _⟩
  ·
   rw [hv] at c; cases c
  ·
   rw [hv] at c
   injection c with c
   subst c
   obtain ⟨D, ⟨es, cl, hm, _⟩, _⟩ := HX3.out.map
   rw [hh] at hm; cases hm))
 have HM4 := Hh M4
 have HO4 := Hh O4
 have HN4 := Hh N4
 clear HLK HX3 g4 M4 O4 N4 B3
 go_wp2_with (first
  | (refine at_op (.load 24 (.tmp 52)) rfl ?_; go_must (refine wpList_ldB rfl _ _ rfl gq 0 rfl B4 18 (by omega) _ underlying24 rfl adI18 h.ad.cells L0 ?_))
  | (refine at_op (.buildSlice 33 1 #[(0, .tmp 53)]) rfl ?_; go_must (refine wpList_bsN rfl 33 24 _ 18 32 underlying33 adInfo3 (by decide) (by decide) (.tmp 53) rfl h.ad.cells rfl hdl ?_)))
 intro w5 B5 k5
 have O5 : AdsO w5 w.heap.size (.slice A2 n2 c2) S.1 := LOwn.below HO4.out k5 (fun _ _ x => x)
 have M5 := HM4.out.kept (grown_of_below k5 none) (by simp)
 have N5 := Hh (HN4.out.below k5)
 have H5 := below_then H4 H4.size k5
 have hne := LOwn.ne HO4.out (Nat.le_refl _)
 have HO5 := Hh O5
 have HM5 := Hh M5
 clear k5 O5 M5 HO4 HM4 HN4 H4 B4
 go_wp2_with (at_builtin; go_must (refine wpList_app1 _ rfl (.tmp 51) (.tmp 54) 33 rfl 24 _ 18 32 underlying33 adInfo3 (by kernel_rfl) (by decide) (R := AdI) w.heap.size _ S.1 rfl HO5.out H5.size _ h.ad.cells h.ad rfl B5 hne hdl hd1 ⟨rfl, hip⟩ (by rw [← hn2.out]; simp only [maxLen]; omega) (by rw [← hn2.out]; omega) ?_))
 intro v6 w6 O6 g6
 have M6 := HM5.out.kept g6 (HM5.out.ne_own HO5.out)
 have H6 := H5.grown g6 H5.size (fun k hk => HO5.out.base k hk)
 have N6 : Txts w6 u9 own := by obtain ⟨css, ho, _⟩ := HO5.out; exact own_own N5.out ho (by decide) g6
 obtain ⟨A6, c6, hv6⟩ := O6.form
 have hl6 : (S.1 ++ [h.ad]).length = n2 + 1 := by rw [hn2.out]; simp
 have HX6 : Hid (HfX w w6 gm (.slice A6 (n2 + 1) c6) u9 (findP (l.take (k + 1)) n fam)) := Hh (by
  rw [FT2.out]
  refine ⟨?_, N6, ?_, H6⟩
  ·
   rw [hv6, hl6] at O6; exact O6
  ·
   show MapA w6 gm (S.1 ++ [h.ad]).length (S.1 ++ [h.ad])
   rw [show (S.1 ++ [h.ad]).length = S.1.length + 1 by simp]; exact M6)
 have HN6 : Hid (n2 + 1 = (findP (l.take (k + 1)) n fam).1.length) := Hh (by rw [FT2.out]; exact hl6.symm)
 rw [hl6] at hv6
 subst hv6
 clear M6 H6 N6 O6 g6 HO5 HM5 N5 H5 hne B5 FT2 hl6
 go_wp2_with fail
 go_roundw
 case rel => exact ⟨k + 1, A6, n2 + 1, c6, by omega, by go_num, rfl, HN6, HX6⟩
 case measure => simp [intOf]; omega
theorem ask_enc {q : Qn} (hN : checkN q.name = 0) (ht : inB 65535 q.ty = true) (hc1 : inB 65535 q.cl = true) (id : Int) (e : Bool) (h1 : 0 ≤ id) (h2 : id ≤ 65535) : (encM (askM q id e) false).2 = 0 := by
 have hq : qE q = 0 := by unfold qE; rw [if_neg (by rw [hN]; decide), ht, hc1]; rfl
 have hc : checkM (askM q id e) = 0 := by
  have hh : (askM q id e).hd.ok = true := by unfold askM askH Hd.ok; simp [h1, h2, Hd.zero]
  have hqs : fstE ((askM q id e).qs.map qE) = 0 := by unfold askM; simp [fstE, hq]
  have ho : checkR optR = 0 := by decide
  have hrs : fstE ((askM q id e).rrs.map checkR) = 0 := by
   unfold askM Msg.rrs
   cases e <;> simp [fstE, ho]
  unfold checkM
  rw [if_neg (by rw [hh]; decide), if_neg (by unfold askM; cases e <;> simp), if_neg (by rw [hqs]; decide), hrs]
 have hl := ask_len q id e hN
 unfold encM
 rw [if_neg (by rw [hc]; decide), if_neg (by omega)]
theorem newX_wait (tmo : Int) (vc ed : Bool) (q : Qn) (tr : List Adr) (L : Lt) (hN : checkN q.name = 0) (ht : inB 65535 q.ty = true) (hc : inB 65535 q.cl = true) (htr : 0 < tr.length) : (newX tmo vc ed q tr L).1.done = false ∧ (newX tmo vc ed q tr L).2.2 ≠ [] := by
 have h0 := ask_enc hN ht hc 0 ed (by omega) (by omega)
 unfold newX
 rw [if_neg (by rw [h0]; decide)]
 unfold tryX
 have hk : (startX tmo vc ed q tr).k < (startX tmo vc ed q tr).tr.length := htr
 rw [if_pos hk]
 have hd : (startX tmo vc ed q tr).done = false := rfl
 unfold legX
 split
 ·
  refine ⟨hd, ?_⟩
  have h1 := draw_lt (drawL L 64512).2 (n := 65536) (by omega)
  have he : errP (legY (startX tmo vc ed q tr) L) = 0 := ask_enc hN ht hc _ _ h1.1 (by show (drawL (drawL L 64512).2 65536).1 ≤ 65535; omega)
  show (newD (legY (startX tmo vc ed q tr) L)).2 ≠ []
  unfold newD
  rw [if_pos he]; simp
 ·
  exact ⟨hd, by simp⟩
theorem begin_keep : ∀ (f : Nat) (p : Pr) (L : Lt) (o : List Ou), (∀ x ∈ p.bg, x ∈ (beginP f p L o).1.bg) ∧ (o ≠ [] → (beginP f p L o).2.2 ≠ [])
 | 0, p, L, o => ⟨fun x hx => hx, fun h => h⟩
 | f + 1, p, L, o => by
  unfold beginP
  split
  ·
   obtain ⟨h1, h2⟩ := begin_keep f (oneP p L) (exP p L).2.1 (o ++ (exP p L).2.2)
   refine ⟨fun x hx => h1 x (by unfold oneP; simp [hx]), fun h => h2 (by simp [h])⟩
  ·
   exact ⟨fun x hx => hx, fun h => h⟩
theorem newP_wait (r : Rs) (nm : List (List UInt8)) (fam turn : Int) (L : Lt) (hN : checkN nm = 0) : doneP (newP r nm (tysF fam) turn L).1 = false ∧ (newP r nm (tysF fam) turn L).2.2 ≠ [] := by
 obtain ⟨y1, y2⟩ : (∀ t ∈ tysF fam, t = 1 ∨ t = 28) ∧ 0 < (tysF fam).length := by
  unfold tysF
  refine ⟨fun t ht => ?_, ?_⟩
  ·
   split at ht <;> split at ht <;> simp at ht <;> omega
  ·
   by_cases h6 : fam = 6
   ·
    subst h6; decide
   ·
    rw [if_neg h6]; simp
 unfold newP
 have hb : (startP (heldR r) nm (tysF fam) turn).bg.length < (startP (heldR r) nm (tysF fam) turn).tys.length := y2
 have hw : waitP (startP (heldR r) nm (tysF fam) turn) = false := by unfold waitP startP; simp
 rw [begin_yes _ _ hb hw]
 have hq : qnP (startP (heldR r) nm (tysF fam) turn) 0 = ⟨nm, (tysF fam).getD 0 0, 1⟩ := rfl
 have hty : inB 65535 ((tysF fam).getD 0 0) = true := by
  rw [List.getD_eq_getElem?_getD, List.getElem?_eq_getElem y2]
  rcases y1 _ (List.getElem_mem y2) with h | h <;> (simp only [Option.getD_some]; rw [h]; decide)
 obtain ⟨w1, w2⟩ := newX_wait (heldR (heldR r)).tmo (heldR (heldR r)).vc (heldR (heldR r)).ed (qnP (startP (heldR r) nm (tysF fam) turn) 0) (triesR (heldR r) (IntKind.i64.wrap (turn + (0 : Nat)))) L (by rw [hq]; exact hN) (by rw [hq]; exact hty) (by rw [hq]; show inB 65535 1 = true; decide) (by have := (tries_le (heldR r) (IntKind.i64.wrap (turn + (0 : Nat)))).1; omega)
 obtain ⟨k1, k2⟩ := begin_keep 2 (oneP (startP (heldR r) nm (tysF fam) turn) L) (exP (startP (heldR r) nm (tysF fam) turn) L).2.1 ([] ++ (exP (startP (heldR r) nm (tysF fam) turn) L).2.2)
 refine ⟨?_, k2 (by rw [List.nil_append]; exact w2)⟩
 have hm := k1 (exP (startP (heldR r) nm (tysF fam) turn) L).1 (by show _ ∈ [] ++ [(exP (startP (heldR r) nm (tysF fam) turn) L).1]; simp)
 unfold doneP
 have : (beginP 2 (oneP (startP (heldR r) nm (tysF fam) turn) L) (exP (startP (heldR r) nm (tysF fam) turn) L).2.1 ([] ++ (exP (startP (heldR r) nm (tysF fam) turn) L).2.2)).1.bg.all (·.done) = false := by
  rw [List.all_eq_false]
  exact ⟨_, hm, by rw [show (exP (startP (heldR r) nm (tysF fam) turn) L).1.done = false from w1]; decide⟩
 rw [this]; rfl
def statusOf (v : Int) : Int := if v = 1 then 0 else if v = 3 ∨ v = 2 then 1 else if v = 4 then 3 else 2
theorem status_any (v : Int) (w : World) : Calls prog 127 #[.int .i64 v] w (Ret (.int .i64 (statusOf v)) w) := by
 go_enter func127, ntmps127
 go_wp2
 all_goals go_ret
 all_goals (refine Ret.mk ?_ rfl; simp_all [statusOf])
def Srcs (w : World) (A : Option Addr) (n : Nat) (K : Nat → Int) (S : Nat → Nat → Bool) : Prop :=
 0 < n → ∃ b off, A = some ⟨b, off, none⟩ ∧ b < w.heap.size ∧ ∀ i, i < n → w.cell? ⟨b, off + i * 5, none⟩ = some (.int .i64 (K i)) ∧ ∀ j, j < 4 → w.cell? ⟨b, off + i * 5 + 1 + j, none⟩ = some (.bool (S i j))
def stat (st : Int) : Nat := if 0 ≤ st ∧ st ≤ 3 then st.toNat else 2
theorem stat_in {st : Int} (h : 0 ≤ st ∧ st ≤ 3) : stat st = st.toNat := if_pos h
theorem stat_out {st : Int} (h : ¬ (0 ≤ st ∧ st ≤ 3)) : stat st = 2 := if_neg h
theorem stat_lt (st : Int) : stat st < 4 := by unfold stat; split <;> omega
theorem next_out (A : Option Addr) (n c : Nat) (k st : Int) (w : World) (hn : n ≤ 1000000) (h : k < 0 ∨ n - 1 ≤ k) :
  Calls prog 126 #[.slice A n c, .int .i64 k, .int .i64 st] w (Ret (.tuple #[.int .i64 0, .bool false]) w) := by
 by_cases h0 : k < 0
 ·
  go_enter func126, ntmps126
  go_wp2
  go_ret2
  exact Ret.mk rfl rfl
 ·
  have h1 : (n : Int) - 1 ≤ k := by omega
  clear h
  go_enter func126, ntmps126
  go_wp2
  go_ret2
  exact Ret.mk rfl rfl
theorem next_stops (A : Option Addr) (n c : Nat) (K : Nat → Int) (S : Nat → Nat → Bool) (k st : Int) (w : World) (hn : n ≤ 1000000) (h : Srcs w A n K S) (h0 : 0 ≤ k) (h1 : k < n - 1) (hs : S k.toNat (stat st) = true) :
  Calls prog 126 #[.slice A n c, .int .i64 k, .int .i64 st] w (Ret (.tuple #[.int .i64 0, .bool false]) w) := by
 obtain ⟨b, off, rfl, hb, hc⟩ := h (by omega)
 obtain ⟨i, rfl⟩ := Int.eq_ofNat_of_zero_le h0
 have hcell := (hc i (by omega)).2 (stat st) (stat_lt st)
 rw [Int.toNat_natCast] at hs
 rw [hs] at hcell
 clear hc hs h
 by_cases hst : 0 ≤ st ∧ st ≤ 3
 ·
  rw [stat_in hst] at hcell
  obtain ⟨s0, s1⟩ := hst
  obtain ⟨j, rfl⟩ := Int.eq_ofNat_of_zero_le s0
  rw [Int.toNat_natCast] at hcell
  go_enter func126, ntmps126
  go_wp2
  go_ret2
  exact Ret.mk rfl rfl
 ·
  rw [stat_out hst] at hcell
  have hcell' : w.cell? { block := b, off := off + i * 5 + 1 + 2 } = some (Value.bool true) := hcell
  by_cases s0 : st < 0
  all_goals
   have hst' : st < 0 ∨ 3 < st := by omega
   go_enter func126, ntmps126
   go_wp2
   go_ret2
   exact Ret.mk rfl rfl
theorem next_goes (A : Option Addr) (n c : Nat) (K : Nat → Int) (S : Nat → Nat → Bool) (k st : Int) (w : World) (hn : n ≤ 1000000) (h : Srcs w A n K S) (h0 : 0 ≤ k) (h1 : k < n - 1) (hs : S k.toNat (stat st) = false) :
  Calls prog 126 #[.slice A n c, .int .i64 k, .int .i64 st] w (Ret (.tuple #[.int .i64 (k + 1), .bool true]) w) := by
 obtain ⟨b, off, rfl, hb, hc⟩ := h (by omega)
 obtain ⟨i, rfl⟩ := Int.eq_ofNat_of_zero_le h0
 have hcell := (hc i (by omega)).2 (stat st) (stat_lt st)
 rw [Int.toNat_natCast] at hs
 rw [hs] at hcell
 clear hc hs h
 by_cases hst : 0 ≤ st ∧ st ≤ 3
 ·
  rw [stat_in hst] at hcell
  obtain ⟨s0, s1⟩ := hst
  obtain ⟨j, rfl⟩ := Int.eq_ofNat_of_zero_le s0
  rw [Int.toNat_natCast] at hcell
  go_enter func126, ntmps126
  go_wp2
  go_ret2
  exact Ret.mk rfl rfl
 ·
  rw [stat_out hst] at hcell
  by_cases s0 : st < 0
  all_goals
   have hst' : st < 0 ∨ 3 < st := by omega
   go_enter func126, ntmps126
   go_wp2
   go_ret2
   exact Ret.mk rfl rfl
end Go.Proofs.YteimenplbanooaaGreatDoor

/-
  Layer 34 (host): dns.
-/
import Derived.Test.YteimenplbanooaaGreatDoorRBNq
namespace Go.Proofs.YteimenplbanooaaGreatDoor
open _root_.Go.Proofs.Tryz
open Go.RowKit
set_option maxRecDepth 100000
set_option linter.unusedVariables false
set_option linter.unusedSimpArgs false
section
variable {w0 w w' : World} {b g gl n : Nat} {D : HsD} {c : Hc} {L : Lt} {E TK H : Nat}
theorem HsS.frT {p : TypeId → Prop} {b' : Nat} (h : HsS w0 w b g gl D c n L E TK) (k : Fr (TyS w p b') w w') (hb : b ≤ b') (h1 : ¬ p 185) (h2 : ¬ p 284) (h3 : ¬ p 135) : HsS w0 w' b g gl D c n L E TK :=
 ⟨h.at_.frT k hb h1 h2, h.lt.frT k h3, h.nm, h.us, h.ds, h.tk, h.sn, h.pp, h.dn⟩
theorem HsW.frT {p : TypeId → Prop} {b' : Nat} {dp : Bool} (h : HsW w0 w b g gl D c n L E TK H dp) (k : Fr (TyS w p b') w w') (hb : b ≤ b') (hlt : b ≤ w.heap.size) (h1 : ¬ p 185) (h2 : ¬ p 284) (h3 : ¬ p 135) (h4 : ¬ p 352) (h5 : ¬ p 331) (h6 : ¬ p 437) (h7 : ¬ p 216) : HsW w0 w' b g gl D c n L E TK H dp := by
 obtain ⟨gp, X, p, tk, k', a1, a2, a3⟩ := h.pr
 exact ⟨h.at_.frT k hb h1 h2, h.lt.frT k h3, h.nm, h.ds, h.sn, h.dn, gp, X, p, tk, k', a1, a2.frT k hb hlt h5 h6 h4 h7, a3⟩
end
section
variable {w0 w : World} {b g gl n : Nat} {D : HsD} {c : Hc} {L : Lt} {E TK H : Nat}
end
theorem begin_st : ∀ (f : Nat) (p : Pr) (L : Lt) (o : List Ou), (beginP f p L o).1.nm = p.nm ∧ (beginP f p L o).1.tys = p.tys ∧ (beginP f p L o).1.r = p.r
 | 0, p, L, o => ⟨rfl, rfl, rfl⟩
 | f + 1, p, L, o => by
  unfold beginP
  split
  ·
   exact begin_st f (oneP p L) _ _
  ·
   exact ⟨rfl, rfl, rfl⟩
theorem check_100k {n : List (List UInt8)} (h : checkN n = 0) : n.length ≤ 100000 := by
 have h1 := checkN_ok h
 have h2 : ∀ l : List (List UInt8), l.length ≤ lsum l := by
  intro l
  induction l with
  | nil => simp
  | cons a l ih => simp [lsum] at ih ⊢; omega
 have := h2 n
 omega
section
variable {w0 w w' : World} {b g gl n : Nat} {D : HsD} {c : Hc} {L : Lt} {E TK H : Nat}
theorem HsS.put (h : HsS w0 w b g gl D c n L E TK) {c' : Hc} (hg : w.grownBy w' (some g)) {T : List Value} (hk : HK w g T c) (hk' : HK w' g T c') (e : c'.vh = c.vh ∧ c'.vs = c.vs ∧ c'.nv = c.nv ∧ c'.cv = c.cv ∧ c'.av = c.av ∧ c'.tv = c.tv ∧ c'.vv = c.vv) (hf : c'.gl = c.gl ∧ c'.fam = c.fam ∧ c'.turn = c.turn) (e2 : c'.bg = c.bg ∧ c'.pp = c.pp ∧ c'.sent = c.sent ∧ c'.dn = c.dn ∧ c'.r1 = c.r1 ∧ c'.r2 = c.r2) (hn : HsN D c' n) : HsS w0 w' b g gl D c' n L E TK := by
 obtain ⟨e1, e3, e4, e5, e6, e7⟩ := e2
 exact ⟨h.at_.put hg hk hk' e hf (by rw [e1, e3]; exact fun _ h => h) (by rw [e6]; exact h.at_.r1) (by rw [e7]; exact h.at_.eq.2.2.2.1), h.lt.frT (h.at_.frG hg) (by unfold HoTy; decide), hn, by rw [e1]; exact h.us, h.ds, by rw [e1]; exact h.tk, by rw [e1, e4]; exact h.sn, e3.trans h.pp, e5.trans h.dn⟩
end
def BhQ (lo : Nat) (o0 : List Ou) (Q : Value → World → Prop) (w1 : World) (v2 : Value) (w2 : World) : Prop := ∃ o, OusN w1.heap.size w2 v2 o ∧ o.length ≤ 50000 ∧ KeepO w1.heap.size w1 w2 ∧ w1.heap.size ≤ w2.heap.size ∧ ∀ v3 w3, OusN lo w3 v3 (o0 ++ o) → Fr (TyS w2 OuTy lo) w2 w3 → Q v3 w3
section
variable {w0 w : World} {b g gl n : Nat} {D : HsD} {c : Hc} {L : Lt} {E TK H lo : Nat}
set_option maxHeartbeats 4000000 in
theorem hdns_go (h : HsS w0 w b g gl D c n L E TK ∨ HsW w0 w b g gl D c n L E TK H true) (hp : HsP D) (hbw : b ≤ w.heap.size) (hE : E ≤ 80000000) (v0 : Value) (o0 : List Ou) (hO : OusN lo w v0 o0) (hb : b ≤ lo) (hlo : lo ≤ w.heap.size) (hol : o0.length ≤ 50000) (Q : Value → World → Prop)
  (KB : ∀ w1 c1 L1 vd r1 r2 r3 (xs : List Adr), HsS w0 w1 b g gl D c1 n L1 E TK → Below b w w1 → KeepO w.heap.size w w1 → w.heap.size ≤ w1.heap.size → (c.pp = none → c.next = D.cd.length ∧ c1 = c) → c1.bg = c.bg → 1 ≤ vd → vd ≤ 5 → AdsB w1 r1 xs → r2.oneCell' = true → Calls prog 150 #[.pointer (some ⟨g, 0, none⟩), .agg [.int .i64 vd, r1, r2, .int .i64 r3].toArray] w1 (RetQ (BhQ lo o0 Q w1)))
  (KN : ∀ w1 v1 c1 L1 i t LL, i < D.cd.length → HsW w0 w1 b g gl D c1 n L1 E TK H false → OusN lo w1 v1 (o0 ++ (newP D.r (D.cd.getD i []) (tysF D.fam) t LL).2.2) → Below b w w1 → KeepO lo w w1 → c1.bg = c.bg + 1 → (c.pp = none → c1.sent = c.sent) → (∃ gp X, c1.pp = some gp ∧ PrAt w0 w1 b gp gl X (newP D.r (D.cd.getD i []) (tysF D.fam) t LL).1) → Q v1 w1) :
  Calls prog 152 #[.pointer (some ⟨g, 0, none⟩), v0] w (RetQ Q) := by
 obtain ⟨A0, c0, rfl, -, -⟩ := hO.form
 have HP := Hh hp
 have HOU := Hh hO
 have HKB := Hh KB
 have HKN := Hh KN
 clear hp hO KB KN
 obtain ⟨pv, d23⟩ : ∃ pv, w.cell? ⟨g, 23, none⟩ = some (.pointer pv) := by
  rcases h with h | h
  ·
   obtain ⟨T, hK, hR⟩ := h.at_.k
   exact ⟨_, hK.ci 13 (by show some (ptrV c.pp) = _; rw [h.pp]; rfl)⟩
  ·
   obtain ⟨T, hK, hR⟩ := h.at_.k
   obtain ⟨gp, X, p, tk, k', hpp, _⟩ := h.pr
   exact ⟨_, hK.ci 13 (by show some (ptrV c.pp) = _; rw [hpp]; rfl)⟩
 have HH := Lib.hid h
 clear h
 ·
  go_enter func152, ntmps152
  go_wp2_with fail
  refine wp_loop_rounds 2 ?_
  rw [rounds_succ]
  go_upto_if 12 with fail
  go_cut [] (fun wx => ∃ c1 L1, Hid (HsS w0 wx b g gl D c1 n L1 E TK) ∧ Hid (OusN lo wx (.slice A0 o0.length c0) o0) ∧ Hid (Below b w wx) ∧ Hid (KeepO w.heap.size w wx) ∧ w.heap.size ≤ wx.heap.size ∧ (c.pp = none → c1 = c) ∧ c1.bg = c.bg)
  case first =>
   rcases HH.out with h | h
   ·
    obtain ⟨T, hK, hR⟩ := h.at_.k
    have e23 := hK.ci 13 (u := .pointer none) (by show some (ptrV c.pp) = _; rw [h.pp]; rfl)
    have hpv : pv = none := by rw [e23] at d23; injection d23 with d23; injection d23 with d23; exact d23.symm
    subst hpv
    have HSS := Lib.hid h
    clear h hK hR e23 d23
    go_wp2_with fail
    go_meet
    case rel => exact ⟨c, L, HSS, HOU, Hh (Below.refl _ _), Hh (KeepO.refl _ _), Nat.le_refl _, fun _ => rfl, rfl⟩
   ·
    obtain ⟨T, hK, hR⟩ := h.at_.k
    obtain ⟨gp, X, p, tk, k', hpp, hPA, hPI, hgo, hd, _⟩ := h.pr
    have e23 := hK.ci 13 (u := .pointer (some ⟨gp, 0, none⟩)) (by show some (ptrV c.pp) = _; rw [hpp]; rfl)
    have hpv : pv = some ⟨gp, 0, none⟩ := by rw [e23] at d23; injection d23 with d23; injection d23 with d23; exact d23.symm
    subst hpv
    have DNE := Hh (pdone_any hPA (Nat.le_trans hPI.bl hPI.tl))
    rw [hd] at DNE
    have LV := Hh (fun W (hW : Below w.heap.size w W) => hleave_any L E TK H (h.frT (p := fun _ => False) (b' := b) (Fr.below hW) (Nat.le_refl _) hbw id id id id id id id) HP.out (Nat.le_trans hbw hW.size))
    have hppn : c.pp ≠ none := by rw [hpp]; simp
    clear h hPA hPI hgo hd hK hR hpp
    go_wp2_with fail
    refine DNE.out.mono ?_
    rintro _ w1 ⟨rfl, hb1⟩
    have LV1 := Hh (LV.out w1 hb1)
    clear LV DNE e23 d23
    go_wp2_with fail
    refine LV1.out.mono ?_
    rintro _ w2 ⟨vd, va, vn, ttl, xs, c2, rfl, hv1, hv5, hxs, hvn, hS2, hbg2, hnx2, hag2, hnd2, hB2, hK2⟩
    obtain ⟨Ax, cx, rfl⟩ := hxs.1.form
    have hone : ∀ u ∈ [Value.int .i64 vd, .slice Ax xs.length cx, vn, .int .i64 ttl], u.oneCell' = true := by
     intro u hu
     simp only [List.mem_cons, List.not_mem_nil, or_false] at hu
     rcases hu with rfl | rfl | rfl | rfl
     ·
      rfl
     ·
      rfl
     ·
      exact hvn
     ·
      rfl
    have HXS := Hh hxs
    have HS2 := Hh hS2
    have HB2 := Hh ((hb1.mono hbw).trans hB2)
    have HK2 := Hh (hK2)
    clear LV1 hxs hS2 hB2 hK2
    have Y1 := Blk.new w2 183 [.int .i64 0, nilS, nilS, .int .i64 0]
    have k1 : Below w2.heap.size w2 (w2.alloc (.cells #[.int .i64 0, .slice none 0 0, .slice none 0 0, .int .i64 0] 183)) := (Below.refl _ _).alloc (Nat.le_refl _) _
    go_wp2_with (refine at_op (.store 183 (.tmp 5) (.tmp 21)) rfl ?_; go_must (refine wpList_stB rfl _ _ _ rfl w2.heap.size 0 rfl [.int .i64 vd, .slice Ax xs.length cx, vn, .int .i64 ttl] rfl Y1 (Nat.le_refl 4) presI4 hone ?_))
    intro w3 B3 g3 sw
    clear sw
    have Y3 : Blk w3 w2.heap.size 183 [.int .i64 vd, .slice Ax xs.length cx, vn, .int .i64 ttl] := by simpa using B3
    have k3 := Hh (below_grown k1 g3 k1.size (Nat.le_refl _))
    clear Y1 k1 B3 g3
    have d0 := Y3.cell_ 0 rfl
    have S3 := Hh (HS2.out.frT (p := fun _ => False) (b' := b) (Fr.below k3.out) (Nat.le_refl _) id id id)
    have hbw2 : b ≤ w2.heap.size := Nat.le_trans (Nat.le_trans hbw HB2.out.size) (Nat.le_refl _)
    have HB3 := Hh (HB2.out.trans (k3.out.mono hbw2))
    have hbw3 : b ≤ w3.heap.size := Nat.le_trans hbw HB3.out.size
    have hw3 : w.heap.size ≤ w3.heap.size := HB3.out.size
    have HK3 : Hid (KeepO w.heap.size w w3) := Hh ((KeepO.below hb1).trans ((HK2.out.mono hb1.size).trans ((KeepO.below k3.out).mono HB2.out.size)))
    have O3 := Hh (KeepO.ous (lo' := 0) HK3.out HOU.out)
    have X3 := Hh (HXS.out.below k3.out)
    obtain ⟨T3, hT3, -⟩ := S3.out.at_.k
    have HT3 := Hh hT3
    clear HS2 HB2 HK2 k3 HXS hb1 hT3
    have hcase : vd = 1 ∨ vd = 2 ∨ vd = 3 ∨ vd = 4 ∨ vd = 5 := by omega
    rcases hcase with rfl | rfl | rfl | rfl | rfl
    ·
     have KB3 := Hh (HKB.out w3 c2 L 1 _ vn ttl xs S3.out HB3.out HK3.out hw3 (fun h => absurd h hppn) hbg2 (by decide) (by decide) X3.out hvn)
     unfold RetQ at KB3
     go_wp2_with (refine at_op (.load 183 (.tmp 5)) rfl ?_; go_must (refine wpList_ldB rfl _ _ rfl w2.heap.size 0 rfl Y3 4 (Nat.le_refl 4) _ underlying183 rfl presI4 _ rfl ?_))
     refine KB3.out.mono ?_
     rintro _ w4 ⟨v4, rfl, o4, hO4, hl4, hK4, hw4, hq⟩
     have O4 := Hh (KeepO.ous (lo' := 0) hK4 O3.out)
     have HO4 := Hh hO4
     have HQ := Hh hq
     have hlo4 : lo ≤ w4.heap.size := by omega
     have hoo : o0.length + o4.length ≤ 100000 := by omega
     obtain ⟨A4, c4, rfl, -, -⟩ := hO4.form
     clear KB3 hO4 hq O3
     go_wp2_with (at_builtin; go_must (refine wpList_appOu _ rfl (.tmp 27) (.tmp 30) rfl rfl rfl O4.out HO4.out hlo4 hoo ?_))
     intro v' w5 ho5 hf5
     have HX := Hh (HQ.out v' w5 ho5 (hf5.mono (fun i hi => (O4.out.ownTy (p := OuTy) rfl i hi))))
     obtain ⟨A5, c5, rfl, -, -⟩ := ho5.form
     clear ho5 hf5 HQ O4 HO4
     go_wp2_with fail
     go_ret
     exact ⟨_, rfl, HX.out⟩
    ·
     go_wp2_with (refine at_op (.store 4 (.tmp 41) (.const (.bool true))) rfl ?_; go_must (refine wpList_stC rfl 4 (.tmp 41) (.const (.bool true)) rfl g 21 rfl (.bool true) rfl HT3.out.1 (by rw [HT3.out.len]; decide) boolI1 rfl rfl ?_))
     intro w4 B4 g4 sw
     clear sw
     have K4 : HK w4 g T3 { c2 with nd := true } := HT3.out.put 11 B4 rfl
     have F4 := S3.out.at_.frG g4
     have S4 := Hh (S3.out.put (c' := { c2 with nd := true }) g4 HT3.out K4 ⟨rfl, rfl, rfl, rfl, rfl, rfl, rfl⟩ ⟨rfl, rfl, rfl⟩ ⟨rfl, rfl, rfl, rfl, rfl, rfl⟩ ⟨S3.out.nm.an, S3.out.nm.bg, S3.out.nm.nx⟩)
     have O4 := Hh (O3.out.frY F4 (by unfold HoTy; decide))
     have HB4 := Hh (F4.toBelowT HB3.out hbw3 (Nat.le_refl b))
     have HK4 := Hh (HK3.out.trans (KeepO.fr (lo := w.heap.size) F4 (by unfold HoTy; decide)))
     have hw4 := Nat.le_trans hw3 F4.size
     clear B4 g4 K4 F4
     go_wp2_with fail
     go_meet
     case rel => exact ⟨_, L, S4, O4, HB4, HK4, hw4, fun h => absurd h hppn, hbg2⟩
    ·
     go_wp2_with fail
     go_meet
     case rel => exact ⟨c2, L, S3, O3, HB3, HK3, hw3, fun h => absurd h hppn, hbg2⟩
    ·
     go_wp2_with (refine at_op (.store 4 (.tmp 36) (.const (.bool true))) rfl ?_; go_must (refine wpList_stC rfl 4 (.tmp 36) (.const (.bool true)) rfl g 20 rfl (.bool true) rfl HT3.out.1 (by rw [HT3.out.len]; decide) boolI1 rfl rfl ?_))
     intro w4 B4 g4 sw
     clear sw
     have K4 : HK w4 g T3 { c2 with ag := true } := HT3.out.put 10 B4 rfl
     have F4 := S3.out.at_.frG g4
     have S4 := Hh (S3.out.put (c' := { c2 with ag := true }) g4 HT3.out K4 ⟨rfl, rfl, rfl, rfl, rfl, rfl, rfl⟩ ⟨rfl, rfl, rfl⟩ ⟨rfl, rfl, rfl, rfl, rfl, rfl⟩ ⟨S3.out.nm.an, S3.out.nm.bg, S3.out.nm.nx⟩)
     have O4 := Hh (O3.out.frY F4 (by unfold HoTy; decide))
     have HB4 := Hh (F4.toBelowT HB3.out hbw3 (Nat.le_refl b))
     have HK4 := Hh (HK3.out.trans (KeepO.fr (lo := w.heap.size) F4 (by unfold HoTy; decide)))
     have hw4 := Nat.le_trans hw3 F4.size
     clear B4 g4 K4 F4
     go_wp2_with fail
     go_meet
     case rel => exact ⟨_, L, S4, O4, HB4, HK4, hw4, fun h => absurd h hppn, hbg2⟩
    ·
     have KB3 := Hh (HKB.out w3 c2 L 5 _ vn ttl xs S3.out HB3.out HK3.out hw3 (fun h => absurd h hppn) hbg2 (by decide) (by decide) X3.out hvn)
     unfold RetQ at KB3
     go_wp2_with (refine at_op (.load 183 (.tmp 5)) rfl ?_; go_must (refine wpList_ldB rfl _ _ rfl w2.heap.size 0 rfl Y3 4 (Nat.le_refl 4) _ underlying183 rfl presI4 _ rfl ?_))
     refine KB3.out.mono ?_
     rintro _ w4 ⟨v4, rfl, o4, hO4, hl4, hK4, hw4, hq⟩
     have O4 := Hh (KeepO.ous (lo' := 0) hK4 O3.out)
     have HO4 := Hh hO4
     have HQ := Hh hq
     have hlo4 : lo ≤ w4.heap.size := by omega
     have hoo : o0.length + o4.length ≤ 100000 := by omega
     obtain ⟨A4, c4, rfl, -, -⟩ := hO4.form
     clear KB3 hO4 hq O3
     go_wp2_with (at_builtin; go_must (refine wpList_appOu _ rfl (.tmp 27) (.tmp 30) rfl rfl rfl O4.out HO4.out hlo4 hoo ?_))
     intro v' w5 ho5 hf5
     have HX := Hh (HQ.out v' w5 ho5 (hf5.mono (fun i hi => (O4.out.ownTy (p := OuTy) rfl i hi))))
     obtain ⟨A5, c5, rfl, -, -⟩ := ho5.form
     clear ho5 hf5 HQ O4 HO4
     go_wp2_with fail
     go_ret
     exact ⟨_, rfl, HX.out⟩
  obtain ⟨c1, L1, S1, O1, B1, K1, hw1, hc1, hbg1⟩ := hcut
  obtain ⟨w1, rfl⟩ : ∃ w1, w1 = wc := ⟨_, rfl⟩
  obtain ⟨T, hK, hR⟩ := S1.out.at_.k
  obtain ⟨Ac, cc, hvc⟩ := S1.out.at_.cd.form
  have d19 := hK.ci 9 (u := .int .i64 (c1.next : Int)) rfl
  have d14 := hK.ci 4 (u := .slice Ac D.cd.length cc) (by rw [← hvc]; rfl)
  have hnx := S1.out.nm.nx
  have hcl := HP.out.cl
  have HKK := Hh hK
  have HRR := Hh hR
  have HVC := Hh hvc
  clear hK hR hvc HH d23
  by_cases hnl : c1.next = D.cd.length
  case pos =>
   have hq : ((c1.next : Int) == (D.cd.length : Int)) = true := by rw [hnl]; exact beq_self_eq_true _
   have HNL := Hh hnl
   clear hnl
   go_wp2_with fail
   go_quiet (fail)
   clear d19 d14
   obtain ⟨wz, hwz⟩ : ∃ wz, wz = w1.drewN nq := ⟨_, rfl⟩
   rw [← hwz]
   have hbz : Below w1.heap.size w1 wz := hwz ▸ below_drewN (Below.refl _ _) nq
   have Sz := Hh (S1.out.frT (p := fun _ => False) (b' := b) (Fr.below hbz) (Nat.le_refl _) id id id)
   have NTH := Hh (hnothing_any (HKK.out.below hbz))
   have hb1 : b ≤ w1.heap.size := Nat.le_trans hbw hw1
   have hvd : 1 ≤ nothingH c1 ∧ nothingH c1 ≤ 5 := by unfold nothingH; split <;> (try split) <;> omega
   have Bz := Hh (B1.out.trans (hbz.mono hb1))
   have Kz : Hid (KeepO w.heap.size w wz) := Hh (K1.out.trans ((KeepO.below hbz).mono hw1))
   have hwz1 : w.heap.size ≤ wz.heap.size := Nat.le_trans hw1 hbz.size
   have Oz := Hh (KeepO.ous (lo' := 0) (KeepO.below hbz) O1.out)
   have KB3 := Hh (HKB.out wz c1 L1 (nothingH c1) (.slice none 0 0) (.slice none 0 0) 0 [] Sz.out Bz.out Kz.out hwz1 (fun h => ⟨by rw [← hc1 h]; exact HNL.out, hc1 h⟩) hbg1 hvd.1 hvd.2 ⟨LOwn.nil _ _ _ _ _, by simp⟩ rfl)
   unfold RetQ at KB3
   obtain ⟨vd, hvde⟩ : ∃ vd, nothingH c1 = vd := ⟨_, rfl⟩
   rw [hvde] at NTH KB3
   clear hwz hbz Sz S1 O1 B1 K1 Bz Kz HKK HRR HVC hvd hvde
   have RB3 := Hh (fun V => bld_pres vd V)
   have hlz : lo ≤ wz.heap.size := Nat.le_trans hlo hwz1
   go_wp2_with fail
   refine NTH.out.mono ?_
   rintro _ _ ⟨rfl, rfl⟩
   go_wp2_with (refine at_op (.build 183 #[(0, .tmp 55)]) rfl ?_; go_must (refine wpList_bld rfl 183 _ rfl #[(0, .int .i64 vd)] (by simp [Act.eval, Act.put]) (RB3.out _) ?_))
   refine KB3.out.mono ?_
   rintro _ w4 ⟨v4, rfl, o4, hO4, hl4, hK4, hw4, hq⟩
   have O4 := Hh (KeepO.ous (lo' := 0) hK4 Oz.out)
   have HO4 := Hh hO4
   have HQ := Hh hq
   have hlo4 : lo ≤ w4.heap.size := by omega
   have hoo : o0.length + o4.length ≤ 100000 := by omega
   obtain ⟨A4, c4, rfl, -, -⟩ := hO4.form
   clear KB3 hO4 hq Oz
   go_wp2_with (at_builtin; go_must (refine wpList_appOu _ rfl (.tmp 52) (.tmp 57) rfl rfl rfl O4.out HO4.out hlo4 hoo ?_))
   intro v' w5 ho5 hf5
   have HX := Hh (HQ.out v' w5 ho5 (hf5.mono (fun i hi => (O4.out.ownTy (p := OuTy) rfl i hi))))
   obtain ⟨A5, c5, rfl, -, -⟩ := ho5.form
   clear ho5 hf5 HQ O4 HO4
   go_wp2_with fail
   go_ret
   exact ⟨_, rfl, HX.out⟩
  case neg =>
   have hq : ((c1.next : Int) == (D.cd.length : Int)) = false := by
    have : ¬ (c1.next : Int) = (D.cd.length : Int) := by omega
    simpa using this
   have hlt : c1.next < D.cd.length := by omega
   have hCD := S1.out.at_.cd
   rw [HVC.out] at hCD
   obtain ⟨bcd, rfl, hbl, h3⟩ := hCD.at_ (fun cs x h => h.len) (by omega)
   obtain ⟨_, hcell, nv, rfl, hnm⟩ := h3 c1.next hlt
   obtain ⟨An, cn, rfl, hNR⟩ := hnm.form
   obtain ⟨Lc, hLc⟩ := LOwn.hasBlk hCD (by omega)
   have hLi : Lc[0 + c1.next * 1]? = some (.slice An (D.cd[c1.next]).length cn) := (hLc.cell _).symm.trans (by simpa using hcell 0 _ rfl)
   have hck := HP.out.cn _ (List.getElem_mem hlt)
   have hge : D.cd.getD c1.next [] = D.cd[c1.next] := by rw [List.getD_eq_getElem?_getD, List.getElem?_eq_getElem hlt]; rfl
   have HNR := Hh hNR
   have HLC := Hh hLc
   have HLI := Hh hLi
   have HCK := Hh hck
   have HGE := Hh hge
   clear hCD hcell h3 hnm hNR hLc hLi hck hge hnl
   obtain ⟨nm, hnm⟩ : ∃ nm, Hid (D.cd[c1.next] = nm) := ⟨_, Hh rfl⟩
   rw [hnm.out] at HNR HLI HCK HGE
   clear hnm
   go_wp2_with fail
   go_quiet (fail)
   clear d19 d14 hq
   obtain ⟨wz, hwz⟩ : ∃ wz, wz = w1.drewN nq := ⟨_, rfl⟩
   rw [← hwz]
   have hbz : Below w1.heap.size w1 wz := hwz ▸ below_drewN (Below.refl _ _) nq
   have Sz := Hh (S1.out.frT (p := fun _ => False) (b' := b) (Fr.below hbz) (Nat.le_refl _) id id id)
   have hb1 : b ≤ w1.heap.size := Nat.le_trans hbw hw1
   have hbz1 : b ≤ wz.heap.size := Nat.le_trans hb1 hbz.size
   have Bz := Hh (B1.out.trans (hbz.mono hb1))
   have Kz : Hid (KeepO w.heap.size w wz) := Hh (K1.out.trans ((KeepO.below hbz).mono hw1))
   have hwz1 : w.heap.size ≤ wz.heap.size := Nat.le_trans hw1 hbz.size
   have Oz := Hh (KeepO.ous (lo' := 0) (KeepO.below hbz) O1.out)
   have NRz := Hh (HNR.out.below hbz)
   have LCz : Blk wz bcd 81 Lc := HLC.out.below hbz HLC.out.lt
   have Kz1 : HK wz g T c1 := HKK.out.below hbz
   have RRz := Hh (HRR.out.below hbz)
   have heq := S1.out.at_.eq
   obtain ⟨q1, q2, q3, q4, q5⟩ := heq
   clear hwz hbz S1 O1 B1 K1 HKK HRR HNR HLC
   have hbg63 := Sz.out.nm.b56 HP.out
   have PN := Hh (fun V (hV : Below wz.heap.size wz V) t => pnew_any' w0 b gl T D.r An cn nm D.fam t L1 (E + c1.bg) H V ((RRz.out.below hV).rsIn (by have := HP.out.rs; omega) (by have := HP.out.rs; omega) (by have := HP.out.rs; omega)) (Sz.out.at_.ba.trans (hV.mono Sz.out.at_.ba.size)) (NRz.out.below hV) (check_100k HCK.out) (Sz.out.lt.below hV) Sz.out.us (by omega) Sz.out.ds Sz.out.at_.wb (Nat.le_trans hbz1 hV.size) Sz.out.at_.bl)
   go_wp2_with fail
   refine wp_region_held_drew (S := fun V => HK V g T c1 ∧ Blk V bcd 81 Lc) (by kernel_rfl) ⟨⟨Kz1.1.drew, Kz1.2⟩, LCz.drew⟩ (fun hS => ?_)
   have hT10 := Kz1.2
   refine held_seq hS 33 [0,1,2,3,4,5,6,7,8,9,10,11,12,13,14,15,16,17,18,19,20,21,22,23,24,25,26,27,28,29,30,31,32] rfl (by kernel_rfl) (fun _ _ _ _ _ h => h) rfl rfl ?_
   (refine ⟨_, (.pointer (some ⟨g, 0, none⟩)), rfl, .inl ⟨rfl, fun V hV => rfl⟩, ?_⟩; simp only [Act.put, lsA, lsB, lsC])
   (refine ⟨_, (.pointer (some ⟨g, 0, none⟩)), rfl, .inl ⟨rfl, fun V hV => rfl⟩, ?_⟩; simp only [Act.put, lsA, lsB, lsC])
   (refine ⟨_, (.pointer (some ⟨g, 0, none⟩)), rfl, .inl ⟨rfl, fun V hV => rfl⟩, ?_⟩; simp only [Act.put, lsA, lsB, lsC])
   (refine ⟨_, (.pointer (some ⟨g, 0, none⟩)), rfl, .inl ⟨rfl, fun V hV => rfl⟩, ?_⟩; simp only [Act.put, lsA, lsB, lsC])
   (refine ⟨_, _, rfl, .inl ⟨rfl, fun V hV => (exec_ld 37 (.tmp 63) ⟨g, 0, none⟩ rfl rfl (hV.1.1.loads 37 0 10 (by rw [List.length_append]; omega) _ underlying37 rfl rsI10 T (by rw [List.drop_zero, List.take_left' hT10])))⟩, ?_⟩; simp only [Act.put, lsA, lsB, lsC])
   (refine ⟨_, (.pointer (some ⟨g, 0, none⟩)), rfl, .inl ⟨rfl, fun V hV => rfl⟩, ?_⟩; simp only [Act.put, lsA, lsB, lsC])
   (refine ⟨_, (.pointer (some ⟨g, 0, none⟩)), rfl, .inl ⟨rfl, fun V hV => rfl⟩, ?_⟩; simp only [Act.put, lsA, lsB, lsC])
   (refine ⟨_, (.pointer (some ⟨g, 14, none⟩)), rfl, .inl ⟨rfl, fun V hV => rfl⟩, ?_⟩; simp only [Act.put, lsA, lsB, lsC])
   (refine ⟨_, _, rfl, .inl ⟨rfl, fun V hV => (exec_ld 34 (.tmp 67) ⟨g, 14, none⟩ rfl rfl (run_load1 underlying34 rfl (hV.1.ci 4 (u := .slice (some ⟨bcd, 0, none⟩) D.cd.length cc) (by rw [← HVC.out]; rfl))))⟩, ?_⟩; simp only [Act.put, lsA, lsB, lsC])
   (refine ⟨_, (.pointer (some ⟨g, 0, none⟩)), rfl, .inl ⟨rfl, fun V hV => rfl⟩, ?_⟩; simp only [Act.put, lsA, lsB, lsC])
   (refine ⟨_, (.pointer (some ⟨g, 0, none⟩)), rfl, .inl ⟨rfl, fun V hV => rfl⟩, ?_⟩; simp only [Act.put, lsA, lsB, lsC])
   (refine ⟨_, (.pointer (some ⟨g, 19, none⟩)), rfl, .inl ⟨rfl, fun V hV => rfl⟩, ?_⟩; simp only [Act.put, lsA, lsB, lsC])
   (refine ⟨_, _, rfl, .inl ⟨rfl, fun V hV => (exec_ld 3 (.tmp 71) ⟨g, 19, none⟩ rfl rfl (run_load1 underlying3 rfl (hV.1.ci 9 (u := .int .i64 (c1.next : Int)) rfl)))⟩, ?_⟩; simp only [Act.put, lsA, lsB, lsC])
   (refine ⟨_, _, rfl, .inl ⟨rfl, fun V hV => (exec_ixK underlying34 nameInfo1 (by decide) (.tmp 68) (.tmp 72) rfl rfl rfl hlt V)⟩, ?_⟩; simp only [Act.put, lsA, lsB, lsC])
   (refine ⟨_, _, rfl, .inl ⟨rfl, fun V hV => (exec_ld 81 (.tmp 73) ⟨bcd, 0 + c1.next * 1, none⟩ rfl rfl (run_load1 underlying81 rfl (hV.2.cell_ _ HLI.out)))⟩, ?_⟩; simp only [Act.put, lsA, lsB, lsC])
   (refine ⟨_, (.pointer (some ⟨g, 0, none⟩)), rfl, .inl ⟨rfl, fun V hV => rfl⟩, ?_⟩; simp only [Act.put, lsA, lsB, lsC])
   (refine ⟨_, (.pointer (some ⟨g, 0, none⟩)), rfl, .inl ⟨rfl, fun V hV => rfl⟩, ?_⟩; simp only [Act.put, lsA, lsB, lsC])
   (refine ⟨_, (.pointer (some ⟨g, 15, none⟩)), rfl, .inl ⟨rfl, fun V hV => rfl⟩, ?_⟩; simp only [Act.put, lsA, lsB, lsC])
   (refine ⟨_, _, rfl, .inl ⟨rfl, fun V hV => (exec_ld 3 (.tmp 77) ⟨g, 15, none⟩ rfl rfl (run_load1 underlying3 rfl (hV.1.ci 5 (u := .int .i64 D.fam) (by rw [← q2]; rfl))))⟩, ?_⟩; simp only [Act.put, lsA, lsB, lsC])
   (refine ⟨_, (.pointer (some ⟨g, 0, none⟩)), rfl, .inl ⟨rfl, fun V hV => rfl⟩, ?_⟩; simp only [Act.put, lsA, lsB, lsC])
   (refine ⟨_, (.pointer (some ⟨g, 0, none⟩)), rfl, .inl ⟨rfl, fun V hV => rfl⟩, ?_⟩; simp only [Act.put, lsA, lsB, lsC])
   (refine ⟨_, (.pointer (some ⟨g, 16, none⟩)), rfl, .inl ⟨rfl, fun V hV => rfl⟩, ?_⟩; simp only [Act.put, lsA, lsB, lsC])
   (refine ⟨_, _, rfl, .inl ⟨rfl, fun V hV => (exec_ld 3 (.tmp 81) ⟨g, 16, none⟩ rfl rfl (run_load1 underlying3 rfl (hV.1.ci 6 (u := .int .i64 D.turn) (by rw [← q3]; rfl))))⟩, ?_⟩; simp only [Act.put, lsA, lsB, lsC])
   (refine ⟨_, (.pointer (some ⟨g, 0, none⟩)), rfl, .inl ⟨rfl, fun V hV => rfl⟩, ?_⟩; simp only [Act.put, lsA, lsB, lsC])
   (refine ⟨_, (.pointer (some ⟨g, 0, none⟩)), rfl, .inl ⟨rfl, fun V hV => rfl⟩, ?_⟩; simp only [Act.put, lsA, lsB, lsC])
   (refine ⟨_, (.pointer (some ⟨g, 22, none⟩)), rfl, .inl ⟨rfl, fun V hV => rfl⟩, ?_⟩; simp only [Act.put, lsA, lsB, lsC])
   (refine ⟨_, _, rfl, .inl ⟨rfl, fun V hV => (exec_ld 3 (.tmp 85) ⟨g, 22, none⟩ rfl rfl (run_load1 underlying3 rfl (hV.1.ci 12 (u := .int .i64 (c1.bg : Int)) rfl)))⟩, ?_⟩; simp only [Act.put, lsA, lsB, lsC])
   (refine ⟨_, (.int .i64 (IntKind.i64.wrap (2 * (c1.bg : Int)))), rfl, .inl ⟨rfl, fun V hV => rfl⟩, ?_⟩; simp only [Act.put, lsA, lsB, lsC])
   (refine ⟨_, (.int .i64 (IntKind.i64.wrap (D.turn + IntKind.i64.wrap (2 * (c1.bg : Int))))), rfl, .inl ⟨rfl, fun V hV => rfl⟩, ?_⟩; simp only [Act.put, lsA, lsB, lsC])
   (refine ⟨_, (.pointer (some ⟨g, 0, none⟩)), rfl, .inl ⟨rfl, fun V hV => rfl⟩, ?_⟩; simp only [Act.put, lsA, lsB, lsC])
   (refine ⟨_, (.pointer (some ⟨g, 0, none⟩)), rfl, .inl ⟨rfl, fun V hV => rfl⟩, ?_⟩; simp only [Act.put, lsA, lsB, lsC])
   (refine ⟨_, (.pointer (some ⟨g, 17, none⟩)), rfl, .inl ⟨rfl, fun V hV => rfl⟩, ?_⟩; simp only [Act.put, lsA, lsB, lsC])
   (refine ⟨_, _, rfl, .inl ⟨rfl, fun V hV => (exec_ld 73 (.tmp 91) ⟨g, 17, none⟩ rfl rfl (run_load1 underlying73 rfl (hV.1.ci 7 (u := .pointer (some ⟨gl, 0, none⟩)) (by rw [← q1]; rfl))))⟩, ?_⟩; simp only [Act.put, lsA, lsB, lsC])
   simp only [SeqC]
   obtain ⟨t, ht⟩ : ∃ t, IntKind.i64.wrap (D.turn + IntKind.i64.wrap (2 * (c1.bg : Int))) = t := ⟨_, rfl⟩
   rw [ht]
   refine held_call 33 (some 93) 206 _ (by kernel_rfl) rfl rfl (by kernel_rfl) (by go_simp) (PN.out _ ((Below.refl _ _).drew) t) ?_
   rintro _ w3 ⟨gp, v3, X, rfl, hO3, hPA, hL3, hF3, hPI, hgo, hgp⟩
   have A3 := Hh ((Sz.out.at_.below ((Below.refl _ _).drew)).frT hF3 (Nat.le_refl b) (by unfold PrTy; decide) (by unfold PrTy; decide))
   have K3 : HK w3 g T c1 := ⟨hF3.blk (Kz1.1.drew) (TyS.not Kz1.1.drew (by unfold PrTy; decide)), Kz1.2⟩
   have LC3 := hF3.blkT LCz.drew (by unfold StTy; decide)
   have hRl : (newP D.r nm (tysF D.fam) t L1).2.2.length ≤ 3 := begin_len 3 (startP (heldR D.r) nm (tysF D.fam) t) L1 []
   have hRd := (newP_wait D.r nm D.fam t L1 HCK.out).1
   have hRs := begin_st 3 (startP (heldR D.r) nm (tysF D.fam) t) L1 []
   have hKN := HKN.out
   have HKN2 := Hh (fun w1 v1 c1' L1' h => hKN w1 v1 c1' L1' c1.next t L1 hlt h)
   rw [HGE.out] at HKN2
   change _ = nm ∧ _ = tysF D.fam ∧ _ = heldR D.r at hRs
   change (newP D.r nm (tysF D.fam) t L1).1.nm = _ ∧ (newP D.r nm (tysF D.fam) t L1).1.tys = _ ∧ (newP D.r nm (tysF D.fam) t L1).1.r = _ at hRs
   generalize newP D.r nm (tysF D.fam) t L1 = R at *
   obtain ⟨A3', c3, rfl, -, -⟩ := hO3.form
   have O3' := Hh hO3
   have O3 := Hh ((OusN.below Oz.out ((Below.refl _ _).drew)).frY hF3 (by unfold PrTy; decide))
   have P3 := Hh hPA
   have HL3 := Hh hL3
   have HPI := Hh (And.intro hPI hgo)
   have B3 := Hh (hF3.toBelowT (Bz.out.drew) hbz1 (Nat.le_refl b))
   have KP3 : Hid (KeepO lo w w3) := Hh ((Kz.out.mono hlo).trans ((KeepO.below ((Below.refl wz.heap.size wz).drew)).mono (Nat.le_trans hlo hwz1) |>.trans (KeepO.fr hF3 (by unfold PrTy; decide))))
   have hw3 : wz.heap.size ≤ w3.heap.size := hF3.size
   clear hKN HKN hPA hL3 hPI hgo hO3 hF3 PN Oz Bz Kz NRz RRz
   refine ⟨_, rfl, ⟨K3, LC3⟩, ?_⟩
   clear hS
   have hS : HK w3 g T c1 ∧ Blk w3 bcd 81 Lc := ⟨K3, LC3⟩
   simp only [Act.put, lsA, lsB, lsC]
   refine held_seq hS 5 [34, 35, 36, 37, 38] rfl (by kernel_rfl) (fun _ _ _ _ _ h => h) rfl rfl ?_
   (refine ⟨_, (.tuple #[.pointer (some ⟨gp, 0, none⟩), .slice A3' R.2.2.length c3]), rfl, .inl ⟨rfl, fun V hV => rfl⟩, ?_⟩; simp only [Act.put, lsA, lsB, lsC])
   (refine ⟨_, (.pointer (some ⟨gp, 0, none⟩)), rfl, .inl ⟨rfl, fun V hV => rfl⟩, ?_⟩; simp only [Act.put, lsA, lsB, lsC])
   (refine ⟨_, (.slice A3' R.2.2.length c3), rfl, .inl ⟨rfl, fun V hV => rfl⟩, ?_⟩; simp only [Act.put, lsA, lsB, lsC])
   (refine ⟨_, (.pointer (some ⟨gp, 0, none⟩)), rfl, .inl ⟨rfl, fun V hV => rfl⟩, ?_⟩; simp only [Act.put, lsA, lsB, lsC])
   (refine ⟨_, (.slice A3' R.2.2.length c3), rfl, .inl ⟨rfl, fun V hV => rfl⟩, ?_⟩; simp only [Act.put, lsA, lsB, lsC])
   simp only [SeqC]
   refine wpAnyH_done (by kernel_rfl) ?_ _
   have HBG := Hh hbg1
   clear hS LC3 LCz Kz1 q1 q2 q3 q4 q5 hT10 hbg1
   go_wp2_with (refine at_op (.store 181 (.tmp 99) (.tmp 97)) rfl ?_; go_must (refine wpList_stC rfl 181 (.tmp 99) (.tmp 97) rfl g 23 rfl (.pointer (some ⟨gp, 0, none⟩)) rfl K3.1 (by rw [K3.len]; decide) pairp_i1 rfl rfl ?_))
   intro w4 B4 g4 sw
   clear sw
   have K4 : HK w4 g T { c1 with pp := some gp } := K3.put 13 B4 rfl
   have d19 := K4.ci 9 (u := .int .i64 (c1.next : Int)) rfl
   clear B4
   go_wp2_with (refine at_op (.store 3 (.tmp 106) (.tmp 104)) rfl ?_; go_must (refine wpList_stC rfl 3 (.tmp 106) (.tmp 104) rfl g 19 rfl (.int .i64 ((c1.next + 1 : Nat) : Int)) (by go_simp) K4.1 (by rw [K4.len]; decide) intInfo1 rfl rfl ?_))
   intro w5 B5 g5 sw
   clear sw d19
   have K5 : HK w5 g T { c1 with pp := some gp, next := c1.next + 1 } := K4.put 9 B5 rfl
   have d22 := K5.ci 12 (u := .int .i64 (c1.bg : Int)) rfl
   clear B5
   go_wp2_with (refine at_op (.store 3 (.tmp 113) (.tmp 111)) rfl ?_; go_must (refine wpList_stC rfl 3 (.tmp 113) (.tmp 111) rfl g 22 rfl (.int .i64 ((c1.bg + 1 : Nat) : Int)) (by go_simp) K5.1 (by rw [K5.len]; decide) intInfo1 rfl rfl ?_))
   intro w6 B6 g6 sw
   clear sw d22
   have K6 : HK w6 g T { c1 with pp := some gp, next := c1.next + 1, bg := c1.bg + 1 } := K5.put 12 B6 rfl
   clear B6
   have hpp1 := Sz.out.pp
   have G6 := grown_trans (grown_trans g4 g5 (.inl rfl)) g6 (.inl rfl)
   have A6 := Hh (A3.out.put (c' := { c1 with pp := some gp, next := c1.next + 1, bg := c1.bg + 1 }) G6 K3 K6 ⟨rfl, rfl, rfl, rfl, rfl, rfl, rfl⟩ ⟨rfl, rfl, rfl⟩ (fun m hm => by rw [hpp1] at hm; simp at hm ⊢; omega) A3.out.r1 A3.out.eq.2.2.2.1)
   have F6 := A3.out.frG G6
   have hbw3 : b ≤ w3.heap.size := Nat.le_trans hbz1 hw3
   have L6 := HL3.out.frT F6 (by unfold HoTy; decide)
   have P6 := P3.out.frT F6 (Nat.le_refl b) hbw3 (by unfold HoTy; decide) (by unfold HoTy; decide) (by unfold HoTy; decide) (by unfold HoTy; decide)
   have O6 := Hh (O3.out.frY F6 (by unfold HoTy; decide))
   have O6' := Hh (O3'.out.frY F6 (by unfold HoTy; decide))
   have B6 := F6.toBelowT B3.out hbw3 (Nat.le_refl b)
   have KP6 : KeepO lo w w6 := KP3.out.trans (KeepO.fr F6 (by unfold HoTy; decide))
   have hw6 : lo ≤ w6.heap.size := Nat.le_trans (Nat.le_trans hlo hwz1) (Nat.le_trans hw3 F6.size)
   have HN : HsN D { c1 with pp := some gp, next := c1.next + 1, bg := c1.bg + 1 } n := ⟨Sz.out.nm.an, by have := Sz.out.nm.bg; show c1.bg + 1 ≤ 7 * (n - 1) + (c1.next + 1); omega, hlt⟩
   have hm2 : 2 * mostR D.r * (c1.bg + 1) = 2 * mostR D.r * c1.bg + 2 * mostR D.r := by rw [Nat.mul_add, Nat.mul_one]
   have ht2 : 2 * ticksR D.r * (c1.bg + 1) = 2 * ticksR D.r * c1.bg + 2 * ticksR D.r := by rw [Nat.mul_add, Nat.mul_one]
   have W6 : HsW w0 w6 b g gl D { c1 with pp := some gp, next := c1.next + 1, bg := c1.bg + 1 } n R.2.1 E TK H false :=
    ⟨A6.out, L6, HN, HPI.out.1.ds, by have := Sz.out.sn; show c1.sent + 2 * mostR D.r ≤ 2 * mostR D.r * (c1.bg + 1); omega, Sz.out.dn, gp, X, R.1, 0, E + c1.bg, rfl, P6, HPI.out.1, HPI.out.2, hRd, by rw [hRs.1]; exact check_100k HCK.out, hRs.2.1, hRs.2.2, by have := Sz.out.tk; show TK + 2 * ticksR D.r ≤ 2 * ticksR D.r * (c1.bg + 1) + 0; omega, Nat.zero_le _, by show E + c1.bg + 1 ≤ E + (c1.bg + 1); omega⟩
   have HW6 := Hh W6
   have HP6 := Hh P6
   have HB6 := Hh B6
   have HK6 := Hh KP6
   have hoo : o0.length + R.2.2.length ≤ 100000 := by omega
   have hbw6 : b ≤ w6.heap.size := Nat.le_trans hb hw6
   clear G6 A6 F6 L6 P6 B6 KP6 HN W6 A3 K3 K4 K5 g4 g5 g6 hpp1 hm2 ht2 HPI P3 HL3 B3 KP3 O3 O3' hRs hRd Sz
   go_wp2_with (at_builtin; go_must (refine wpList_appOu _ rfl (.tmp 114) (.tmp 115) rfl rfl rfl O6.out O6'.out hw6 hoo ?_))
   intro v' w7 ho7 hf7
   have F7 : Fr (TyS w6 OuTy lo) w6 w7 := hf7.mono (fun i hi => (O6.out.ownTy (p := OuTy) rfl i hi))
   obtain ⟨A7, c7, rfl, -, -⟩ := ho7.form
   have HO7 := Hh ho7
   have W7 := Hh (HW6.out.frT F7 hb hbw6 (by unfold OuTy; decide) (by unfold OuTy; decide) (by unfold OuTy; decide) (by unfold OuTy; decide) (by unfold OuTy; decide) (by unfold OuTy; decide) (by unfold OuTy; decide))
   have HP7 := Hh (HP6.out.frT F7 hb hbw6 (by unfold OuTy; decide) (by unfold OuTy; decide) (by unfold OuTy; decide) (by unfold OuTy; decide))
   have HB7 := Hh (F7.toBelowT HB6.out hbw6 hb)
   have HK7 : Hid (KeepO lo w w7) := Hh (HK6.out.trans (fun i L t hi _ x => F7.blk x (fun k => by have := k.1; omega)))
   have hbw7 : b ≤ w7.heap.size := Nat.le_trans hbw6 F7.size
   have hlo7 : lo ≤ w7.heap.size := Nat.le_trans hw6 F7.size
   have K7 : HK w7 g T _ := ⟨F7.blk K6.1 (TyS.not K6.1 (by unfold OuTy; decide)), K6.2⟩
   have d23 := K7.ci 13 (u := .pointer (some ⟨gp, 0, none⟩)) rfl
   obtain ⟨gp', X', p', tk', k', hpp', hPA', hPI', hgo', hd', -⟩ := W7.out.pr
   obtain rfl : gp = gp' := by injection hpp'
   have DNE := Hh (pdone_any hPA' (Nat.le_trans hPI'.bl hPI'.tl))
   rw [hd'] at DNE
   clear ho7 hf7 F7 HW6 HP6 HB6 HK6 O6 O6' K6 K7 hpp' hPA' hPI' hgo' hd'
   go_wp2_with fail
   rw [rounds_succ]
   go_wp2_with fail
   refine DNE.out.mono ?_
   rintro _ wy ⟨rfl, hby⟩
   go_wp2_with fail
   have W8 := W7.out.frT (p := fun _ => False) (b' := b) (Fr.below hby) (Nat.le_refl _) hbw7 id id id id id id id
   have hQ := HKN2.out wy _ _ _ W8 (OusN.below HO7.out hby) (HB7.out.trans (hby.mono hbw7)) (HK7.out.trans ((KeepO.below hby).mono hlo7)) (by show c1.bg + 1 = c.bg + 1; rw [HBG.out]) (fun hpn => by show c1.sent = c.sent; rw [hc1 hpn]) ⟨gp, X, rfl, HP7.out.frT (q := fun _ => False) (b' := b) (Fr.below hby) (Nat.le_refl _) hbw7 id id id id⟩
   rw [List.length_append] at hQ
   go_ret
   exact ⟨_, rfl, hQ⟩
end
theorem own_ne {w w' : World} {B : Nat} {e : TypeId} {s n k : Nat} {v : Value} {xs : List Value} (h : w.ownsRow B e s v n xs) (hg : w.grownBy w' (some k)) (hne : v.ownBlock ≠ some k) : w'.ownsRow B e s v n xs := by
 obtain ⟨h0, h⟩ := h
 refine ⟨h0, ?_⟩
 rcases h with h | ⟨g, cap, cur, hv, hB, hb, r⟩
 ·
  exact .inl h
 ·
  have hb' : Blk w g e cur.toList := hb
  refine .inr ⟨g, cap, cur, hv, hB, (hg.block g hb'.lt ?_).trans hb, r⟩
  intro hc
  injection hc with hc
  apply hne
  rw [hv, hc]; rfl
theorem own_int {w : World} {g n : Nat} {v : Value} {xs : List Value} (h : w.ownsRow g 3 1 v n xs) : v.ownBlock = none ∨ ∃ k L, v.ownBlock = some k ∧ g ≤ k ∧ Blk w k 3 L := by
 rcases h.2 with ⟨hv, h0⟩ | ⟨k, cap, cur, hv, hB, hb, r⟩
 ·
  exact .inl (by rw [hv]; rfl)
 ·
  exact .inr ⟨k, cur.toList, by rw [hv]; rfl, hB, hb⟩
theorem LotAt.num {w w' : World} {gl k : Nat} {L : Lt} {xs : List Value} (h : LotAt w gl L) (hg : w.grownBy w' (some k)) (hb : Blk w k 3 xs) (hk : gl < k) : LotAt w' gl L := by
 obtain ⟨v, h1, h2, h3⟩ := h
 refine ⟨v, h1.grown hg (by simp; omega), own_ne h2 hg (fun hc => ?_), h3⟩
 have := h3 k hc
 omega
theorem HstO.num {w0 w w' : World} {k : Nat} {cs xs : List Value} {x : Hst} (h : HstO w0 w cs x) (hg : w.grownBy w' (some k)) (hb : Blk w k 3 xs) : HstO w0 w' cs x := by
 obtain ⟨v, h0, h1, h2⟩ := h
 exact ⟨v, h0, h1, h2.blk hg hb (by decide)⟩
section
variable {w0 w w' w'' : World} {b g gl n : Nat} {D : HsD} {c : Hc} {L : Lt} {E TK : Nat}
theorem HK.num {T : List Value} {v : Value} {xs : List Value} {m : Nat} (hk : HK w g T c) (ho : w.ownsRow g 3 1 v m xs) (hg : w.grownBy w' v.ownBlock) : HK w' g T c := by
 rcases own_int ho with hn | ⟨k, M, hn, hgk, hM⟩
 ·
  rw [hn] at hg
  exact hk.below ⟨hg.os, hg.tape, hg.output, hg.size, fun i hi => hg.block i hi (by simp)⟩
 ·
  rw [hn] at hg
  exact ⟨hk.1.grown hg (by simp; intro he; subst he; have := hk.1; unfold Blk at this hM; rw [this] at hM; injection hM with hM; injection hM with _ hM; exact absurd hM (by decide)), hk.2⟩
theorem HsS.asked (h : HsS w0 w b g gl D c n L E TK) (hg : w.grownBy w' c.av.ownBlock) {av : Value} (ho : w'.ownsRow g 3 1 av (n + 1) (i64s (seqI (n + 1)))) (hlt : n < D.ss.length) (hbg : c.bg ≤ 7 * n) {T : List Value} (hk : HK w g T c) (h2 : w'.grownBy w'' (some g)) (hk2 : HK w'' g T { c with av := av }) : HsS w0 w'' b g gl D { c with av := av } (n + 1) L E TK ∧ Below b w w'' ∧ KeepO w.heap.size w w'' := by
 obtain ⟨T', hk', hr⟩ := h.at_.k
 have := hk.same hk'
 subst this
 obtain ⟨l, htl, hll⟩ := h.at_.td
 obtain ⟨xs, hxs⟩ := h.at_.r1
 have hgg := h.at_.lg
 have hbl := h.at_.bl
 have hwb := h.at_.wb
 have key : HK w' g T' c ∧ RsO w0 w' T' D.r ∧ LOwn w' 0 196 19 (HstO w0 w') c.vh D.hs ∧ LOwn w' 0 147 5 SrcI c.vs D.ss ∧ NmO w' c.nv D.nm ∧ CdsO w' 0 c.cv D.cd ∧ TdsO w' g c.tv l ∧ AdsB w' c.r1 xs ∧ Below w0.heap.size w0 w' ∧ LotAt w' gl L ∧ Below b w w' ∧ KeepO w.heap.size w w' := by
  rcases own_int h.at_.as_ with hn | ⟨k, M, hn, hgk, hM⟩
  ·
   rw [hn] at hg
   have hb : Below w.heap.size w w' := ⟨hg.os, hg.tape, hg.output, hg.size, fun i hi => hg.block i hi (by simp)⟩
   refine ⟨hk.below hb, hr.below hb, LOwn.below h.at_.hs hb (fun _ _ x => x.below hb), LOwn.below h.at_.ss hb (fun _ _ x => x), h.at_.nm.stays (Stays.below hb), h.at_.cd.below hb, TdsO.below htl hb, hxs.below hb, h.at_.ba.trans (hb.mono h.at_.ba.size), h.lt.below hb, hb.mono (by have := hk.1.lt; omega), KeepO.below hb⟩
  ·
   rw [hn] at hg
   have hs : Stays w w' := Stays.blk hg hM (by decide)
   obtain ⟨v1, v2, v3, r0, r1, r2, r3⟩ := hr
   exact ⟨⟨hk.1.grown hg (by simp; intro he; subst he; have := hk.1; unfold Blk at this hM; rw [this] at hM; injection hM with hM; injection hM with _ hM; exact absurd hM (by decide)), hk.2⟩, ⟨v1, v2, v3, r0, r1.blk hg hM (by decide), r2.blk hg hM (by decide), r3.blk hg hM (by decide)⟩, h.at_.hs.stays (fun _ x => own_blk x hg hM (by decide)) (fun _ _ x => x.num hg hM), h.at_.ss.blk hg hM (by decide), h.at_.nm.stays hs, h.at_.cd.stays (fun _ x => own_blk x hg hM (by decide)) (fun _ _ x => x.stays hs), htl.stays (fun _ x => own_blk x hg hM (by decide)) (fun _ _ x => x.blkT hg hM (by decide) (by decide) (by decide)), ⟨hxs.1.blk hg hM (by decide), hxs.2⟩, ⟨hg.os.trans h.at_.ba.os, hg.tape.trans h.at_.ba.tape, hg.output.trans h.at_.ba.output, Nat.le_trans h.at_.ba.size hg.size, fun i hi => (hg.block i (Nat.lt_of_lt_of_le hi h.at_.ba.size) (by simp; omega)).trans (h.at_.ba.block i hi)⟩, h.lt.num hg hM (by omega), ⟨hg.os, hg.tape, hg.output, hg.size, fun i hi => hg.block i (by have := hk.1.lt; omega) (by simp; omega)⟩, fun i M' t hi ht hb' => hb'.grown hg (by simp; intro he; subst he; unfold Blk at hb' hM; rw [hb'] at hM; injection hM with hM; injection hM with _ hM; exact absurd hM ht.ni)⟩
 obtain ⟨k1, k2, k3, k4, k5, k6, k7, k8, k9, k10, k11, k12⟩ := key
 have k : Fr (TyS w' HoTy b) w' w'' := Fr.grown h2 k1.1 (by unfold StTy; decide) ⟨by omega, _, _, k1.1, rfl⟩
 have hbw' : b ≤ w'.heap.size := by have := k1.1.lt; omega
 refine ⟨⟨⟨⟨T', hk2, k2.fr k⟩, k3.stays (fun _ x => k.own x (by unfold StTy; decide)) (fun _ _ x => x.fr k), k4.stays (fun _ x => k.own x (by unfold StTy; decide)) (fun _ _ x => x), k5.stays k.stays, k6.stays (fun _ x => k.own x (by unfold StTy; decide)) (fun _ _ x => x.stays k.stays), k.own ho (by unfold StTy; decide), ⟨l, k7.stays (fun _ x => k.ownT x (by unfold HoTy; decide)) (fun _ _ x => x.fr k), hll⟩, ⟨xs, k8.fr k⟩, k.toBelowT k9 k9.size hwb, hwb, hbl, hgg, h.at_.eq⟩, k10.frT k (by unfold HoTy; decide), ⟨hlt, by show c.bg ≤ 7 * (n + 1 - 1) + c.next; omega, h.nm.nx⟩, h.us, h.ds, h.tk, h.sn, h.pp, h.dn⟩, k.toBelowT k11 hbw' (Nat.le_refl b), k12.trans (KeepO.fr k (by unfold HoTy; decide))⟩
end
theorem intI3 : (prog.info? 3).map (fun i => (i.zero, i.size, i.bytes)) = some (some (.int .i64 0), 1, 8) := by kernel_rfl
theorem asksI1 : (prog.info? 59).map (·.size) = some 1 := by kernel_rfl
section
variable {w0 w : World} {b g gl n : Nat} {D : HsD} {c : Hc} {L : Lt} {E TK : Nat}
set_option maxHeartbeats 4000000 in
theorem hask_go (h : HsS w0 w b g gl D c n L E TK) (hp : HsP D) (hbw : b ≤ w.heap.size) (hlt : n < D.ss.length) (hbg : c.bg ≤ 7 * n) (Q : Value → World → Prop)
  (K1 : (srcAt D.ss n).kd = 1 → ∀ w1 c1 vd A k cc vn xs, HsS w0 w1 b g gl D c1 (n + 1) L E TK → Below b w w1 → KeepO w.heap.size w w1 → w.heap.size ≤ w1.heap.size → c1.bg = c.bg → AdsB w1 (.slice A k cc) xs → vn.oneCell' = true → ((filesH D).1 = [] ∧ vd = 3 ∨ (filesH D).1 ≠ [] ∧ vd = 1 ∧ xs = (filesH D).1.take 64 ∧ Txts w1 vn (filesH D).2) → Calls prog 150 #[.pointer (some ⟨g, 0, none⟩), .agg [.int .i64 vd, .slice A k cc, vn, .int .i64 0].toArray] w1 (RetQ Q))
  (K2 : (srcAt D.ss n).kd = 2 → ∀ w1 c1, HsS w0 w1 b g gl D c1 (n + 1) L E TK → Below b w w1 → KeepO w.heap.size w w1 → w.heap.size ≤ w1.heap.size → c1.bg = c.bg → c1.next = 0 → c1.ag = false → c1.nd = false → Calls prog 152 #[.pointer (some ⟨g, 0, none⟩), .slice none 0 0] w1 (RetQ Q))
  (K3 : (srcAt D.ss n).kd ≠ 1 → (srcAt D.ss n).kd ≠ 2 → ∀ w1 c1, HsS w0 w1 b g gl D c1 (n + 1) L E TK → Below b w w1 → KeepO w.heap.size w w1 → w.heap.size ≤ w1.heap.size → c1.bg = c.bg → Calls prog 150 #[.pointer (some ⟨g, 0, none⟩), .agg [.int .i64 5, nilS, nilS, .int .i64 0].toArray] w1 (RetQ Q)) :
  Calls prog 97 #[.pointer (some ⟨g, 0, none⟩), .int .i64 n] w (RetQ Q) := by
 obtain ⟨T, hK, hR⟩ := h.at_.k
 obtain ⟨Aa, ca, hva⟩ := own_form h.at_.as_
 have hsl := hp.sl
 have d18 := hK.ci 8 (u := .slice Aa n ca) (by show some c.av = _; rw [hva])
 have HKK := Hh hK
 have HSS := Lib.hid h
 have HVA := Hh hva
 have HP := Hh hp
 have HK1 := Hh K1
 have HK2 := Hh K2
 have HK3 := Hh K3
 clear hR hK h hva hp K1 K2 K3
 go_enter func97, ntmps97
 have NB := Blk.new w 3 [.int .i64 (n : Int)]
 change Blk (w.alloc (.cells #[Value.int .i64 (n : Int)] 3)) _ _ _ at NB
 have hba : Below w.heap.size w (w.alloc (.cells #[Value.int .i64 (n : Int)] 3)) := (Below.refl _ _).alloc (Nat.le_refl _) _
 have Sa := Hh (HSS.out.frT (p := fun _ => False) (b' := b) (Fr.below hba) (Nat.le_refl _) id id id)
 have Ka := HKK.out.below hba
 have HBA := Hh hba
 have hown := Sa.out.at_.as_
 rw [HVA.out] at hown
 have hgw := Ka.1.lt
 clear hba HSS HKK
 go_wp2_with (at_builtin; go_must (refine wpList_appG _ rfl (.tmp 9) (.tmp 11) 59 rfl 3 _ 1 8 underlying59 intI3 (by kernel_rfl) (by decide) g (.slice Aa n ca) n (i64s (seqI n)) rfl hown (Nat.le_of_lt hgw) (some ⟨w.heap.size, 0, none⟩) 1 1 [.int .i64 (n : Int)] rfl (fun _ => ⟨_, _, rfl, fun j v hv => by rw [Nat.zero_add]; exact NB.cell_ j hv⟩) rfl (by simp [Value.oneCell']) (by simp only [maxLen]; omega) (by omega) (n + 1) rfl ?_))
 intro A' c' wb ho hg
 have ho' : wb.ownsRow g 3 1 (.slice A' (n + 1) c') (n + 1) (i64s (seqI (n + 1))) := by
  have : i64s (seqI (n + 1)) = i64s (seqI n) ++ [.int .i64 (n : Int)] := by rw [seqI_succ]; simp [i64s]
  rw [this]; exact ho
 have Kb := Ka.num hown hg
 have hg' := hg
 rw [← HVA.out] at hg'
 clear NB d18 ho
 go_wp2_with (refine at_op (.store 59 (.tmp 14) (.tmp 12)) rfl ?_; go_must (refine wpList_stC rfl 59 (.tmp 14) (.tmp 12) rfl g 18 rfl (.slice A' (n + 1) c') rfl Kb.1 (by rw [Kb.len]; decide) asksI1 rfl rfl ?_))
 intro w1 B1 g1 sw
 clear sw
 have K1 : HK w1 g T { c with av := .slice A' (n + 1) c' } := Kb.put 8 B1 rfl
 obtain ⟨q1, q2, q3⟩ := Sa.out.asked hg' ho' hlt hbg Ka g1 K1
 have S1 := Hh q1
 have hba := HBA.out
 have B1' := Hh ((hba.mono hbw).trans q2)
 have KP1 : Hid (KeepO w.heap.size w w1) := Hh ((KeepO.below hba).trans (q3.mono hba.size))
 have hw1 : w.heap.size ≤ w1.heap.size := Nat.le_trans hba.size (Nat.le_trans hg.size g1.size)
 clear q1 q2 q3 hba HBA Sa Ka Kb hown hgw hg hg' ho' B1 g1
 obtain ⟨As, cs, hvs⟩ := S1.out.at_.ss.form
 have hss := S1.out.at_.ss
 rw [hvs] at hss
 obtain ⟨bs, rfl, hbs, h3⟩ := hss.at_ (fun cs x h => by rw [h]; rfl) (by omega)
 obtain ⟨_, hcell, rfl⟩ := h3 n hlt
 have d11 := K1.ci 1 (u := .slice (some ⟨bs, 0, none⟩) D.ss.length cs) (by rw [← hvs]; rfl)
 have dk : w1.cell? ⟨bs, n * 5, none⟩ = some (.int .i64 D.ss[n].kd) := by simpa using hcell 0 _ rfl
 have hkd : D.ss[n].kd = (srcAt D.ss n).kd := by unfold srcAt; rw [List.getD_eq_getElem?_getD, List.getElem?_eq_getElem hlt]; rfl
 rw [hkd] at dk
 have hK1 := Hh K1
 clear K1 hss h3 hcell hvs hkd
 obtain ⟨kd, hkd⟩ : ∃ kd, (srcAt D.ss n).kd = kd := ⟨_, rfl⟩
 rw [hkd] at dk HK1 HK2 HK3
 clear hkd
 have hltI : (n : Int) < D.ss.length := by omega
 generalize D.ss.length = nss at *
 have hbw1 := Nat.le_trans hbw hw1
 by_cases k1 : kd = 1
 ·
  have HK1' := Hh (HK1.out k1)
  subst k1
  clear HK1 HK2 HK3
  have FL := Hh (hfiles_any S1.out.at_ HP.out)
  unfold FlRet at FL
  go_wp2_with fail
  refine FL.out.mono ?_
  rintro _ w2 ⟨vd, A, k, cc, vn, xs, rfl, hvn, hk, hxs, hb2, hF⟩
  have S2 := S1.out.frT (p := fun _ => False) (b' := b) (Fr.below hb2) (Nat.le_refl _) id id id
  have Q1 := Hh (HK1'.out w2 _ vd A k cc vn xs S2 (B1'.out.trans (hb2.mono hbw1)) (KP1.out.trans ((KeepO.below hb2).mono hw1)) (Nat.le_trans hw1 hb2.size) rfl hxs hvn hF)
  unfold RetQ at Q1
  clear FL d11 dk hxs hF S2 hb2 HK1' hk
  go_wp2_with fail
  refine Q1.out.mono ?_
  rintro _ w4 ⟨v4, rfl, hq⟩
  have HQ := Hh hq
  clear Q1 hq
  go_wp2_with fail
  go_ret
  exact ⟨_, rfl, HQ.out⟩
 by_cases k2 : kd = 2
 ·
  have HK2' := Hh (HK2.out k2)
  subst k2
  clear HK1 HK2 HK3
  have Z1 := hK1.out
  go_wp2_with (refine at_op (.store 3 (.tmp 36) (.const (.int .i64 0))) rfl ?_; go_must (refine wpList_stC rfl 3 (.tmp 36) (.const (.int .i64 0)) rfl g 19 rfl (.int .i64 ((0 : Nat) : Int)) rfl Z1.1 (by rw [Z1.len]; decide) intInfo1 rfl rfl ?_))
  intro w2 B2 g2 sw
  have Z2 : HK w2 g T { c with av := .slice A' (n + 1) c', next := 0 } := Z1.put 9 B2 rfl
  clear sw B2
  go_wp2_with (refine at_op (.store 4 (.tmp 38) (.const (.bool false))) rfl ?_; go_must (refine wpList_stC rfl 4 (.tmp 38) (.const (.bool false)) rfl g 20 rfl (.bool false) rfl Z2.1 (by rw [Z2.len]; decide) boolI1 rfl rfl ?_))
  intro w3 B3 g3 sw
  have Z3 : HK w3 g T { c with av := .slice A' (n + 1) c', next := 0, ag := false } := Z2.put 10 B3 rfl
  clear sw B3
  go_wp2_with (refine at_op (.store 4 (.tmp 40) (.const (.bool false))) rfl ?_; go_must (refine wpList_stC rfl 4 (.tmp 40) (.const (.bool false)) rfl g 21 rfl (.bool false) rfl Z3.1 (by rw [Z3.len]; decide) boolI1 rfl rfl ?_))
  intro w4 B4 g4 sw
  have Z4 : HK w4 g T { c with av := .slice A' (n + 1) c', next := 0, ag := false, nd := false } := Z3.put 11 B4 rfl
  clear sw B4
  have G4 := grown_trans (grown_trans g2 g3 (.inl rfl)) g4 (.inl rfl)
  have F4 := S1.out.at_.frG G4
  have S4 := S1.out.put (c' := { c with av := .slice A' (n + 1) c', next := 0, ag := false, nd := false }) G4 Z1 Z4 ⟨rfl, rfl, rfl, rfl, rfl, rfl, rfl⟩ ⟨rfl, rfl, rfl⟩ ⟨rfl, rfl, rfl, rfl, rfl, rfl⟩ ⟨S1.out.nm.an, by show c.bg ≤ 7 * (n + 1 - 1) + 0; omega, Nat.zero_le _⟩
  have Q2 := Hh (HK2'.out w4 _ S4 (F4.toBelowT B1'.out hbw1 (Nat.le_refl b)) (KP1.out.trans (KeepO.fr F4 (by unfold HoTy; decide))) (Nat.le_trans hw1 F4.size) rfl rfl rfl rfl)
  unfold RetQ at Q2
  clear Z1 Z2 Z3 Z4 g2 g3 g4 G4 F4 S4 d11 dk HK2' S1
  go_wp2_with fail
  refine Q2.out.mono ?_
  rintro _ w5 ⟨v5, rfl, hq⟩
  have HQ := Hh hq
  clear Q2 hq
  go_wp2_with fail
  go_ret
  exact ⟨_, rfl, HQ.out⟩
 ·
  have hk1 : (kd == 1) = false := by simpa using k1
  have hk2 : (kd == 2) = false := by simpa using k2
  have RB5 := Hh (fun V => bld_pres 5 V)
  have Q3 := Hh (HK3.out k1 k2 w1 _ S1.out B1'.out KP1.out hw1 rfl)
  unfold RetQ at Q3
  go_wp2_with (refine at_op (.build 183 #[(0, .const (.int .i64 5))]) rfl ?_; go_must (refine wpList_bld rfl 183 _ rfl #[(0, .int .i64 5)] (by simp [Act.eval, Act.put]) (RB5.out _) ?_))
  refine Q3.out.mono ?_
  rintro _ w4 ⟨v4, rfl, hq⟩
  have HQ := Hh hq
  clear Q3 hq
  go_wp2_with fail
  go_ret
  exact ⟨_, rfl, HQ.out⟩
end
section
variable {w0 : World} {b g gl : Nat} {D : HsD} {E TK H : Nat}
end
section
variable {w0 w : World} {b g gl n : Nat} {D : HsD} {c : Hc} {L : Lt} {E TK H : Nat}
end
section
variable {w0 w : World} {b g gl n : Nat} {D : HsD} {c : Hc} {L : Lt} {E TK H : Nat}
end
theorem cfI13 : (prog.info? 42).map (·.size) = some 13 := by kernel_rfl
def hc0 (vh vs vv : Value) (fam turn : Int) (gl : Nat) : Hc := ⟨vh, vs, vv, nilS, nilS, fam, turn, gl, nilS, 0, false, false, 0, none, nilS, 0, false, 0, nilS, nilS, 0⟩
theorem bld_HoI (a b c d e f g h i j vh vs vv : Value) (fam turn : Int) (gl : Nat) (W : World) : (Instr.build 185 #[(0, .agg [a, b, c, d, e, f, g, h, i, j, vh, vs, vv].toArray), (3, .int .i64 fam), (4, .int .i64 turn), (5, .pointer (some ⟨gl, 0, none⟩))]).run prog W = .ok (.agg ([a, b, c, d, e, f, g, h, i, j] ++ hcU (hc0 vh vs vv fam turn gl)).toArray) W := by kernel_rfl
theorem bld_Ho (T : List Value) (hT : T.length = 10) (vh vs vv : Value) (fam turn : Int) (gl : Nat) (W : World) : (Instr.build 185 #[(0, .agg (T ++ [vh, vs, vv]).toArray), (3, .int .i64 fam), (4, .int .i64 turn), (5, .pointer (some ⟨gl, 0, none⟩))]).run prog W = .ok (.agg (T ++ hcU (hc0 vh vs vv fam turn gl)).toArray) W := by
 match T, hT with
 | [a, b, c, d, e, f, g, h, i, j], _ => exact bld_HoI ..
theorem heldH_f {hs : List Hst} (hn : ∀ h ∈ hs, h.ns.length ≤ 100) (hip : ∀ h ∈ heldH hs, h.ad.ip.length = 16) : ∀ h ∈ heldH hs, HstF h := by
 intro h hm
 have h16 := hip h hm
 unfold heldH leftP at hm
 have hm := List.mem_of_mem_take hm
 rw [List.mem_filter] at hm
 obtain ⟨hm, hok⟩ := hm
 obtain ⟨h', hm', rfl⟩ := List.mem_map.1 hm
 refine hstOk_f hok h16 ?_ ?_
 ·
  have := hn h' hm'
  unfold hstN leftP
  simp only [List.length_take]
  omega
 ·
  intro n hnn
  unfold hstN leftP at hnn
  have := List.mem_of_mem_take hnn
  rw [List.mem_filter] at this
  exact this.2
theorem heldH_len (hs : List Hst) : (heldH hs).length ≤ hs.length := by
 unfold heldH leftP
 rw [List.length_take, List.length_map]
 omega
theorem heldS_len (ss : List Src) : 1 ≤ (heldS ss).length ∧ (heldS ss).length ≤ 8 := by
 unfold heldS
 split
 ·
  exact ⟨by decide, by decide⟩
 ·
  rename_i h
  refine ⟨?_, ?_⟩
  ·
   cases hl : leftP srcOk ss 8 with
   | nil => exact absurd hl h
   | cons a l => simp
  ·
   unfold leftP; rw [List.length_take]; omega
theorem each_all {α : Type} {R : List Value → α → Prop} {P : α → Prop} (hk : ∀ cs x, R cs x → P x) : ∀ {css : List (List Value)} {l : List α}, Each R css l → ∀ x ∈ l, P x
 | [], [], _ => by simp
 | cs :: css, x :: l, h => fun u hu => by
  rcases List.mem_cons.1 hu with rfl | hu
  ·
   exact hk _ _ h.1
  ·
   exact each_all hk h.2 u hu
theorem LOwn.all {α : Type} {R : List Value → α → Prop} {P : α → Prop} {w : World} {B : Nat} {e : TypeId} {k : Nat} {v : Value} {l : List α} (h : LOwn w B e k R v l) (hk : ∀ cs x, R cs x → P x) : ∀ x ∈ l, P x := by
 obtain ⟨css, _, hE⟩ := h
 exact each_all hk hE
def RetN (Q : Nat → Value → World → Prop) (e : Ending) (w' : World) : Prop := ∃ g v, e = .returned (.tuple #[.pointer (some ⟨g, 0, none⟩), v]) ∧ Q g v w'
section
variable {w0 w : World} {b gl : Nat} {cs : List Value} {r : Rs} {Ah As Asv : Option Addr} {ch cS csv : Nat} {hs : List Hst} {ss : List Src} {vs : List Svc} {s : List UInt8} {fam turn : Int} {L : Lt}
set_option maxHeartbeats 4000000 in
theorem hhnew_go (h : RsIn w0 w cs r) (hw : Below w0.heap.size w0 w) (hH : LIn w0 19 (HstI w0) Ah hs) (hhl : hs.length ≤ 100) (hhn : ∀ h ∈ hs, h.ns.length ≤ 100) (hSr : LIn w 5 SrcI As ss) (hsl : ss.length ≤ 17592186044416) (hSv : LIn w0 3 SvcI Asv vs) (hvl : vs.length ≤ 1000) (hs1 : s.length ≤ 1000000) (hl : LotAt w gl L) (hus : L.us = 0) (hds : L.ds.length ≤ 17592186044416) (hb0 : w0.heap.size ≤ b) (hbw : b ≤ w.heap.size) (hbg : b ≤ gl) {n : List (List UInt8)} {dt : Bool} (hp : parse s = .ok (n, dt)) (hne : n ≠ []) (Q : Nat → Value → World → Prop)
  (K : ∀ w1 g c1 cd, HsS w0 w1 b g gl ⟨heldR r, heldH hs, heldS ss, n, cd, fam, turn⟩ c1 0 L 0 0 → HsP ⟨heldR r, heldH hs, heldS ss, n, cd, fam, turn⟩ → cd ≠ [] → c1.bg = 0 → Below w.heap.size w w1 → w.heap.size ≤ g → Calls prog 97 #[.pointer (some ⟨g, 0, none⟩), .int .i64 0] w1 (RetQ (Q g))) :
  Calls prog 40 #[.agg (cs ++ [Value.slice Ah hs.length ch, Value.slice As ss.length cS, Value.slice Asv vs.length csv]).toArray, .string (bs s), .int .i64 fam, .int .i64 turn, .pointer (some ⟨gl, 0, none⟩)] w (RetN Q) := by
 have hcl := h.len
 have HB : Below w.heap.size w (w.alloc (.cells (cs ++ [Value.slice Ah hs.length ch, Value.slice As ss.length cS, Value.slice Asv vs.length csv]).toArray 42)) := (Below.refl _ _).alloc (Nat.le_refl _) _
 have B0 := Blk.new w 42 (cs ++ [Value.slice Ah hs.length ch, Value.slice As ss.length cS, Value.slice Asv vs.length csv])
 have HD := Hh (heldC_any w0 cs r Ah As Asv ch cS csv hs ss vs _ (h.below HB) (below_then hw hw.size HB) hH hhl hhn (hSr.mono HB (fun _ _ h => h)) hsl hSv hvl)
 have HLT := Hh hl
 have HW0 := Hh hw
 unfold HeldCRet at HD
 have hC13 : (cs ++ [Value.slice Ah hs.length ch, Value.slice As ss.length cS, Value.slice Asv vs.length csv]).length = 13 := by simp [hcl]
 generalize (cs ++ [Value.slice Ah hs.length ch, Value.slice As ss.length cS, Value.slice Asv vs.length csv]) = CS at *
 have HHN := Hh hhn
 clear h hw hH hSr hsl hSv hvl hcl hl hhn
 go_enter func40, ntmps40
 go_wp2_with (refine at_op (.load 42 (.tmp 5)) rfl ?_; go_must (refine wpList_ldB rfl _ _ rfl w.heap.size 0 rfl B0 13 (by omega) _ underlying42 rfl cfI13 CS (tk0 (by omega)) ?_))
 refine HD.out.mono ?_
 rintro _ w1 ⟨T, vh, v2, vv, rfl, RO, OH, OS, hvv, b1⟩
 have hT10 := RO.len
 obtain ⟨As2, cS2, rfl⟩ := OS.form
 have H1 := below_then HB HB.size b1
 have RBS := Hh (fun V => bld_Ho T hT10 vh (.slice As2 (heldS ss).length cS2) vv fam turn gl V)
 have HRO := Hh RO
 have HOH := Hh OH
 have HOS := Hh OS
 have HVV := Hh hvv
 clear HB B0 HD RO OH OS b1 hC13 hvv
 have B2 := Blk.new w1 185 (T ++ hcU (hc0 vh (.slice As2 (heldS ss).length cS2) vv fam turn gl))
 have H2 : Below w1.heap.size w1 (w1.alloc (.cells (T ++ hcU (hc0 vh (.slice As2 (heldS ss).length cS2) vv fam turn gl)).toArray 185)) := (Below.refl _ _).alloc (Nat.le_refl _) _
 have K2 := Hh (show HK (w1.alloc (.cells (T ++ hcU (hc0 vh (.slice As2 (heldS ss).length cS2) vv fam turn gl)).toArray 185)) w1.heap.size T (hc0 vh (.slice As2 (heldS ss).length cS2) vv fam turn gl) from ⟨B2, hT10⟩)
 have hgw : w.heap.size ≤ w1.heap.size := H1.size
 have CA := Hh (cands_any w0 T (heldR r) s _ ((HRO.out.below H2).rsIn (by have := heldR_len r; omega) (by have := heldR_len r; omega) (by have := heldR_len r; omega)) (below_then (below_then HW0.out HW0.out.size H1) (Nat.le_trans HW0.out.size hgw) H2) hs1)
 have HH1 := Hh H1
 have HH2 := Hh H2
 unfold CdRet at CA
 have hTl : (T ++ hcU (hc0 vh (.slice As2 (heldS ss).length cS2) vv fam turn gl)).length = 31 := K2.out.len
 have hTt : (T ++ hcU (hc0 vh (.slice As2 (heldS ss).length cS2) vv fam turn gl)).take 10 = T := List.take_left' hT10
 obtain ⟨L0, hL0⟩ : ∃ L0, Hid (T ++ hcU (hc0 vh (.slice As2 (heldS ss).length cS2) vv fam turn gl) = L0) := ⟨_, Hh rfl⟩
 rw [hL0.out] at RBS hTl hTt B2 K2 CA HH2
 clear H1 H2
 go_wp2_with (first
  | (refine at_op (.build 185 #[(0, .tmp 19), (3, .tmp 20), (4, .tmp 21), (5, .tmp 22)]) rfl ?_; go_must (refine wpList_bld rfl 185 _ rfl #[(0, .agg (T ++ [vh, .slice As2 (heldS ss).length cS2, vv]).toArray), (3, .int .i64 fam), (4, .int .i64 turn), (5, .pointer (some ⟨gl, 0, none⟩))] (by simp [Act.eval, Act.put]) (RBS.out _) ?_))
  | (refine at_op (.load 37 (.tmp 29)) rfl ?_; go_must (refine wpList_ldB rfl _ _ rfl w1.heap.size 0 rfl B2 10 (by omega) _ underlying37 rfl rsI10 T (by rw [List.drop_zero]; exact hTt) ?_)))
 refine CA.out.mono ?_
 rintro _ w3 ⟨b3, hcd⟩
 rcases hcd with ⟨rfl, hbad⟩ | ⟨n', d', A3, c3, cds, hpe, hn', rfl, hCO, hlne, hl7⟩
 ·
  exact absurd (hbad n dt hp) hne
 have PA := Hh (parse_any s hs1)
 rw [hp] at PA
 unfold ParRet at PA
 have hck := (parse_ok hp).1
 have b13 := Hh (below_then HH2.out HH2.out.size b3)
 have K3 := Hh (K2.out.below b3)
 have hgl : gl < w1.heap.size := Nat.lt_of_lt_of_le HLT.out.lt hgw
 have HCO := Hh hCO
 have hcl0 : 0 < cds.length := by
  cases cds with
  | nil => exact absurd rfl hlne
  | cons a l => simp
 have hc1 : ((cds.length : Int) == 0) = false := by
  have : ¬ (cds.length : Int) = 0 := by omega
  simpa using this
 have hs8 := heldS_len ss
 have hc2 : (((heldS ss).length : Int) == 0) = false := by
  have : ¬ ((heldS ss).length : Int) = 0 := by omega
  simpa using this
 have HNE := Hh (And.intro hpe hn')
 have HKK := Hh K
 have HNN := Hh hne
 have HPP := Hh hp
 clear hpe hn' CA b3 hCO HH2 K2 B2 RBS hTl hTt hL0 K hp hne
 go_wp2_with fail
 refine (PA.out _).mono ?_
 rintro _ w4 ⟨v4, rfl, htx, b4⟩
 have hNm : NmO w4 v4 n := ⟨htx, hck⟩
 obtain ⟨A4, c4, rfl, -⟩ := hNm.form
 have K4 := K3.out.below b4
 have b14 := Hh (below_then b13.out b13.out.size b4)
 have HNM := Hh hNm
 have HC4 := Hh (CdsO.below HCO.out b4)
 obtain ⟨g, hg⟩ : ∃ g, w1.heap.size = g := ⟨_, rfl⟩
 rw [hg] at hgw hgl K4 ⊢
 have HG := Hh hg
 have d11 := K4.ci 1 (u := .slice As2 (heldS ss).length cS2) rfl
 clear htx hNm b4 K3 b13 HCO PA hg
 generalize hNS : (heldS ss).length = nS at *
 generalize hNC : cds.length = nC at *
 have HNS := Hh hNS
 have HNC := Hh hNC
 clear hNS hNC
 go_upto_region 7 with fail
 clear d11 hc1 hc2 hT10
 go_wp2_with (refine at_op (.store 81 (.tmp 74) (.tmp 71)) rfl ?_; go_must (refine wpList_stC rfl 81 (.tmp 74) (.tmp 71) rfl g 13 rfl (.slice A4 n.length c4) rfl K4.1 (by rw [K4.len]; decide) nameInfo1 rfl rfl ?_))
 intro w5 B5 g5 sw
 have K5 : HK w5 g T { hc0 vh (.slice As2 nS cS2) vv fam turn gl with nv := .slice A4 n.length c4 } := K4.put 3 B5 rfl
 clear sw B5
 go_wp2_with (refine at_op (.store 34 (.tmp 76) (.tmp 72)) rfl ?_; go_must (refine wpList_stC rfl 34 (.tmp 76) (.tmp 72) rfl g 14 rfl (.slice A3 nC c3) rfl K5.1 (by rw [K5.len]; decide) nmI1 rfl rfl ?_))
 intro w6 B6 g6 sw
 have K6 : HK w6 g T { hc0 vh (.slice As2 nS cS2) vv fam turn gl with nv := .slice A4 n.length c4, cv := .slice A3 nC c3 } := K5.put 4 B6 rfl
 clear sw B6
 have G6 := grown_trans g5 g6 (.inl rfl)
 have k : Fr (TyS w4 HoTy b) w4 w6 := Fr.grown G6 K4.1 (by unfold StTy; decide) ⟨by omega, _, _, K4.1, rfl⟩
 have hgs : w1.heap.size = g := HG.out
 have b14' := b14.out
 have hb04 := below_then (below_then HW0.out HW0.out.size HH1.out) (Nat.le_trans HW0.out.size HH1.out.size) b14'
 have hw4 := b14'.size
 have OH6 : LOwn w6 0 196 19 (HstO w0 w6) vh (heldH hs) := (LOwn.below (R' := HstO w0 w4) HOH.out b14' (fun _ _ x => x.below b14')).stays (fun _ x => k.own x (by unfold StTy; decide)) (fun _ _ x => x.fr k)
 have OS6 := (LOwn.below (R' := SrcI) HOS.out b14' (fun _ _ x => x)).stays (R' := SrcI) (fun _ x => k.own x (by unfold StTy; decide)) (fun _ _ x => x)
 have HP : HsP ⟨heldR r, heldH hs, heldS ss, n, cds, fam, turn⟩ := ⟨heldR_len r, heldH_f HHN.out (HOH.out.all (fun _ _ x => x.choose_spec.2.1)), Nat.le_trans (heldH_len hs) (by omega), heldS_len ss |>.2, hck, by show cds.length ≤ 7; rw [HNC.out]; exact hl7, HC4.out.all (fun _ _ x => x.choose_spec.2.2)⟩
 have A6 : HsAt w0 w6 b g gl ⟨heldR r, heldH hs, heldS ss, n, cds, fam, turn⟩ { hc0 vh (.slice As2 nS cS2) vv fam turn gl with nv := .slice A4 n.length c4, cv := .slice A3 nC c3 } 0 :=
  ⟨⟨T, K6, (HRO.out.below b14').fr k⟩, OH6, OS6, HNM.out.stays k.stays, HC4.out.stays (fun _ x => k.own x (by unfold StTy; decide)) (fun _ _ x => x.stays k.stays), World.ownsRow_nil _ _ _ _, ⟨[], LOwn.nil _ _ _ _ _, by simp [hc0]⟩, ⟨[], LOwn.nil _ _ _ _ _, by simp⟩, k.toBelowT hb04 hb04.size hb0, hb0, hbg, hgl, rfl, rfl, rfl, rfl, HVV.out⟩
 have L6 : LotAt w6 gl L := (((HLT.out.below HH1.out).below b14').frT k (by unfold HoTy; decide))
 have S6 : HsS w0 w6 b g gl ⟨heldR r, heldH hs, heldS ss, n, cds, fam, turn⟩ { hc0 vh (.slice As2 nS cS2) vv fam turn gl with nv := .slice A4 n.length c4, cv := .slice A3 nC c3 } 0 L 0 0 := ⟨A6, L6, ⟨Nat.zero_le _, Nat.zero_le _, Nat.zero_le _⟩, by omega, hds, Nat.zero_le _, Nat.zero_le _, rfl, rfl⟩
 have b46 : Below w.heap.size w w6 := (below_then HH1.out HH1.out.size b14').trans ⟨G6.os, G6.tape, G6.output, G6.size, fun i hi => G6.block i (by have := HH1.out.size; omega) (by simp; omega)⟩
 have Q1 := Hh (HKK.out w6 g _ cds S6 HP hlne rfl b46 hgw)
 unfold RetQ at Q1
 clear K4 K5 K6 g5 g6 G6 k hgs b14' hb04 hw4 OH6 OS6 HP A6 L6 S6 b46
 go_wp2_with fail
 refine Q1.out.mono ?_
 rintro _ w7 ⟨v7, rfl, hq⟩
 have HQ := Hh hq
 clear Q1 hq
 go_wp2_with fail
 go_ret2
 exact ⟨g, v7, rfl, HQ.out⟩
end
section
variable {w : World} {g : Nat} {T : List Value} {c : Hc}
end
end Go.Proofs.YteimenplbanooaaGreatDoor

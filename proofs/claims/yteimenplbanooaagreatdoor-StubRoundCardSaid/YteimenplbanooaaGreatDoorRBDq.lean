/-
  Layer 29 (xchg): leg, over, finish; Done, Sent.
-/
import Derived.Test.YteimenplbanooaaGreatDoorRBCq
namespace Go.Proofs.YteimenplbanooaaGreatDoor
open _root_.Go.Proofs.Tryz
open Go.RowKit
set_option maxRecDepth 100000
set_option linter.unusedVariables false
set_option linter.unusedSimpArgs false
theorem XchgB.cells {w : World} {g gl : Nat} {vn : Value} {x : Xc} {hs : Value} {eb : Bool} {qs : List Value} {dp : Option Nat} (h : XchgB w g gl vn x hs eb qs dp) : ∃ L vt ds, Blk w g 331 L ∧ L.length = 61 ∧ L[4]? = some (.int .i64 x.tmo) ∧ L[7]? = some (.bool x.vc) ∧ L[9]? = some (.bool x.ed) ∧ (L.drop 10).take 3 = qC vn x.q ∧ L[13]? = some vt ∧ L[14]? = some (.pointer (some ⟨gl, 0, none⟩)) ∧ L[15]? = some (.int .i64 x.k) ∧ L[16]? = some hs ∧ (L.drop 17).take 23 = qs ∧ L[40]? = some (.bool eb) ∧ L[41]? = some (ptrV dp) ∧ L[42]? = some (.int .i64 x.left) ∧ L[43]? = some (.int .i64 x.sent) ∧ L[44]? = some (.bool x.hard) ∧ L[45]? = some (.bool x.done) ∧ (L.drop 46).take 15 = .int .i64 x.vd :: ds ∧ TrysO w 0 vt x.tr ∧ MsgOwn w ds x.msg := by
 obtain ⟨T, vt, ds, hb, h1, h2, h3, h4, h5, h6⟩ := h.b
 have hq := h.ql
 refine ⟨_, vt, ds, hb, by rw [xc_len h1 hq, h6.len], by rw [xc_told h1 hq 4 (by omega)]; exact h2, by rw [xc_told h1 hq 7 (by omega)]; exact h3, by rw [xc_told h1 hq 9 (by omega)]; exact h4, xc_q h1 hq, xc_mid h1 hq 0 (by omega), xc_mid h1 hq 1 (by omega), xc_mid h1 hq 2 (by omega), xc_mid h1 hq 3 (by omega), xc_y h1 hq, xc_end h1 hq 0 (by omega), xc_end h1 hq 1 (by omega), xc_end h1 hq 2 (by omega), xc_end h1 hq 3 (by omega), xc_end h1 hq 4 (by omega), xc_end h1 hq 5 (by omega), ?_, h5, h6⟩
 rw [xc_out h1 hq, List.take_of_length_le (by rw [h6.len]; decide)]
theorem done_any {w : World} {g gl : Nat} {vn : Value} {x : Xc} {hs : Value} {eb : Bool} {qs : List Value} {dp : Option Nat} (h : XchgB w g gl vn x hs eb qs dp) : Calls prog 178 #[.pointer (some ⟨g, 0, none⟩)] w (Ret (.bool x.done) w) := by
 obtain ⟨L, vt, ds, hb, _, _, _, _, _, _, _, _, _, _, _, _, _, _, _, c45, _⟩ := h.cells
 have d45 := hb.cell_ 45 c45
 clear hb c45 h
 generalize x.done = dn at *
 go_enter func178, ntmps178
 go_wp2_with fail
 go_ret
 exact Ret.mk rfl rfl
theorem sent_any {w : World} {g gl : Nat} {vn : Value} {x : Xc} {hs : Value} {eb : Bool} {qs : List Value} {dp : Option Nat} (h : XchgB w g gl vn x hs eb qs dp) : Calls prog 183 #[.pointer (some ⟨g, 0, none⟩)] w (Ret (.int .i64 x.sent) w) := by
 obtain ⟨L, vt, ds, hb, _, _, _, _, _, _, _, _, _, _, _, _, _, c43, _⟩ := h.cells
 have d43 := hb.cell_ 43 c43
 clear hb c43 h
 generalize (x.sent : Int) = dn at *
 go_enter func183, ntmps183
 go_wp2_with fail
 go_ret
 exact Ret.mk rfl rfl
theorem blk_ne {w : World} {g g' : Nat} {t t' : TypeId} {L L' : List Value} (h : Blk w g t L) (h' : Blk w g' t' L') (ht : t ≠ t') : g ≠ g' := by
 intro e
 subst e
 unfold Blk at h h'
 rw [h] at h'
 injection h' with h'
 injection h' with _ h'
 exact ht h'
theorem LOwn.hasBlk {α : Type} {w : World} {B : Nat} {e : TypeId} {k g c : Nat} {R : List Value → α → Prop} {l : List α} (h : LOwn w B e k R (.slice (some ⟨g, 0, none⟩) l.length c) l) (hp : 0 < l.length) : ∃ L, Blk w g e L := by
 obtain ⟨css, ho, _⟩ := h
 rcases ho.2 with ⟨_, h0⟩ | ⟨g', cap, cur, hv, _, hg, _⟩
 ·
  omega
 ·
  injection hv with hv _ _
  injection hv with hv
  injection hv with hv
  subst hv
  exact ⟨cur.toList, hg⟩
theorem tryI1 : (prog.info? 380).map (·.size) = some 19 := by kernel_rfl
theorem range_left {w : World} {b o : Nat} {a c : List Value} (h : w.rangeAt b o (a ++ c)) : w.rangeAt b o a := fun j v hv => h j v (by rw [List.getElem?_append_left (List.getElem?_eq_some_iff.1 hv).1]; exact hv)
theorem lot_blk {w : World} {g : Nat} {L : Lt} (h : LotAt w g L) : ∃ cs, Blk w g 135 cs := by obtain ⟨v, h, _⟩ := h; exact ⟨_, h⟩
def LS (g gl : Nat) (i : Nat) : Prop := i = g ∨ i = gl
def LegRet (g gl : Nat) (vn : Value) (x : Xc) (L : Lt) (hs : Value) (eb : Bool) (dp : Option Nat) (w : World) (e : Ending) (w' : World) : Prop := e = .returned (.tuple #[]) ∧ XchgB w' g gl vn { x with y := legY x L, left := x.tmo, sent := x.sent + 1 } hs eb (qyC vn (legY x L)) dp ∧ LotAt w' gl (legL L) ∧ Fr (LS g gl) w w'
set_option maxHeartbeats 2000000 in
theorem leg_any (g gl : Nat) (vn : Value) (x : Xc) (L : Lt) (hs : Value) (eb0 eb : Bool) (qs : List Value) (dp : Option Nat) (w : World) (h : XchgB w g gl vn x hs eb0 qs dp) (hl : LotAt w gl L) (hk : x.k < x.tr.length) (hu : L.us ≤ 999999990) (hd : L.ds.length ≤ 17592186044416) (hsn : x.sent ≤ 1000000) (htr : x.tr.length ≤ 1000) :
  Calls prog 301 #[.pointer (some ⟨g, 0, none⟩), .bool eb] w (LegRet g gl vn x L hs eb dp w) := by
 have hq := h.ql
 obtain ⟨vnA, vnc, hvn, hNR⟩ := h.nm.form
 obtain ⟨T, vt, ds, hb, h1, h2, h3, h4, h5, h6⟩ := h.b
 obtain ⟨lc, hlb⟩ := lot_blk hl
 have gne := blk_ne hb hlb (by decide)
 have hY : Hid (x.tr.getD x.k Adr.zero = x.tr[x.k]) := Hh (by rw [List.getD_eq_getElem?_getD, List.getElem?_eq_getElem hk]; rfl)
 obtain ⟨p1, p2⟩ := draw_lt L (show (0 : Int) < 64512 by decide)
 obtain ⟨q1, q2⟩ := draw_lt (drawL L 64512).2 (show (0 : Int) < 65536 by decide)
 have D1 := Hh (draw_any gl L 64512 w hl (by decide) (by decide) (by omega) hd)
 have D2 := Hh (fun W h => draw_any gl (drawL L 64512).2 65536 W h (by decide) (by decide) (by show L.us + 1 ≤ 1000000000; omega) hd)
 obtain ⟨R1, hR1⟩ : ∃ R1, Hid (drawL L 64512 = R1) := ⟨_, Hh rfl⟩
 rw [hR1.out] at D1 D2 p1 p2 q1 q2
 obtain ⟨R2, hR2⟩ : ∃ R2, Hid (drawL R1.2 65536 = R2) := ⟨_, Hh rfl⟩
 rw [hR2.out] at D2 q1 q2
 have HYP : Hid (legY x L = ⟨x.tr[x.k], 1024 + R1.1, R2.1, x.q⟩ ∧ legL L = R2.2) := Hh ⟨by unfold legY; rw [hY.out, hR1.out, hR2.out], by unfold legL; rw [hR1.out, hR2.out]⟩
 have d14 := hb.cell_ 14 (xc_mid h1 hq 1 (by omega))
 have PUT := Hh (fun w' (hg : Fr (LS g gl) w w') (hs' : Value) (eb' : Bool) (qs' : List Value) (hq' : qs'.length = 23) (hb' : Blk w' g 331 (xcC T vn x.q vt gl x.k hs qs' eb' dp x.tmo (x.sent + 1) x.hard x.done x.vd ds)) => (⟨⟨T, vt, ds, hb', h1, h2, h3, h4, hg.lown h5 (by unfold StTy; decide), hg.msg h6⟩, h.nm.stays hg.stays, hq'⟩ : XchgB w' g gl vn { x with y := legY x L, left := x.tmo, sent := x.sent + 1 } hs eb' qs' dp))
 have HB := Hh hb
 have H5 := Hh h5
 have HLB := Hh hlb
 clear hl h6 h hR1 hR2 hY hu hd hNR hb h5 hlb
 go_enter func301, ntmps301
 go_wp2_with fail
 refine D1.out.mono ?_
 rintro _ w1 ⟨rfl, l1, g1⟩
 have hb1 := HB.out.grown g1 (by simp; exact gne)
 have F1 : Fr (LS g gl) w w1 := Fr.grown g1 HLB.out (.inr (.inr (.inl rfl))) (.inr rfl)
 have e14 := hb1.cell_ 14 (xc_mid h1 hq 1 (by omega))
 have D2' := Hh (D2.out w1 l1)
 obtain ⟨lc1, hlb1⟩ := lot_blk l1
 clear d14 D1 D2 g1 l1
 generalize R1.1 = pp at *
 go_wp2_with fail
 refine D2'.out.mono ?_
 rintro _ w2 ⟨rfl, l2, g2⟩
 have hb2 := hb1.grown g2 (by simp; exact gne)
 have F2 : Fr (LS g gl) w w2 := F1.trans (Fr.grown g2 hlb1 (.inr (.inr (.inl rfl))) (.inr rfl)) (fun i _ h => h)
 have h5 := F2.lown H5.out (by unfold StTy; decide)
 clear e14 D2' g2 hlb1 F1 H5 HLB hb1 HB
 obtain ⟨At, ct, hvt⟩ := h5.form
 subst hvt
 obtain ⟨gt, hAt, hgt, hrow⟩ := LOwn.at_ (fun _ _ h => h.len) h5 (by omega)
 obtain ⟨tc, hrg, rr, htc, hip⟩ := hrow x.k hk
 subst hAt
 rw [htc] at hrg
 have hrg := range_left hrg
 obtain ⟨gc, hgb⟩ := LOwn.hasBlk h5 (by omega)
 have hgtg := blk_ne hgb hb2 (by decide)
 clear htc hrow h5 hgb
 generalize R2.1 = ii at *
 obtain ⟨yy, hyy⟩ : ∃ yy : Qy, yy = ⟨x.tr[x.k], 1024 + pp, ii, x.q⟩ := ⟨_, rfl⟩
 have hyi : yy.sv.ip.length = 16 := by rw [hyy]; exact hip
 have hql : (qyC vn yy).length = 23 := qyC_len hyi
 have hqo : ∀ v ∈ qyC vn yy, v.oneCell' = true := qyC_one (by rw [hvn]; rfl)
 have RB : Hid (∀ W, (Instr.build 328 #[(0, .agg x.tr[x.k].cells.toArray), (1, .int .i64 (1024 + pp)), (2, .int .i64 ii), (3, .agg (qC vn x.q).toArray)]).run prog W = .ok (.agg (qyC vn yy).toArray) W) := Hh (fun W => by rw [hyy, hvn]; exact run_bqy ⟨x.tr[x.k], 1024 + pp, ii, x.q⟩ hip vnA _ vnc W)
 have HYY := Hh hyy
 have HIP := Hh hip
 have e1 : Hid (x.tr[x.k].cells.length = 18) := Hh (Adr.cells_len _ hip)
 clear hyy hip hyi hvn
 have LDS : ∀ (V : World) (qs' : List Value), qs'.length = 23 → Blk V g 331 (xcC T vn x.q (.slice (some ⟨gt, 0, none⟩) x.tr.length ct) gl x.k hs qs' eb0 dp x.left x.sent x.hard x.done x.vd ds) → V.rangeAt gt (0 + x.k * 19) x.tr[x.k].cells →
   (Instr.loadAt 325 (.pointer (some ⟨g, 13, none⟩))).run prog V = .ok (.slice (some ⟨gt, 0, none⟩) x.tr.length ct) V ∧ (Instr.loadAt 3 (.pointer (some ⟨g, 15, none⟩))).run prog V = .ok (.int .i64 x.k) V ∧ (Instr.loadAt 24 (.pointer (some ⟨gt, 0 + x.k * 19, none⟩))).run prog V = .ok (.agg x.tr[x.k].cells.toArray) V ∧ (Instr.loadAt 218 (.pointer (some ⟨g, 10, none⟩))).run prog V = .ok (.agg (qC vn x.q).toArray) V := fun V qs' hq' hbV hrV =>
  ⟨run_load1 underlying325 rfl (hbV.cell_ 13 (xc_mid h1 hq' 0 (by omega))), run_load1 underlying3 rfl (hbV.cell_ 15 (xc_mid h1 hq' 2 (by omega))), rangeK_loads hrV underlying24 rfl (by rw [e1.out]; exact adI18), hbV.loads 218 10 3 (by rw [xc_len h1 hq']; omega) _ underlying218 rfl qInfo _ (xc_q h1 hq')⟩
 have HL := Hh LDS
 clear LDS
 generalize hac : x.tr[x.k].cells = ac at *
 have HAC := Hh hac
 clear hac
 obtain ⟨W2, hW2⟩ : ∃ W2, W2 = w2.drew := ⟨_, rfl⟩
 have hb2d : Blk W2 g 331 (xcC T vn x.q (.slice (some ⟨gt, 0, none⟩) x.tr.length ct) gl x.k hs qs eb0 dp x.left x.sent x.hard x.done x.vd ds) := hW2 ▸ hb2.drew
 have l2d : LotAt W2 gl R2.2 := hW2 ▸ l2.below (Below.refl _ _).drew
 have F2d : Fr (LS g gl) w W2 := hW2 ▸ F2.trans (Fr.below (S := LS g gl) (Below.refl _ _).drew) (fun i _ h => h)
 have hrgd : W2.rangeAt gt (0 + x.k * 19) ac := hW2 ▸ hrg
 have HS := Hh (HL.out _ qs hq hb2d hrgd)
 go_wp2_with fail
 refine wp_region_held_drew (S := fun V => (Instr.loadAt 325 (.pointer (some ⟨g, 13, none⟩))).run prog V = .ok (.slice (some ⟨gt, 0, none⟩) x.tr.length ct) V ∧ (Instr.loadAt 3 (.pointer (some ⟨g, 15, none⟩))).run prog V = .ok (.int .i64 x.k) V ∧ (Instr.loadAt 24 (.pointer (some ⟨gt, 0 + x.k * 19, none⟩))).run prog V = .ok (.agg ac.toArray) V ∧ (Instr.loadAt 218 (.pointer (some ⟨g, 10, none⟩))).run prog V = .ok (.agg (qC vn x.q).toArray) V) (by kernel_rfl) (by rw [← hW2]; exact HS.out) (fun hS => ?_)
 rw [← hW2] at hS ⊢
 refine held_seq hS 21 [0,1,2,3,4,5,6,7,8,9,10,11,12,13,14,15,16,17,18,19,20] rfl (by kernel_rfl) (fun _ _ _ _ _ h => h) rfl rfl ?_
 repeat (refine ⟨_, _, rfl, .inl ⟨rfl, fun W hW => rfl⟩, ?_⟩; simp only [Act.put, lsA, lsB, lsC])
 (refine ⟨_, _, rfl, .inl ⟨rfl, fun V hV => (exec_ld 325 (.tmp 20) ⟨g, 13, none⟩ rfl rfl hV.1)⟩, ?_⟩; simp only [Act.put, lsA, lsB, lsC])
 repeat (refine ⟨_, _, rfl, .inl ⟨rfl, fun W hW => rfl⟩, ?_⟩; simp only [Act.put, lsA, lsB, lsC])
 (refine ⟨_, _, rfl, .inl ⟨rfl, fun V hV => (exec_ld 3 (.tmp 24) ⟨g, 15, none⟩ rfl rfl hV.2.1)⟩, ?_⟩; simp only [Act.put, lsA, lsB, lsC])
 (refine ⟨_, _, rfl, .inl ⟨rfl, fun V hV => (exec_ixK underlying325 tryI1 (by decide) (.tmp 21) (.tmp 25) rfl rfl rfl hk V)⟩, ?_⟩; simp only [Act.put, lsA, lsB, lsC])
 repeat (refine ⟨_, _, rfl, .inl ⟨rfl, fun W hW => rfl⟩, ?_⟩; simp only [Act.put, lsA, lsB, lsC])
 (refine ⟨_, _, rfl, .inl ⟨rfl, fun V hV => (exec_ld 24 (.tmp 27) ⟨gt, 0 + x.k * 19, none⟩ rfl rfl hV.2.2.1)⟩, ?_⟩; simp only [Act.put, lsA, lsB, lsC])
 repeat (refine ⟨_, _, rfl, .inl ⟨rfl, fun W hW => rfl⟩, ?_⟩; simp only [Act.put, lsA, lsB, lsC])
 (refine ⟨_, _, rfl, .inl ⟨rfl, fun V hV => (exec_ld 218 (.tmp 33) ⟨g, 10, none⟩ rfl rfl hV.2.2.2)⟩, ?_⟩; simp only [Act.put, lsA, lsB, lsC])
 (refine ⟨_, (.agg (qyC vn yy).toArray), rfl, .inl ⟨rfl, fun V hV => (exec_bldH 328 _ rfl #[(0, .agg ac.toArray), (1, .int .i64 (1024 + pp)), (2, .int .i64 ii), (3, .agg (qC vn x.q).toArray)] (by kernel_rfl) (RB.out V))⟩, ?_⟩; simp only [Act.put, lsA, lsB, lsC])
 repeat (refine ⟨_, _, rfl, .inl ⟨rfl, fun W hW => rfl⟩, ?_⟩; simp only [Act.put, lsA, lsB, lsC])
 simp only [SeqC]
 refine held_stB 21 none 328 (.tmp 37) (.tmp 35) (by kernel_rfl) rfl rfl rfl (by kernel_rfl) g 17 rfl (qyC vn yy) rfl hb2d (by rw [xc_len h1 hq, hql]; omega) (by rw [hql]; exact qyInfo) hqo ?_
 intro w3 B3 g3 s3
 rw [xc_puty h1 hq _ hql] at B3
 have hrg3 : w3.rangeAt gt (0 + x.k * 19) ac := fun j v hv => by rw [← hrgd j v hv]; exact grown_cell g3 ⟨gt, _, none⟩ (by simp; rw [hW2]; exact hgt) (by simp; exact hgtg)
 have F3 : Fr (LS g gl) w w3 := F2d.trans (Fr.grown g3 hb2d (.inr (.inl rfl)) (.inl rfl)) (fun i _ h => h)
 have l3 := l2d.fr (S := fun i => i = g) (Fr.grown g3 hb2d (.inr (.inl rfl)) rfl) (fun e => gne e.symm)
 refine ⟨HL.out w3 _ hql B3 hrg3, ?_⟩
 have d4 := B3.cell_ 4 (by rw [xc_told h1 hql 4 (by omega)]; exact h2)
 have d43 := B3.cell_ 43 (xc_end h1 hql 3 (by omega))
 have d40 := B3.cell_ 40 (xc_end h1 hql 0 (by omega))
 have d42 := B3.cell_ 42 (xc_end h1 hql 2 (by omega))
 have f40 := B3.frozen 40
 have f42 := B3.frozen 42
 have f43 := B3.frozen 43
 have hgl3 := B3.lt
 have FIN : Hid (LegRet g gl vn x L hs eb dp w (.returned (.tuple #[])) (((w3.setCell ⟨g, 40, none⟩ (.bool eb)).setCell ⟨g, 42, none⟩ (.int .i64 x.tmo)).setCell ⟨g, 43, none⟩ (.int .i64 ((x.sent : Int) + 1)))) := Hh (by
  have C1 := B3.set 40 (.bool eb)
  rw [xc_seteb h1 hql] at C1
  have C2 := C1.set 42 (.int .i64 x.tmo)
  rw [xc_setleft h1 hql] at C2
  have C3 := C2.set 43 (.int .i64 ((x.sent + 1 : Nat) : Int))
  rw [xc_setsent h1 hql] at C3
  have e : (.int .i64 ((x.sent : Int) + 1)) = Value.int .i64 ((x.sent + 1 : Nat) : Int) := by congr 1
  rw [e]
  have G := grown_set (grown_set (grown_cell1 w3 g 40 (.bool eb)) 42 (.int .i64 x.tmo)) 43 (.int .i64 ((x.sent + 1 : Nat) : Int))
  have FG := Fr.grown (S := LS g gl) G B3 (.inr (.inl rfl)) (.inl rfl)
  have FW := F3.trans FG (fun i _ h => h)
  obtain ⟨y1, y2⟩ := HYP.out
  have hyq : legY x L = yy := by rw [y1, HYY.out]
  refine ⟨rfl, ?_, ?_, FW⟩
  ·
   rw [hyq]
   have := PUT.out _ FW hs eb (qyC vn yy) hql C3
   rwa [hyq] at this
  ·
   rw [y2]
   exact l3.fr (S := fun i => i = g) (Fr.grown G B3 (.inr (.inl rfl)) rfl) (fun e => gne e.symm))
 clear PUT HYP l3 F3 hrg3 g3 B3 hrgd F2d l2d hb2d HS HL RB F2 l2 hb2 hrg
 simp only [Act.put, lsA, lsB, lsC]
 refine wpAnyH_done (by kernel_rfl) ?_ _
 have hsn' : (x.sent : Int) ≤ 1000000 := by omega
 have hsn0 : (0 : Int) ≤ x.sent := by omega
 generalize (x.sent : Int) = sn at *
 go_wp2_with fail
 go_end0
 exact FIN.out
theorem outI15 : (prog.info? 282).map (·.size) = some 15 := by kernel_rfl
theorem boolInfo1 : (prog.info? 4).map (·.size) = some 1 := by kernel_rfl
theorem fnInfo1 : (prog.info? 326).map (·.size) = some 1 := by kernel_rfl
theorem dpInfo1 : (prog.info? 329).map (·.size) = some 1 := by kernel_rfl
theorem run_bqyz (W : World) : (Instr.build 328 #[]).run prog W = .ok (.agg qyZ.toArray) W := by kernel_rfl
theorem qyZ_one : ∀ v ∈ qyZ, v.oneCell' = true := by simp [qyZ, Value.oneCell']
section
variable {T qs ds : List Value} {vn vt hs : Value} {q : Qn} {gl k : Nat} {eb hard done : Bool} {dp : Option Nat} {left vd : Int} {sent : Nat}
theorem xc_putout' (hT : T.length = 10) (hq : qs.length = 23) (vd' : Int) (ds' : List Value) (hd : ds.length = 14) (hd' : ds'.length = 14) : (xcC T vn q vt gl k hs qs eb dp left sent hard done vd ds).take 46 ++ (.int .i64 vd' :: ds' ++ (xcC T vn q vt gl k hs qs eb dp left sent hard done vd ds).drop 61) = xcC T vn q vt gl k hs qs eb dp left sent hard done vd' ds' := by
 have := xc_putout (vn := vn) (vt := vt) (hs := hs) (q := q) (gl := gl) (k := k) (eb := eb) (hard := hard) (done := done) (dp := dp) (left := left) (vd := vd) (sent := sent) hT hq vd' ds' hd hd'
 rw [show 46 + (.int .i64 vd' :: ds' : List Value).length = 61 by simp [hd'], List.append_assoc] at this
 exact this
theorem xc_puty' (hT : T.length = 10) (hq : qs.length = 23) (qs' : List Value) (hq' : qs'.length = 23) : (xcC T vn q vt gl k hs qs eb dp left sent hard done vd ds).take 17 ++ (qs' ++ (xcC T vn q vt gl k hs qs eb dp left sent hard done vd ds).drop 40) = xcC T vn q vt gl k hs qs' eb dp left sent hard done vd ds := by
 have := xc_puty (vn := vn) (vt := vt) (hs := hs) (q := q) (gl := gl) (k := k) (eb := eb) (hard := hard) (done := done) (dp := dp) (left := left) (vd := vd) (sent := sent) (ds := ds) hT hq qs' hq'
 rw [hq', List.append_assoc] at this
 exact this
end
def FinRet (g gl : Nat) (vn : Value) (x : Xc) (eb : Bool) (vd : Int) (m : Msg) (w : World) (e : Ending) (w' : World) : Prop := e = .returned (.tuple #[]) ∧ XchgB w' g gl vn { x with done := true, vd := vd, msg := m } .nilFunc eb qyZ none ∧ Fr (fun i => i = g) w w'
set_option maxHeartbeats 1000000 in
theorem finish_any (g gl : Nat) (vn : Value) (x : Xc) (hs : Value) (eb : Bool) (qs : List Value) (dp : Option Nat) (vd : Int) (ds' : List Value) (m : Msg) (w : World) (h : XchgB w g gl vn x hs eb qs dp) (hM : MsgOwn w ds' m) :
  Calls prog 227 #[.pointer (some ⟨g, 0, none⟩), .agg (Value.int .i64 vd :: ds').toArray] w (FinRet g gl vn x eb vd m w) := by
 have hq := h.ql
 obtain ⟨T, vt, ds, hb, h1, h2, h3, h4, h5, h6⟩ := h.b
 have hdl := h6.len
 have hdl' := hM.len
 have hO1 : ∀ v ∈ (Value.int .i64 vd :: ds' : List Value), v.oneCell' = true := by
  intro v hv
  rcases List.mem_cons.1 hv with rfl | hv
  ·
   rfl
  ·
   exact hM.one v hv
 have hOl : (Value.int .i64 vd :: ds' : List Value).length = 15 := by simp [hdl']
 have HX : Below w.heap.size w (w.alloc (.cells (Value.int .i64 vd :: ds').toArray 282)) := (Below.refl _ _).alloc (Nat.le_refl _) _
 have BX := Blk.new w 282 (Value.int .i64 vd :: ds')
 have hbX := hb.below HX hb.lt
 have FIN : Hid (∀ w', Fr (fun i => i = g) w w' → Blk w' g 331 (xcC T vn x.q vt gl x.k .nilFunc qyZ eb none x.left x.sent x.hard true vd ds') → FinRet g gl vn x eb vd m w (.returned (.tuple #[])) w') := Hh (fun w' hg hb' => ⟨rfl, ⟨⟨T, vt, ds', hb', h1, h2, h3, h4, hg.lown h5 (by unfold StTy; decide), hg.msg hM⟩, h.nm.stays hg.stays, qyZ_len⟩, hg⟩)
 have hgw : g ≠ w.heap.size := by have := hb.lt; omega
 clear h h2 h3 h4 h5 h6 hM
 obtain ⟨O, hO⟩ : ∃ O, Value.int .i64 vd :: ds' = O := ⟨_, rfl⟩
 rw [hO] at hO1 hOl HX BX hbX ⊢
 have HO := Hh hO
 have F0 : Fr (fun i => i = g) w (w.alloc (.cells O.toArray 282)) := Fr.below HX
 have HF0 := Hh F0
 clear hO hb HX F0
 go_enter func227, ntmps227
 go_wp2_with (refine at_op (.store 4 (.tmp 6) (.const (.bool true))) rfl ?_; go_must (refine wpList_stC rfl 4 (.tmp 6) (.const (.bool true)) rfl g 45 rfl (.bool true) rfl hbX (by rw [xc_len h1 hq]; omega) boolInfo1 rfl rfl ?_))
 intro w1 B1 g1 sw
 clear sw
 rw [xc_setdone h1 hq] at B1
 have F1 := HF0.out.trans (Fr.grown (S := fun i => i = g) g1 hbX (.inr (.inl rfl)) rfl) (fun i _ h => h)
 have X1 := BX.grown g1 (by simp; omega)
 clear HF0 g1 hbX BX
 go_wp2_with (first
  | (refine at_op (.load 282 (.tmp 3)) rfl ?_; go_must (refine wpList_ldB rfl _ _ rfl w.heap.size 0 rfl X1 15 (by omega) _ underlying282 rfl outI15 O (tk0 (by omega)) ?_))
  | (refine at_op (.store 282 (.tmp 10) (.tmp 8)) rfl ?_; go_must (refine wpList_stB rfl _ _ _ rfl g 46 rfl O rfl B1 (by rw [xc_len h1 hq, hOl]; omega) (by rw [hOl]; exact outI15) hO1 ?_)))
 intro w2 B2 g2 sw
 clear sw
 rw [← HO.out, xc_putout' h1 hq _ _ hdl hdl'] at B2
 have F2 := F1.trans (Fr.grown (S := fun i => i = g) g2 B1 (.inr (.inl rfl)) rfl) (fun i _ h => h)
 clear F1 g2 B1 X1
 go_wp2_with (refine at_op (.store 326 (.tmp 13) (.const .nilFunc)) rfl ?_; go_must (refine wpList_stC rfl 326 (.tmp 13) (.const .nilFunc) rfl g 16 rfl .nilFunc rfl B2 (by rw [xc_len h1 hq]; omega) fnInfo1 rfl rfl ?_))
 intro w3 B3 g3 sw
 clear sw
 rw [xc_seths h1 hq] at B3
 have F3 := F2.trans (Fr.grown (S := fun i => i = g) g3 B2 (.inr (.inl rfl)) rfl) (fun i _ h => h)
 clear F2 g3 B2
 go_wp2_with (first
  | (refine at_op (.build 328 #[]) rfl ?_; go_must (refine wpList_bld rfl 328 _ rfl #[] (by simp [Act.eval, Act.put]) (run_bqyz _) ?_))
  | (refine at_op (.store 328 (.tmp 17) (.tmp 15)) rfl ?_; go_must (refine wpList_stB rfl _ _ _ rfl g 17 rfl qyZ rfl B3 (by rw [xc_len h1 hq, qyZ_len]; omega) qyInfo qyZ_one ?_)))
 intro w4 B4 g4 sw
 clear sw
 rw [qyZ_len, xc_puty' h1 hq _ qyZ_len] at B4
 have F4 := F3.trans (Fr.grown (S := fun i => i = g) g4 B3 (.inr (.inl rfl)) rfl) (fun i _ h => h)
 clear F3 g4 B3
 go_wp2_with (refine at_op (.store 329 (.tmp 20) (.const (.pointer none))) rfl ?_; go_must (refine wpList_stC rfl 329 (.tmp 20) (.const (.pointer none)) rfl g 41 rfl (ptrV none) rfl B4 (by rw [xc_len h1 qyZ_len]; omega) dpInfo1 rfl rfl ?_))
 intro w5 B5 g5 sw
 clear sw
 rw [xc_setdp h1 qyZ_len] at B5
 have F5 := F4.trans (Fr.grown (S := fun i => i = g) g5 B4 (.inr (.inl rfl)) rfl) (fun i _ h => h)
 clear F4 g5 B4
 go_wp2_with fail
 go_end0
 exact FIN.out _ F5 B5
end Go.Proofs.YteimenplbanooaaGreatDoor

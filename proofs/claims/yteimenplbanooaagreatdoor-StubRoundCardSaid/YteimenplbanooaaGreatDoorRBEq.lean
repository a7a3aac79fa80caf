/-
  Layer 29 (xchg): what a call on an exchange leaves; send.
-/
import Derived.Test.YteimenplbanooaaGreatDoorRBDq
namespace Go.Proofs.YteimenplbanooaaGreatDoor
open _root_.Go.Proofs.Tryz
open Go.RowKit
set_option maxRecDepth 100000
set_option linter.unusedVariables false
set_option linter.unusedSimpArgs false
def hearsV (lg : Nat) : Value := if lg = 2 then .func (.func 302) #[] #[] else .func (.func 304) #[] #[]
structure XchgAt (w : World) (g gl : Nat) (D : Option Nat) (x : Xc) : Prop where
 ok : x.ok
 b : ∃ vn hs eb qs, XchgB w g gl vn x hs eb qs D ∧ (x.done = true → D = none) ∧ (x.done = false → hs = hearsV x.lg ∧ eb = x.ednsB ∧ qs = qyC vn x.y ∧ (x.lg ≠ 2 → D = none) ∧ (x.lg = 2 → ∃ gd, D = some gd ∧ DialAt w gd x.d))
def XS (g gl : Nat) (D : Option Nat) (i : Nat) : Prop := i = g ∨ i = gl ∨ D = some i
def XRet (g gl : Nat) (D : Option Nat) (r : XR) (w : World) (e : Ending) (w' : World) : Prop := ∃ v D', e = .returned v ∧ OusN w.heap.size w' v r.2.2 ∧ XchgAt w' g gl D' r.1 ∧ LotAt w' gl r.2.1 ∧ Fr (XS g gl D) w w' ∧ ∀ i, D' = some i → D = some i ∨ w.heap.size ≤ i
theorem legX_n {x : Xc} {L : Lt} {lg : Nat} (h : lg ≠ 2) : legX x L lg = ({ x with y := legY x L, lg := lg, left := x.tmo, sent := x.sent + 1 }, legL L, [⟨1, (legY x L).sv, (legY x L).port, (encM (askM x.q (legY x L).id (decide (lg = 0) && x.ed)) false).1⟩]) := if_neg h
theorem legY_id (x : Xc) (L : Lt) : 0 ≤ (legY x L).id ∧ (legY x L).id ≤ 65535 ∧ (legY x L).q = x.q ∧ (legY x L).sv = x.tr.getD x.k Adr.zero := by
 obtain ⟨h1, h2⟩ := draw_lt (drawL L 64512).2 (show (0 : Int) < 65536 by decide)
 exact ⟨h1, by show (drawL (drawL L 64512).2 65536).1 ≤ 65535; omega, rfl, rfl⟩
theorem getD_ip {l : List Adr} (h : ∀ a ∈ l, a.ip.length = 16) (k : Nat) : (l.getD k Adr.zero).ip.length = 16 := by
 rw [List.getD_eq_getElem?_getD]
 cases hk : l[k]? with
 | none => rfl
 | some a => exact h a (List.mem_of_getElem? hk)
theorem XchgB.qat {w : World} {g gl : Nat} {vn : Value} {x : Xc} {hs : Value} {eb : Bool} {y : Qy} {dp : Option Nat} (h : XchgB w g gl vn x hs eb (qyC vn y) dp) (hip : y.sv.ip.length = 16) : ∃ M, Blk w g 331 M ∧ M.length = 61 ∧ (M.drop 10).take 3 = qC vn x.q ∧ (M.drop 17).take 18 = y.sv.cells ∧ (M.drop 17).take 23 = qyC vn y ∧ M[35]? = some (.int .i64 y.port) ∧ M[36]? = some (.int .i64 y.id) := by
 obtain ⟨T, vt, ds, hb, h1, _, _, _, _, h6⟩ := h.b
 have hq := h.ql
 have e23 := xc_y (vn := vn) (q := x.q) (vt := vt) (gl := gl) (k := x.k) (hs := hs) (eb := eb) (dp := dp) (left := x.left) (sent := x.sent) (hard := x.hard) (done := x.done) (vd := x.vd) (ds := ds) h1 hq
 refine ⟨_, hb, by rw [xc_len h1 hq, h6.len], xc_q h1 hq, ?_, e23, ?_, ?_⟩
 ·
  have := congrArg (List.take 18) e23
  rw [List.take_take] at this
  exact this.trans (by have := qyC_ad (vn := vn) hip; rwa [List.drop_zero] at this)
 ·
  have := congrArg (fun l => l[18]?) e23
  simp only [List.getElem?_take, List.getElem?_drop] at this
  exact this.trans (qyC_at hip 0)
 ·
  have := congrArg (fun l => l[19]?) e23
  simp only [List.getElem?_take, List.getElem?_drop] at this
  exact this.trans (qyC_at hip 1)
def fdV : Value := .func (.func 304) #[] #[]
set_option maxHeartbeats 2000000 in
theorem send_any (g gl : Nat) (vn : Value) (x : Xc) (L : Lt) (lg : Nat) (hs : Value) (eb0 eb : Bool) (qs : List Value) (dp : Option Nat) (w : World) (h : XchgB w g gl vn x hs eb0 qs dp) (hl : LotAt w gl L) (hst : x.st) (hdn : x.done = false) (hk : x.k < x.tr.length) (hu : L.us ≤ 999999990) (hd : L.ds.length ≤ 17592186044416) (hsn : x.sent ≤ 1000000) (hlg : lg ≠ 2) (heb : eb = (decide (lg = 0) && x.ed)) :
  Calls prog 271 #[.pointer (some ⟨g, 0, none⟩), .bool eb] w (XRet g gl dp (legX x L lg) w) := by
 rw [legX_n hlg, ← heb]
 have LG := Hh (leg_any g gl vn x L hs eb0 eb qs dp w h hl hk hu hd hsn hst.trl)
 obtain ⟨i1, i2, iq, isv⟩ := legY_id x L
 have hyip : (legY x L).sv.ip.length = 16 := by rw [isv]; exact getD_ip hst.ips _
 obtain ⟨x', hx'⟩ : ∃ x' : Xc, x' = { x with y := legY x L, left := x.tmo, sent := x.sent + 1 } := ⟨_, rfl⟩
 unfold LegRet at LG
 rw [← hx'] at LG
 have hq' : x'.q = x.q := by rw [hx']
 have HX' := Hh hx'
 have HQ' := Hh hq'
 have HST := Hh hst
 have HEB := Hh heb
 obtain ⟨lcs, hlc⟩ := lot_blk hl
 obtain ⟨T0, vt0, ds0, hb0, _⟩ := h.b
 have gne := blk_ne hb0 hlc (by decide)
 obtain ⟨y, hy⟩ : ∃ y, Hid (legY x L = y) := ⟨_, Hh rfl⟩
 rw [hy.out] at LG i1 i2 iq isv hyip ⊢
 clear h hl hst heb hx' hlc hb0 hq'
 go_enter func271, ntmps271
 go_wp2_with fail
 refine LG.out.mono ?_
 rintro _ w1 ⟨rfl, hB, l1, F1⟩
 clear LG
 have hql := hB.ql
 obtain ⟨T, vt, ds, hb, h1, h2, h3, h4, h5, h6⟩ := hB.b
 have hMl := xc_len (vn := vn) (q := x'.q) (vt := vt) (gl := gl) (k := x'.k) (hs := hs) (eb := eb) (dp := dp) (left := x'.left) (sent := x'.sent) (hard := x'.hard) (done := x'.done) (vd := x'.vd) (ds := ds) h1 hql
 go_wp2_with (refine at_op (.store 329 (.tmp 12) (.const (.pointer none))) rfl ?_; go_must (refine wpList_stC rfl 329 (.tmp 12) (.const (.pointer none)) rfl g 41 rfl (ptrV none) rfl hb (by rw [hMl]; omega) dpInfo1 rfl rfl ?_))
 intro w2 B2 g2 sw
 clear sw
 go_wp2_with (refine at_op (.store 326 (.tmp 15) (.func 304)) rfl ?_; go_must (refine wpList_stC rfl 326 (.tmp 15) (.func 304) rfl g 16 rfl (.func (.func 304) #[] #[]) rfl B2 (by rw [List.length_set, hMl]; omega) fnInfo1 rfl rfl ?_))
 intro w3 B3 g3 sw
 clear sw
 rw [xc_setdp h1 hql, xc_seths h1 hql] at B3
 have G3 := grown_trans g2 g3 (.inl rfl)
 have fr := Fr.grown (S := fun i => i = g) G3 hb (.inr (.inl rfl)) rfl
 have hB3 : XchgB w3 g gl vn x' fdV eb (qyC vn y) none := ⟨⟨T, vt, ds, B3, h1, h2, h3, h4, fr.lown h5 (by unfold StTy; decide), fr.msg h6⟩, hB.nm.stays fr.stays, hql⟩
 have F3 : Fr (LS g gl) w w3 := F1.trans (Fr.grown G3 hb (.inr (.inl rfl)) (.inl rfl)) (fun i _ h => h)
 have l3 := l1.fr (S := fun i => i = g) (Fr.grown G3 hb (.inr (.inl rfl)) rfl) (fun e => gne e.symm)
 obtain ⟨M, hM, hMl3, mq, mad, _, m35, m36⟩ := hB3.qat hyip
 obtain ⟨vnA, vnc, hvn, hNR⟩ := hB3.nm.form
 have BU := Hh (fun W (hb : Below w3.heap.size w3 W) => build_any vnA vnc x'.q y.id eb W (hNR.below hb) (hB3.nm.2.1))
 have hqv : qC vn x'.q = [.slice vnA x'.q.name.length vnc, .int .i64 x'.q.ty, .int .i64 x'.q.cl] := by rw [hvn]; rfl
 have LQ : Hid (∀ V, Below w3.heap.size w3 V → (Instr.loadAt 218 (.pointer (some ⟨g, 10, none⟩))).run prog V = .ok (.agg #[.slice vnA x'.q.name.length vnc, .int .i64 x'.q.ty, .int .i64 x'.q.cl]) V) := Hh (fun V hV => (hM.below hV hM.lt).loads 218 10 3 (by omega) _ underlying218 rfl qInfo _ (by rw [mq, hqv]))
 have LI : Hid (∀ V, Below w3.heap.size w3 V → (Instr.loadAt 3 (.pointer (some ⟨g, 36, none⟩))).run prog V = .ok (.int .i64 y.id) V) := Hh (fun V hV => run_load1 underlying3 rfl ((hM.below hV hM.lt).cell_ 36 m36))
 have LP : Hid (∀ V, Below w3.heap.size w3 V → (Instr.loadAt 3 (.pointer (some ⟨g, 35, none⟩))).run prog V = .ok (.int .i64 y.port) V) := Hh (fun V hV => run_load1 underlying3 rfl ((hM.below hV hM.lt).cell_ 35 m35))
 have LA : Hid (∀ V, Below w3.heap.size w3 V → (Instr.loadAt 24 (.pointer (some ⟨g, 17, none⟩))).run prog V = .ok (.agg y.sv.cells.toArray) V) := Hh (fun V hV => (hM.below hV hM.lt).loads 24 17 18 (by omega) _ underlying24 rfl adI18 _ mad)
 have HF3 := Hh F3
 have HL3 := Hh l3
 have HB3 := Hh hB3
 have hsz : w.heap.size ≤ w3.heap.size := F3.size
 clear F3 l3 hB3 hM mq mad m35 m36 hqv hNR hvn B3 B2 g2 g3 G3 fr hb h2 h3 h4 h5 h6 hMl F1 l1 hB
 generalize x'.q.name.length = nl at *
 go_wp2_with fail
 refine wp_region_held_drew (S := fun V => Below w3.heap.size w3 V) (by kernel_rfl) (Below.refl _ _).drew (fun hS => ?_)
 refine held_seq hS 10 [0,1,2,3,4,5,6,7,8,9] rfl (by kernel_rfl) (fun _ _ _ _ _ h => h) rfl rfl ?_
 repeat (refine ⟨_, _, rfl, .inl ⟨rfl, fun W hW => rfl⟩, ?_⟩; simp only [Act.put, lsA, lsB, lsC])
 (refine ⟨_, _, rfl, .inl ⟨rfl, fun V hV => (exec_ld 218 (.tmp 19) ⟨g, 10, none⟩ rfl rfl (LQ.out V hV))⟩, ?_⟩; simp only [Act.put, lsA, lsB, lsC])
 repeat (refine ⟨_, _, rfl, .inl ⟨rfl, fun W hW => rfl⟩, ?_⟩; simp only [Act.put, lsA, lsB, lsC])
 (refine ⟨_, _, rfl, .inl ⟨rfl, fun V hV => (exec_ld 3 (.tmp 24) ⟨g, 36, none⟩ rfl rfl (LI.out V hV))⟩, ?_⟩; simp only [Act.put, lsA, lsB, lsC])
 repeat (refine ⟨_, _, rfl, .inl ⟨rfl, fun W hW => rfl⟩, ?_⟩; simp only [Act.put, lsA, lsB, lsC])
 simp only [SeqC]
 refine held_call 10 (some 27) 226 #[.agg #[.slice vnA nl vnc, .int .i64 x'.q.ty, .int .i64 x'.q.cl], .int .i64 y.id, .bool eb] (by kernel_rfl) rfl rfl (by kernel_rfl) (by go_simp) (BU.out _ hS) ?_
 rintro _ w4 ⟨rfl, b4⟩
 have hS := below_then hS hS.size b4
 refine ⟨_, rfl, hS, ?_⟩
 simp only [Act.put, lsA, lsB, lsC]
 obtain ⟨oct, hoct⟩ : ∃ oct, Hid ((encM (askM x'.q y.id eb) false).1 = oct) := ⟨_, Hh rfl⟩
 rw [hoct.out]
 generalize (encM (askM x'.q y.id eb) false).2 = er at *
 refine held_seq hS 5 [11,12,13,14,15] rfl (by kernel_rfl) (fun _ _ _ _ _ h => h) rfl rfl ?_
 (refine ⟨_, (.tuple #[.string (bs oct), .int .i64 er]), rfl, .inl ⟨rfl, fun V hV => rfl⟩, ?_⟩; simp only [Act.put, lsA, lsB, lsC])
 (refine ⟨_, (.string (bs oct)), rfl, .inl ⟨rfl, fun V hV => rfl⟩, ?_⟩; simp only [Act.put, lsA, lsB, lsC])
 (refine ⟨_, (.int .i64 er), rfl, .inl ⟨rfl, fun V hV => rfl⟩, ?_⟩; simp only [Act.put, lsA, lsB, lsC])
 (refine ⟨_, (.string (bs oct)), rfl, .inl ⟨rfl, fun V hV => rfl⟩, ?_⟩; simp only [Act.put, lsA, lsB, lsC])
 (refine ⟨_, (.int .i64 er), rfl, .inl ⟨rfl, fun V hV => rfl⟩, ?_⟩; simp only [Act.put, lsA, lsB, lsC])
 simp only [SeqC]
 refine wpAnyH_done (by kernel_rfl) ?_ _
 have RB := Hh (fun W => run_bou 1 y.sv y.port oct hyip W)
 have HLo := ouC_len (o := ⟨1, y.sv, y.port, oct⟩) hyip
 have ON := Hh (fun W => ousN_one W ⟨1, y.sv, y.port, oct⟩ hyip)
 obtain ⟨oc, hoc⟩ : ∃ oc, Hid (ouC ⟨1, y.sv, y.port, oct⟩ = oc) := ⟨_, Hh rfl⟩
 rw [hoc.out] at RB HLo ON
 obtain ⟨ac, hac⟩ : ∃ ac, Hid (y.sv.cells = ac) := ⟨_, Hh rfl⟩
 rw [hac.out] at RB LA
 have hS4 := hS
 clear LQ LI BU b4
 go_wp2_with fail
 refine wp_region_held_drew (S := fun V => Below w3.heap.size w3 V) (by kernel_rfl) (below_then hS4 hS4.size (Below.refl _ _).drew) (fun hS => ?_)
 have KD : Below w4.heap.size w4 w4.drew := (Below.refl _ _).drew
 refine held_seq hS 12 [0,1,2,3,4,5,6,7,8,9,10,11] rfl (by kernel_rfl) (fun _ _ _ _ _ h => h) rfl rfl ?_
 repeat (refine ⟨_, _, rfl, .inl ⟨rfl, fun W hW => rfl⟩, ?_⟩; simp only [Act.put, lsA, lsB, lsC])
 (refine ⟨_, _, rfl, .inl ⟨rfl, fun V hV => (exec_ld 24 (.tmp 33) ⟨g, 17, none⟩ rfl rfl (LA.out V hV))⟩, ?_⟩; simp only [Act.put, lsA, lsB, lsC])
 repeat (refine ⟨_, _, rfl, .inl ⟨rfl, fun W hW => rfl⟩, ?_⟩; simp only [Act.put, lsA, lsB, lsC])
 (refine ⟨_, _, rfl, .inl ⟨rfl, fun V hV => (exec_ld 3 (.tmp 38) ⟨g, 35, none⟩ rfl rfl (LP.out V hV))⟩, ?_⟩; simp only [Act.put, lsA, lsB, lsC])
 (refine ⟨_, (.string (bs oct)), rfl, .inl ⟨rfl, fun V hV => rfl⟩, ?_⟩; simp only [Act.put, lsA, lsB, lsC])
 (refine ⟨_, (.agg oc.toArray), rfl, .inl ⟨rfl, fun V hV => (exec_bldH 415 _ rfl #[(0, .int .i64 1), (1, .agg ac.toArray), (2, .int .i64 y.port), (3, .string (bs oct))] (by kernel_rfl) (RB.out V))⟩, ?_⟩; simp only [Act.put, lsA, lsB, lsC])
 simp only [SeqC]
 refine ord_one 12 (by kernel_rfl) ?_
 refine opw_run 12 (some 42) rfl rfl (by kernel_rfl) (exec_bsOu (.tmp 41) rfl rfl (run_bsOu _ oc HLo)) ?_
 have OO := ON.out w4.drew
 have hS2 : Below w3.heap.size w3 (w4.drew.alloc (.cells oc.toArray 415)) := hS.alloc hS.size _
 refine ⟨hS2, ?_⟩
 clear hS
 have hS := hS2
 clear hS2
 simp only [Act.put, lsA, lsB, lsC]
 refine held_seq hS 1 [13] rfl (by kernel_rfl) (fun _ _ _ _ _ h => h) rfl rfl ?_
 (refine ⟨_, (.slice (some ⟨w4.drew.heap.size, 0, none⟩) 1 1), rfl, .inl ⟨rfl, fun V hV => rfl⟩, ?_⟩; simp only [Act.put, lsA, lsB, lsC])
 simp only [SeqC]
 refine wpAnyH_done (by kernel_rfl) ?_ _
 have FIN : Hid (XRet g gl dp ({ x with y := y, lg := lg, left := x.tmo, sent := x.sent + 1 }, legL L, [⟨1, y.sv, y.port, (encM (askM x.q y.id eb) false).1⟩]) w (.returned (.slice (some ⟨w4.drew.heap.size, 0, none⟩) 1 1)) (w4.drew.alloc (.cells oc.toArray 415))) := Hh (by
  have XB := HB3.out.below hS
  have e1 := hoct.out
  rw [HQ'.out] at e1
  rw [HX'.out] at XB
  have st := HST.out
  refine ⟨_, none, rfl, ?_, ⟨⟨fun _ => ⟨st.ips, st.to1, st.to2, st.trl, st.err⟩, fun _ => ⟨hk, st.to1, Int.le_refl _, iq, isv, fun h => absurd h hlg⟩⟩, ⟨vn, fdV, eb, qyC vn y, ⟨XB.b, XB.nm, XB.ql⟩, fun _ => rfl, fun _ => ⟨?_, ?_, rfl, fun _ => rfl, fun h => absurd h hlg⟩⟩⟩, HL3.out.below hS, ?_, fun i h => by cases h⟩
  ·
   rw [e1]; exact OO.mono (Nat.le_trans hsz hS4.size)
  ·
   unfold hearsV; rw [if_neg hlg]; rfl
  ·
   rw [HEB.out]; rfl
  ·
   exact (HF3.out.mono (fun i h => h.elim .inl (fun h => .inr (.inl h)))).trans (Fr.below (S := XS g gl dp) hS) (fun i _ h => h))
 clear HF3 HL3 HB3 HX' HST HEB HQ' OO hS LA LP RB ON
 go_wp2_with fail
 go_ret
 exact FIN.out
theorem DialAt.fr {S : Nat → Prop} {w w' : World} {g : Nat} {d : Dl} (h : DialAt w g d) (k : Fr S w w') (hg : ¬ S g) : DialAt w' g d := by
 obtain ⟨p, ⟨vn, ds, ⟨last, ts, b0, b1, hpl, hb, hc, r⟩, h2, h3, h4⟩, r2⟩ := h
 exact ⟨p, ⟨vn, ds, ⟨last, ts, b0, b1, hpl, k.blk hb hg, Chain.keep (fun j cs hj => k.blkT hj (by unfold StTy; decide)) _ _ hc, r⟩, h2, h3.stays k.stays, k.msg h4⟩, r2⟩
theorem newD_st {y : Qy} (h : errP y = 0) : (newD y).1.st = 0 := by unfold newD; rw [if_pos h]
theorem legX_2 (x : Xc) (L : Lt) : legX x L 2 = ({ x with y := legY x L, lg := 2, left := x.tmo, sent := x.sent + 1, d := (newD (legY x L)).1 }, legL L, (newD (legY x L)).2) := if_pos rfl
def fcV : Value := .func (.func 302) #[] #[]
set_option maxHeartbeats 2000000 in
theorem connect_any (g gl : Nat) (vn : Value) (x : Xc) (L : Lt) (hs : Value) (eb0 : Bool) (qs : List Value) (dp : Option Nat) (w : World) (h : XchgB w g gl vn x hs eb0 qs dp) (hl : LotAt w gl L) (hst : x.st) (hdn : x.done = false) (hk : x.k < x.tr.length) (hu : L.us ≤ 999999990) (hd : L.ds.length ≤ 17592186044416) (hsn : x.sent ≤ 1000000) :
  Calls prog 270 #[.pointer (some ⟨g, 0, none⟩)] w (XRet g gl dp (legX x L 2) w) := by
 rw [legX_2]
 have LG := Hh (leg_any g gl vn x L hs eb0 false qs dp w h hl hk hu hd hsn hst.trl)
 obtain ⟨i1, i2, iq, isv⟩ := legY_id x L
 have hyip : (legY x L).sv.ip.length = 16 := by rw [isv]; exact getD_ip hst.ips _
 obtain ⟨x', hx'⟩ : ∃ x' : Xc, x' = { x with y := legY x L, left := x.tmo, sent := x.sent + 1 } := ⟨_, rfl⟩
 unfold LegRet at LG
 rw [← hx'] at LG
 have hq' : x'.q = x.q := by rw [hx']
 have HX' := Hh hx'
 have HST := Hh hst
 have HQ' := Hh hq'
 obtain ⟨lcs, hlc⟩ := lot_blk hl
 obtain ⟨T0, vt0, ds0, hb0, _⟩ := h.b
 have gne := blk_ne hb0 hlc (by decide)
 obtain ⟨y, hy⟩ : ∃ y, Hid (legY x L = y) := ⟨_, Hh rfl⟩
 rw [hy.out] at LG i1 i2 iq isv hyip ⊢
 clear h hl hst hx' hlc hb0 hq'
 go_enter func270, ntmps270
 go_wp2_with fail
 refine LG.out.mono ?_
 rintro _ w1 ⟨rfl, hB, l1, F1⟩
 clear LG
 have hql := hB.ql
 obtain ⟨T, vt, ds, hb, h1, h2, h3, h4, h5, h6⟩ := hB.b
 have hMl := xc_len (vn := vn) (q := x'.q) (vt := vt) (gl := gl) (k := x'.k) (hs := hs) (eb := false) (dp := dp) (left := x'.left) (sent := x'.sent) (hard := x'.hard) (done := x'.done) (vd := x'.vd) (ds := ds) h1 hql
 go_wp2_with (refine at_op (.store 326 (.tmp 9) (.func 302)) rfl ?_; go_must (refine wpList_stC rfl 326 (.tmp 9) (.func 302) rfl g 16 rfl (.func (.func 302) #[] #[]) rfl hb (by rw [hMl]; omega) fnInfo1 rfl rfl ?_))
 intro w2 B2 g2 sw
 clear sw
 rw [xc_seths h1 hql] at B2
 have fr := Fr.grown (S := fun i => i = g) g2 hb (.inr (.inl rfl)) rfl
 have hB2 : XchgB w2 g gl vn x' fcV false (qyC vn y) dp := ⟨⟨T, vt, ds, B2, h1, h2, h3, h4, fr.lown h5 (by unfold StTy; decide), fr.msg h6⟩, hB.nm.stays fr.stays, hql⟩
 have F2 : Fr (LS g gl) w w2 := F1.trans (Fr.grown g2 hb (.inr (.inl rfl)) (.inl rfl)) (fun i _ h => h)
 have l2 := l1.fr (S := fun i => i = g) fr (fun e => gne e.symm)
 obtain ⟨M, hM, hMl3, mq, mad, m23, m35, m36⟩ := hB2.qat hyip
 obtain ⟨vnA, vnc, hvn, hNR⟩ := hB2.nm.form
 have hnl := hB2.nm.2.1
 have DN : Hid (Calls prog 303 #[.agg (qyC vn y).toArray] w2 (DnRet y w2)) := Hh (by
  have e : x'.q = y.q := HQ'.out.trans iq.symm
  rw [e] at hNR hvn hnl
  exact dnew_any _ y vnA vnc w2 ⟨by rw [hvn], hyip, hNR⟩ hnl)
 have HF2 := Hh F2
 have HL2 := Hh l2
 have HB2 := Hh hB2
 have hsz : w.heap.size ≤ w2.heap.size := F2.size
 clear F2 l2 hB2 mq mad m35 m36 hNR hvn g2 fr hb h2 h3 h4 h5 h6 hMl F1 l1 hB hnl B2
 go_wp2_with (refine at_op (.load 328 (.tmp 13)) rfl ?_; go_must (refine wpList_ldB rfl _ _ rfl g 17 rfl hM 23 (by omega) _ underlying328 rfl qyInfo (qyC vn y) m23 ?_))
 refine DN.out.mono ?_
 rintro _ w4 ⟨gd, v4, rfl, hD4, hO4, b4, hgd⟩
 obtain ⟨T, vt, ds, hb, h1, h2, h3, h4, h5, h6⟩ := (HB2.out.below b4).b
 have hMl := xc_len (vn := vn) (q := x'.q) (vt := vt) (gl := gl) (k := x'.k) (hs := fcV) (eb := false) (dp := dp) (left := x'.left) (sent := x'.sent) (hard := x'.hard) (done := x'.done) (vd := x'.vd) (ds := ds) h1 hql
 clear hM m23 DN
 go_wp2_with (refine at_op (.store 329 (.tmp 21) (.tmp 19)) rfl ?_; go_must (refine wpList_stC rfl 329 (.tmp 21) (.tmp 19) rfl g 41 rfl (ptrV (some gd)) rfl hb (by rw [hMl]; omega) dpInfo1 rfl rfl ?_))
 intro w5 B5 g5 sw
 clear sw
 rw [xc_setdp h1 hql] at B5
 have hgl2 : g < w2.heap.size := HB2.out.lt
 have FIN : Hid (XRet g gl dp ({ x with y := y, lg := 2, left := x.tmo, sent := x.sent + 1, d := (newD y).1 }, legL L, (newD y).2) w (.returned v4) w5) := Hh (by
  have fr5 := Fr.grown (S := fun i => i = g) g5 hb (.inr (.inl rfl)) rfl
  have st := HST.out
  have XB : XchgB w5 g gl vn x' fcV false (qyC vn y) (some gd) := ⟨⟨T, vt, ds, B5, h1, h2, h3, h4, fr5.lown h5 (by unfold StTy; decide), fr5.msg h6⟩, (HB2.out.below b4).nm.stays fr5.stays, hql⟩
  rw [HX'.out] at XB
  have hdy : errP y = 0 := by unfold errP; rw [iq]; exact st.err _ _ i1 i2
  refine ⟨_, some gd, rfl, ?_, ⟨⟨fun _ => ⟨st.ips, st.to1, st.to2, st.trl, st.err⟩, fun _ => ⟨hk, st.to1, Int.le_refl _, iq, isv, fun _ => ⟨newD_st hdy, newD_y y, newD_ok y⟩⟩⟩, ⟨vn, fcV, false, qyC vn y, ⟨XB.b, XB.nm, XB.ql⟩, fun e => ?_, fun _ => ⟨rfl, rfl, rfl, fun h => absurd rfl h, fun _ => ⟨gd, rfl, hD4.fr fr5 (by omega)⟩⟩⟩⟩, (HL2.out.below b4).fr fr5 (fun e => gne e.symm), ?_, fun i h => ?_⟩
  ·
   exact (hO4.grown g5 (by omega)).mono (by omega)
  ·
   rw [hdn] at e; cases e
  ·
   exact ((HF2.out.mono (fun i h => h.elim .inl (fun h => .inr (.inl h)))).trans (Fr.below (S := XS g gl dp) b4) (fun i _ h => h)).trans (Fr.grown (S := XS g gl dp) g5 hb (.inr (.inl rfl)) (.inl rfl)) (fun i _ h => h)
  ·
   injection h with h; exact .inr (by omega))
 clear HF2 HL2 HB2 HX' HST HQ' hD4 hO4 b4 hb h2 h3 h4 h5 h6 hMl B5 g5
 go_wp2_with fail
 go_ret
 exact FIN.out
theorem XRet.back {g gl : Nat} {D : Option Nat} {r : XR} {w w1 w' : World} {e : Ending} (h : XRet g gl D r w1 e w') (k : Fr (XS g gl D) w w1) : XRet g gl D r w e w' := by
 obtain ⟨v, D', he, ho, hx, hl, hf, hD⟩ := h
 exact ⟨v, D', he, ho.mono k.size, hx, hl, k.trans hf (fun _ _ h => h), fun i hi => (hD i hi).imp id (fun h => Nat.le_trans k.size h)⟩
theorem run_bouz (v : Int) (W : World) : (Instr.build 282 #[(0, .int .i64 v)]).run prog W = .ok (.agg (Value.int .i64 v :: msgZ).toArray) W := by kernel_rfl
theorem outZ_one (v : Int) : ∀ u ∈ (Value.int .i64 v :: msgZ : List Value), u.oneCell' = true := by
 intro u hu
 rcases List.mem_cons.1 hu with rfl | hu
 ·
  rfl
 ·
  exact (MsgOwn.zero default).one u hu
theorem FinRet.x {g gl : Nat} {vn : Value} {x : Xc} {eb : Bool} {vd : Int} {m : Msg} {w : World} {e : Ending} {w' : World} {L : Lt} {D : Option Nat} (h : FinRet g gl vn x eb vd m w e w') (hl : LotAt w gl L) (hg : g ≠ gl) : e = .returned (.tuple #[]) ∧ XRet g gl D ({ x with done := true, vd := vd, msg := m }, L, []) w (.returned nilS) w' := by
 obtain ⟨he, hb, fr⟩ := h
 exact ⟨he, _, none, rfl, OusN.nil _ _, ⟨⟨fun h => (by cases h), fun h => (by cases h)⟩, ⟨vn, _, eb, _, hb, fun _ => rfl, fun h => (by cases h)⟩⟩, hl.fr fr (fun e => hg e.symm), fr.mono (fun _ h => .inl h), fun i h => (by cases h)⟩
set_option maxHeartbeats 2000000 in
theorem begin_any (g gl : Nat) (vn : Value) (x : Xc) (L : Lt) (hs : Value) (eb : Bool) (qs : List Value) (dp : Option Nat) (w : World) (h : XchgB w g gl vn x hs eb qs dp) (hl : LotAt w gl L) (hst : x.st) (hdn : x.done = false) (hu : L.us ≤ 999999990) (hd : L.ds.length ≤ 17592186044416) (hsn : x.sent ≤ 1000000) :
  Calls prog 228 #[.pointer (some ⟨g, 0, none⟩)] w (XRet g gl dp (tryX x L) w) := by
 obtain ⟨R, hR⟩ : ∃ R, Hid (tryX x L = R) := ⟨_, Hh rfl⟩
 rw [hR.out]
 obtain ⟨lcs, hlc⟩ := lot_blk hl
 obtain ⟨M, vt, ds, hb, hM, c4, c7, c9, c10, c13, c14, c15, c16, c17, c40, c41, c42, c43, c44, c45, c46, hT, hm⟩ := h.cells
 have gne := blk_ne hb hlc (by decide)
 obtain ⟨At, ct, hvt⟩ := hT.form
 have htl := hst.trl
 have d15 := hb.cell_ 15 c15
 have d13 := hb.cell_ 13 c13
 rw [hvt] at d13
 have HK := Hh (hb.cell_ 7 c7)
 have HE := Hh (hb.cell_ 9 c9)
 have d44 := hb.cell_ 44 c44
 have H := Lib.hid h
 have HLT := Hh hl
 have HST := Hh hst
 by_cases hk : x.k < x.tr.length
 case neg =>
  have hk' : (x.k : Int) ≥ x.tr.length := by omega
  have hk2 : decide ((x.tr.length : Int) ≤ x.k) = true := by simp; omega
  have HR : Hid (R = ({ x with done := true, vd := if x.hard then 5 else 4, msg := Msg.zero }, L, [])) := Hh (by rw [← hR.out]; unfold tryX; rw [if_neg hk])
  clear h hl hst hlc hb hT hm c4 c7 c9 c10 c13 c14 c15 c16 c17 c40 c41 c42 c43 c44 c45 c46 hR hvt hk
  generalize x.tr.length = n at *
  have HRF : Hid (x.hard = false → R = ({ x with done := true, vd := 4, msg := Msg.zero }, L, [])) := Hh (fun h => by rw [HR.out, h]; rfl)
  have HRT : Hid (x.hard = true → R = ({ x with done := true, vd := 5, msg := Msg.zero }, L, [])) := Hh (fun h => by rw [HR.out, h]; rfl)
  obtain ⟨k, hkk⟩ : ∃ k, k = x.k := ⟨_, rfl⟩
  rw [← hkk] at d15 hk' hk2
  obtain ⟨hd, hhd⟩ : ∃ hd, hd = x.hard := ⟨_, rfl⟩
  rw [← hhd] at d44
  have HHD := Hh hhd
  clear hkk hhd HR
  go_enter func228, ntmps228
  go_wp2_with fail
  go_quiet (fail)
  obtain ⟨W, hW⟩ : ∃ W, W = w.drewN nq := ⟨_, rfl⟩
  rw [← hW]
  have HW : Below w.heap.size w W := hW ▸ below_drewN (Below.refl _ _) _
  have e44 : W.cell? ⟨g, 44, none⟩ = some (.bool hd) := hW ▸ d44
  clear hW d44 d15 d13 hk' hk2
  have RZ := Hh (fun V => run_bouz 4 V)
  have zl : (Value.int .i64 4 :: msgZ : List Value).length = 15 := by simp [msgZ_len]
  have zl0 : (Value.int .i64 0 :: msgZ : List Value).length = 15 := by simp [msgZ_len]
  have zl5 : (Value.int .i64 5 :: msgZ : List Value).length = 15 := by simp [msgZ_len]
  have zo := outZ_one 4
  have Z5 : (Value.int .i64 4 :: msgZ : List Value).set 0 (.int .i64 5) = Value.int .i64 5 :: msgZ := rfl
  have F4 : Hid (∀ V, Below w.heap.size w V → Calls prog 227 #[.pointer (some ⟨g, 0, none⟩), .agg (Value.int .i64 4 :: msgZ).toArray] V (FinRet g gl vn x eb 4 Msg.zero V)) := Hh (fun V hb => finish_any g gl vn x hs eb qs dp 4 msgZ Msg.zero V (H.out.below hb) (MsgOwn.zero _))
  have F5 : Hid (∀ V, Below w.heap.size w V → Calls prog 227 #[.pointer (some ⟨g, 0, none⟩), .agg (Value.int .i64 5 :: msgZ).toArray] V (FinRet g gl vn x eb 5 Msg.zero V)) := Hh (fun V hb => finish_any g gl vn x hs eb qs dp 5 msgZ Msg.zero V (H.out.below hb) (MsgOwn.zero _))
  have BZ := Blk.new W 282 (Value.int .i64 0 :: msgZ)
  obtain ⟨Z, hZ⟩ : ∃ Z, Hid (Value.int .i64 4 :: msgZ = Z) := ⟨_, Hh rfl⟩
  obtain ⟨Y, hY⟩ : ∃ Y, Hid (Value.int .i64 5 :: msgZ = Y) := ⟨_, Hh rfl⟩
  rw [hZ.out] at RZ zl zo Z5 F4
  rw [hY.out] at zl5 Z5 F5
  have hWs := HW.size
  go_wp2_with (first
   | (refine at_op (.build 282 #[(0, .const (.int .i64 4))]) rfl ?_; go_must (refine wpList_bld rfl 282 _ rfl #[(0, .int .i64 4)] (by simp [Act.eval, Act.put]) (RZ.out _) ?_))
   | (refine at_op (.store 282 (.tmp 3) (.tmp 14)) rfl ?_; go_must (refine wpList_stB rfl _ _ _ rfl W.heap.size 0 rfl Z rfl BZ (by rw [zl, zl0]; decide) (by rw [zl]; exact outI15) zo ?_)))
  intro w3 B3 g3 sw
  clear sw
  replace B3 := blkAll (L := Z) B3 (by have := msgZ_len; omega)
  have K3 : Below W.heap.size W w3 := below_grown ((Below.refl _ _).alloc (Nat.le_refl _) _) g3 (by simp) (Nat.le_refl _)
  have H3 := below_then HW HW.size K3
  have d44 : w3.cell? ⟨g, 44, none⟩ = some (.bool hd) := by rw [← e44]; exact World.cell?_of_block (K3.block _ (Nat.lt_of_lt_of_le H.out.lt HW.size))
  clear g3 e44 BZ RZ zo zl0 K3
  generalize W.heap.size = gz at *
  cases hd with
  | false =>
   have HR2 : Hid (R = ({ x with done := true, vd := 4, msg := Msg.zero }, L, [])) := Hh (HRF.out HHD.out.symm)
   have BV := B3
   have HV := H3
   have FV := F4
   have ZL := zl
   clear B3 H3 F4 F5 HRF HRT Z5 zl5 HHD
   go_wp2_with (refine at_op (.load 282 (.tmp 3)) rfl ?_; go_must (refine wpList_ldB rfl _ _ rfl gz 0 rfl BV 15 (by rw [ZL]; decide) _ underlying282 rfl outI15 _ (tk0 (by omega)) ?_))
   refine (FV.out _ HV).mono ?_
   intro e9 w9 hf
   obtain ⟨he, hx⟩ := hf.x (L := L) (D := dp) (HLT.out.below HV) gne
   rw [he]
   have HX := Hh (hx.back (Fr.below HV))
   clear he hf FV hx
   go_wp2_with fail
   go_ret
   rw [HR2.out]
   exact HX.out
  | true =>
   have HR2 : Hid (R = ({ x with done := true, vd := 5, msg := Msg.zero }, L, [])) := Hh (HRT.out HHD.out.symm)
   go_wp2_with (refine at_op (.store 3 (.tmp 19) (.const (.int .i64 5))) rfl ?_; go_must (refine wpList_stC rfl 3 (.tmp 19) (.const (.int .i64 5)) rfl gz 0 rfl (.int .i64 5) rfl B3 (by rw [zl]; decide) intInfo1 rfl rfl ?_))
   intro w4 BV g4 sw
   clear sw
   have HV : Below w.heap.size w w4 := below_grown H3 g4 H3.size hWs
   have FV := F5
   have ZL := zl5
   clear B3 H3 F4 F5 HRF HRT Z5 zl HHD d44 g4
   go_wp2_with (refine at_op (.load 282 (.tmp 3)) rfl ?_; go_must (refine wpList_ldB rfl _ _ rfl gz 0 rfl BV 15 (by rw [ZL]; decide) _ underlying282 rfl outI15 _ (tk0 (by omega)) ?_))
   refine (FV.out _ HV).mono ?_
   intro e9 w9 hf
   obtain ⟨he, hx⟩ := hf.x (L := L) (D := dp) (HLT.out.below HV) gne
   rw [he]
   have HX := Hh (hx.back (Fr.below HV))
   clear he hf FV hx
   go_wp2_with fail
   go_ret
   rw [HR2.out]
   exact HX.out
 have HR : Hid (R = legX x L (if x.vc then 2 else 0)) := Hh (by rw [← hR.out]; unfold tryX; rw [if_pos hk])
 have hk' : ¬ (x.k : Int) ≥ x.tr.length := by omega
 have hk2 : decide ((x.tr.length : Int) ≤ x.k) = false := by simp; omega
 have CN := Hh (fun V hb => connect_any g gl vn x L hs eb qs dp V (H.out.below hb) (HLT.out.below hb) HST.out hdn hk hu hd hsn)
 have SN := Hh (fun V hb => send_any g gl vn x L 0 hs eb x.ed qs dp V (H.out.below hb) (HLT.out.below hb) HST.out hdn hk hu hd hsn (by decide) (by simp))
 clear h hl hst hlc hb hT hm c4 c7 c9 c10 c13 c14 c15 c16 c17 c40 c41 c42 c43 c44 c45 c46 hR hvt hk d44 H HLT HST
 generalize x.tr.length = n at *
 generalize x.k = k at *
 generalize hvc : x.vc = vc at *
 have HVC := Hh hvc
 generalize x.ed = ed at *
 go_enter func228, ntmps228
 go_wp2_with fail
 go_quiet (fail)
 obtain ⟨W, hW⟩ : ∃ W, W = w.drewN nq := ⟨_, rfl⟩
 rw [← hW]
 have HW : Below w.heap.size w W := hW ▸ below_drewN (Below.refl _ _) _
 have d7 : W.cell? ⟨g, 7, none⟩ = some (.bool vc) := hW ▸ HK.out
 have d9 : W.cell? ⟨g, 9, none⟩ = some (.bool ed) := hW ▸ HE.out
 have C1 := Hh (CN.out W HW)
 have S1 := Hh (SN.out W HW)
 have FW : Fr (XS g gl dp) w W := Fr.below HW
 have HFW := Hh FW
 clear hW d15 d13 HK HE CN SN hvc FW
 cases vc with
 | true =>
  clear S1
  go_wp2_with fail
  refine C1.out.mono ?_
  intro e1 w1 hx
  have hx := hx.back HFW.out
  obtain ⟨v, D', rfl, hx2⟩ := hx
  have HX := Hh hx2
  clear hx2 hx
  go_wp2_with fail
  go_ret
  rw [HR.out]
  exact ⟨v, D', rfl, HX.out⟩
 | false =>
  clear C1
  go_wp2_with fail
  refine S1.out.mono ?_
  intro e1 w1 hx
  have hx := hx.back HFW.out
  obtain ⟨v, D', rfl, hx2⟩ := hx
  have HX := Hh hx2
  clear hx2 hx
  go_wp2_with fail
  go_ret
  rw [HR.out]
  exact ⟨v, D', rfl, HX.out⟩
theorem XchgAt.below {w w' : World} {g gl : Nat} {D : Option Nat} {x : Xc} (h : XchgAt w g gl D x) (k : Below w.heap.size w w') : XchgAt w' g gl D x := by
 obtain ⟨ok, vn, hs, eb, qs, hb, h1, h2⟩ := h
 refine ⟨ok, vn, hs, eb, qs, hb.below k, h1, fun hd => ?_⟩
 obtain ⟨a, b, c, d, e⟩ := h2 hd
 refine ⟨a, b, c, d, fun hl => ?_⟩
 obtain ⟨gd, hg, hD⟩ := e hl
 exact ⟨gd, hg, hD.below k⟩
theorem XchgAt.blk {w : World} {g gl : Nat} {D : Option Nat} {x : Xc} (h : XchgAt w g gl D x) : ∃ L, Blk w g 331 L := by
 obtain ⟨ok, vn, hs, eb, qs, hb, _⟩ := h
 obtain ⟨T, vt, ds, hb, _⟩ := hb.b
 exact ⟨_, hb⟩
theorem OusN.appFr {lo : Nat} {w w' : World} {v : Value} {l : List Ou} (h : OusN lo w v l) (hg : w.grownBy w' v.ownBlock) : Fr (fun i => v.ownBlock = some i) w w' := by
 obtain ⟨css, h1, _⟩ := h
 rcases h1.2 with ⟨hv, _⟩ | ⟨g', cap, cur, hv, _, hb, _⟩
 ·
  subst hv
  exact ⟨hg.os, hg.tape, hg.output, hg.size, fun i hi => .inl (hg.block i hi (by intro h; cases h))⟩
 ·
  subst hv
  exact Fr.grown (g := g') (cs := cur.toList) hg hb (by unfold StTy; decide) rfl
theorem each_app {α : Type} {R : List Value → α → Prop} : ∀ {a b : List (List Value)} {l m : List α}, Each R a l → Each R b m → Each R (a ++ b) (l ++ m)
 | [], _, [], _, _, h => h
 | _ :: _, _, _ :: _, _, h, k => ⟨h.1, each_app h.2 k⟩
theorem each_ou : ∀ {css : List (List Value)} {l : List Ou}, Each OuI css l → css.flatten.length = l.length * 21 ∧ ∀ u ∈ css.flatten, u.oneCell' = true
 | [], [], _ => ⟨rfl, by simp⟩
 | cs :: css, o :: l, h => by
  obtain ⟨h1, h2⟩ := each_ou h.2
  refine ⟨?_, fun u hu => ?_⟩
  ·
   simp only [List.flatten_cons, List.length_append, List.length_cons, h1, h.1.len]; omega
  ·
   rcases List.mem_append.1 hu with hu | hu
   ·
    rw [h.1.1] at hu; exact ouC_one u hu
   ·
    exact h2 u hu
theorem wpList_appOu (w : World) {ops : Array Oper} {rest : List Oper} {o : Oper} {a : Act} {Q : Exit → Act → World → Prop} (hgd : o.guard = none) (s x : Operand)
  (ho : o.op = .call { callee := .builtin .append, args := #[s, x], argTypes := #[30, 30] }) {lo lo2 : Nat} {v1 v2 : Value} {o1 o2 : List Ou} (hs : a.eval s = v1) (hx : a.eval x = v2) (h1 : OusN lo w v1 o1) (h2 : OusN lo2 w v2 o2) (hlo : lo ≤ w.heap.size) (hl : o1.length + o2.length ≤ 100000)
  (h : ∀ v' w', OusN lo w' v' (o1 ++ o2) → Fr (fun i => v1.ownBlock = some i) w w' → wpList prog ops Q rest (a.put o.dst v') w') : wpList prog ops Q (o :: rest) a w := by
 have H1 := h1
 obtain ⟨css1, w1, e1⟩ := h1
 obtain ⟨css2, w2, e2⟩ := h2
 obtain ⟨l1, _⟩ := each_ou e1
 obtain ⟨l2, n2⟩ := each_ou e2
 obtain ⟨A2, c2, rfl⟩ := own_form w2
 refine wpList_appG w hgd s x 30 ho 415 (.agg ouZ.toArray) 21 64 underlying30 ouInfo3 (by kernel_rfl) (by decide) lo v1 o1.length css1.flatten hs w1 hlo A2 o2.length c2 css2.flatten hx (fun hp => ?_) l2 n2 (by simp only [maxLen]; omega) (by omega) _ rfl ?_
 ·
  obtain ⟨g, L, hA, hb, hL, _⟩ := own_range w2 hp l2
  refine ⟨g, 0, hA, fun j v hv => ?_⟩
  rw [Nat.zero_add]
  refine hb.cell_ j ?_
  rw [← hL] at hv
  rw [List.getElem?_take] at hv
  split at hv
  ·
   exact hv
  ·
   cases hv
 ·
  intro A' c' w' ho' hg
  refine h _ w' ⟨css1 ++ css2, ?_, each_app e1 e2⟩ (H1.appFr hg)
  rw [List.flatten_append, List.length_append]
  exact ho'
theorem DialAt.blkD {w : World} {g : Nat} {d : Dl} (h : DialAt w g d) : ∃ L, Blk w g 437 L := by
 obtain ⟨p, hJ, _⟩ := h
 obtain ⟨vn, L, ds, hb, _⟩ := hJ.blk
 exact ⟨L, hb⟩
theorem XchgAt.fr {S : Nat → Prop} {w w' : World} {g gl : Nat} {D : Option Nat} {x : Xc} (h : XchgAt w g gl D x) (k : Fr S w w') (hg : ¬ S g) (hD : ∀ i L, D = some i → Blk w i 437 L → ¬ S i) : XchgAt w' g gl D x := by
 obtain ⟨ok, vn, hs, eb, qs, hb, h1, h2⟩ := h
 refine ⟨ok, vn, hs, eb, qs, hb.fr k hg, h1, fun hd => ?_⟩
 obtain ⟨a, b, c, d, e⟩ := h2 hd
 refine ⟨a, b, c, d, fun hl => ?_⟩
 obtain ⟨gd, hgd, hA⟩ := e hl
 obtain ⟨L, hL⟩ := hA.blkD
 exact ⟨gd, hgd, hA.fr k (hD gd L hgd hL)⟩
theorem wpList_exG {P : Program} {ops : Array Oper} {rest : List Oper} {o : Oper} {a : Act} {w : World} {Q : Exit → Act → World → Prop} (hw : Region.wanted o (yielded ops a.tmps) = true) {v : Value} (hx : (execOp a.eval o).run P w = .ok (.value v) w) (h : wpList P ops Q rest (a.put o.dst v) w) : wpList P ops Q (o :: rest) a w := by
 unfold wpList
 rw [if_pos hw]
 left
 unfold Oper.wp
 rw [hx]
 exact h
def OcRet (vd : Int) (m : Msg) (w : World) (e : Ending) (w' : World) : Prop := ∃ ds, e = .returned (.agg (Value.int .i64 vd :: ds).toArray) ∧ MsgOwn w' ds m ∧ Below w.heap.size w w'
theorem outcome_any (g gl : Nat) (D : Option Nat) (x : Xc) (w : World) (h : XchgAt w g gl D x) : Calls prog 223 #[.pointer (some ⟨g, 0, none⟩)] w (OcRet x.vd x.msg w) := by
 obtain ⟨ok, vn, hv, eb, qs, hb, -, -⟩ := h
 obtain ⟨M, vt, ds, hbk, hMl, _, _, _, _, _, _, _, _, _, _, _, _, _, _, _, c46, _, hM⟩ := hb.cells
 have hdl := hM.len
 have hO1 : ∀ v ∈ (Value.int .i64 x.vd :: ds : List Value), v.oneCell' = true := by
  intro v hv
  rcases List.mem_cons.1 hv with rfl | hv
  ·
   rfl
  ·
   exact hM.one v hv
 have hl15 : (Value.int .i64 x.vd :: ds : List Value).length = 15 := by simp [hdl]
 have HM := Hh hM
 have hglt := hbk.lt
 clear hb ok hM
 generalize x.msg = m at *
 generalize x.vd = vd at *
 obtain ⟨O, hO⟩ : ∃ O, Hid (Value.int .i64 vd :: ds = O) := ⟨_, Hh rfl⟩
 rw [hO.out] at c46 hO1 hl15
 have HX : Below w.heap.size w (w.alloc (.cells (Value.int .i64 0 :: msgZ).toArray 282)) := (Below.refl _ _).alloc (Nat.le_refl _) _
 have BZ := Blk.new w 282 (Value.int .i64 0 :: msgZ)
 have zl0 : (Value.int .i64 0 :: msgZ : List Value).length = 15 := by simp [msgZ_len]
 have BX := hbk.below HX hglt
 go_enter func223, ntmps223
 go_wp2_with (first
  | (refine at_op (.load 282 (.tmp 8)) rfl ?_; go_must (refine wpList_ldB rfl _ _ rfl g 46 rfl BX 15 (by omega) _ underlying282 rfl outI15 O c46 ?_))
  | (refine at_op (.store 282 (.tmp 2) (.tmp 9)) rfl ?_; go_must (refine wpList_stB rfl _ _ _ rfl w.heap.size 0 rfl O rfl BZ (by rw [hl15, zl0]; decide) (by rw [hl15]; exact outI15) hO1 ?_)))
 intro w2 B2 g2 sw
 clear sw
 replace B2 := blkAll (L := O) B2 (by have := msgZ_len; omega)
 have H2 := below_grown HX g2 HX.size (Nat.le_refl _)
 have FIN : Hid (OcRet vd m w (.returned (.agg O.toArray)) w2) := Hh ⟨ds, by rw [hO.out], HM.out.below H2, H2⟩
 clear BX BZ HX g2 H2 hO HM c46
 go_wp2_with fail
 refine ret_cell rfl w.heap.size rfl B2 _ underlying282 rfl (by rw [hl15]; exact outI15) rfl ?_
 exact FIN.out
end Go.Proofs.YteimenplbanooaaGreatDoor

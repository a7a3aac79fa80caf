/-
  Layer 29 (xchg): leg, over, finish; Done, Sent.
-/
import Derived.Test.YthnbcmlnpdabhaaGreatIFq
import Derived.Test.YthnbcmlnpdabhaaGreatINq
namespace Go.Proofs.YthnbcmlnpdabhaaGreat
open _root_.Go.Proofs.Tryz
open Go.RowKit
set_option maxRecDepth 100000
set_option linter.unusedVariables false
set_option linter.unusedSimpArgs false
theorem pH.cells {w : World} {g gl : Nat} {vn : Value} {x : Xc} {hs : Value} {eb : Bool} {qs : List Value} {dp : Option Nat} (h : pH w g gl vn x hs eb qs dp) : ∃ L vt ds, nj w g 177 L /\ L.length = 61 /\ L[4]? = some (.int .i64 x.tmo) /\ L[7]? = some (.bool x.vc) /\ L[9]? = some (.bool x.ed) /\ (L.drop 10).take 3 = qC vn x.q /\ L[13]? = some vt /\ L[14]? = some (.pointer (some ⟨gl, 0, none⟩)) /\ L[15]? = some (.int .i64 x.k) /\ L[16]? = some hs /\ (L.drop 17).take 23 = qs /\ L[40]? = some (.bool eb) /\ L[41]? = some (BI dp) /\ L[42]? = some (.int .i64 x.left) /\ L[43]? = some (.int .i64 x.sent) /\ L[44]? = some (.bool x.hard) /\ L[45]? = some (.bool x.done) /\ (L.drop 46).take 15 = .int .i64 x.vd :: ds /\ ye w 0 vt x.tr /\ nL w ds x.msg := by
 obtain ⟨T, vt, ds, hb, h1, h2, h3, h4, h5, h6⟩ := h.b;have hq := h.ql;refine ⟨_, vt, ds, hb, by rw [tw h1 hq, h6.len], by rw [yi h1 hq 4 ak]; exact h2, by rw [yi h1 hq 7 ak]; exact h3, by rw [yi h1 hq 9 ak]; exact h4, UY h1 hq, wh h1 hq 0 ak, wh h1 hq 1 ak, wh h1 hq 2 ak, wh h1 hq 3 ak, V4 h1 hq, vh h1 hq 0 ak, vh h1 hq 1 ak, vh h1 hq 2 ak, vh h1 hq 3 ak, vh h1 hq 4 ak, vh h1 hq 5 ak, ?_, h5, h6⟩;rw [UZ h1 hq, List.take_of_length_le (by rw [h6.len]; decide)]
theorem QB {w : World} {g gl : Nat} {vn : Value} {x : Xc} {hs : Value} {eb : Bool} {qs : List Value} {dp : Option Nat} (h : pH w g gl vn x hs eb qs dp) : Calls prog 38 #[.pointer (some ⟨g, 0, none⟩)] w (rN (.bool x.done) w) := by
 obtain ⟨L, vt, ds, hb, _, _, _, _, _, _, _, _, _, _, _, _, _, _, _, c45, _⟩ := h.cells;have d45 := hb.nf 45 c45;clear hb c45 h;generalize x.done = dn at *;go_enter func38, ntmps38;exact j2
theorem sA {w : World} {g g' : Nat} {t t' : TypeId} {L L' : List Value} (h : nj w g t L) (h' : nj w g' t' L') (ht : t ≠ t') : g ≠ g' := by
 intro e;subst e;unfold nj at h h';rw [h] at h';injection h' with h';injection h' with _ h';exact ht h'
theorem nZ.U0 {α : Type} {w : World} {B : Nat} {e : TypeId} {k g c : Nat} {R : List Value -> α -> Prop} {l : List α} (h : nZ w B e k R (.slice (some ⟨g, 0, none⟩) l.length c) l) (hp : 0 < l.length) : ∃ L, nj w g e L := by
 obtain ⟨css, ho, _⟩ := h;rcases ho.2 with ⟨_, h0⟩ | ⟨g', cap, cur, hv, _, hg, _⟩
 ·omega
 ·injection hv with hv _ _;injection hv with hv;injection hv with hv;subst hv;exact ⟨cur.toList, hg⟩
theorem V5 : (prog.info? 249).map (·.size) = some 19 := by kernel_rfl
theorem Ke {w : World} {b o : Nat} {a c : List Value} (h : w.rangeAt b o (a ++ c)) : w.rangeAt b o a := fun j v hv => h j v (by rw [List.getElem?_append_left (List.getElem?_eq_some_iff.1 hv).1]; exact hv)
theorem qU {w : World} {g : Nat} {L : Lt} (h : oW w g L) : ∃ cs, nj w g 180 cs := by obtain ⟨v, h, _⟩ := h; exact ⟨_, h⟩
def LS (g gl : Nat) (i : Nat) : Prop := i = g \/ i = gl
def Ft (g gl : Nat) (vn : Value) (x : Xc) (L : Lt) (hs : Value) (eb : Bool) (dp : Option Nat) (w : World) (e : Ending) (w' : World) : Prop := e = .returned (.tuple #[]) /\ pH w' g gl vn { x with y := od x L, left := x.tmo, sent := x.sent + 1 } hs eb (qY vn (od x L)) dp /\ oW w' gl (oV L) /\ Fr (LS g gl) w w'
set_option maxHeartbeats 2000000 in
theorem Ls (g gl : Nat) (vn : Value) (x : Xc) (L : Lt) (hs : Value) (eb0 eb : Bool) (qs : List Value) (dp : Option Nat) (w : World) (h : pH w g gl vn x hs eb0 qs dp) (hl : oW w gl L) (hk : x.k < x.tr.length) (hu : L.us <= 999999990) (hd : L.ds.length <= 17592186044416) (hsn : x.sent <= 1000000) (htr : x.tr.length <= 1000) :
  Calls prog 189 #[.pointer (some ⟨g, 0, none⟩), .bool eb] w (Ft g gl vn x L hs eb dp w) := by
 have hq := h.ql;obtain ⟨vnA, vnc, hvn, hNR⟩ := h.nm.form;obtain ⟨T, vt, ds, hb, h1, h2, h3, h4, h5, h6⟩ := h.b;obtain ⟨lc, hlb⟩ := qU hl;have gne := sA hb hlb aj;have hY : Hid (x.tr.getD x.k oi.zero = x.tr[x.k]) := Hh (by rw [List.getD_eq_getElem?_getD, List.getElem?_eq_getElem hk]; rfl);obtain ⟨p1, p2⟩ := wL L (show (0 : Int) < 64512 by decide);obtain ⟨q1, q2⟩ := wL (qk L 64512).2 (show (0 : Int) < 65536 by decide);have D1 := Hh (xX gl L 64512 w hl aj aj ak hd);have D2 := Hh (fun W h => xX gl (qk L 64512).2 65536 W h aj aj cU hd);obtain ⟨R1, hR1⟩ : ∃ R1, Hid (qk L 64512 = R1) := eD;rw [hR1.out] at D1 D2 p1 p2 q1 q2;obtain ⟨R2, hR2⟩ : ∃ R2, Hid (qk R1.2 65536 = R2) := eD;rw [hR2.out] at D2 q1 q2;have HYP : Hid (od x L = ⟨x.tr[x.k], 1024 + R1.1, R2.1, x.q⟩ /\ oV L = R2.2) := Hh ⟨by unfold od; rw [hY.out, hR1.out, hR2.out], by unfold oV; rw [hR1.out, hR2.out]⟩;have d14 := hb.nf 14 (wh h1 hq 1 ak);have PUT := Hh (fun w' (hg : Fr (LS g gl) w w') (hs' : Value) (eb' : Bool) (qs' : List Value) (hq' : qs'.length = 23) (hb' : nj w' g 177 (sa T vn x.q vt gl x.k hs qs' eb' dp x.tmo (x.sent + 1) x.hard x.done x.vd ds)) => (⟨⟨T, vt, ds, hb', h1, h2, h3, h4, hg.yj h5 bJ, hg.msg h6⟩, h.nm.stays hg.stays, hq'⟩ : pH w' g gl vn { x with y := od x L, left := x.tmo, sent := x.sent + 1 } hs eb' qs' dp));have HB := Hh hb;have H5 := Hh h5;have HLB := Hh hlb;clear hl h6 h hR1 hR2 hY hu hd hNR hb h5 hlb;go_enter func189, ntmps189;go_wp2_with fail;refine D1.out.mono ?_;rintro _ w1 ⟨rfl, l1, g1⟩;have hb1 := HB.out.grown g1 (by simp; exact gne);have F1 : Fr (LS g gl) w w1 := Fr.grown g1 HLB.out (.inr (.inr (.inl rfl))) (.inr rfl);have e14 := hb1.nf 14 (wh h1 hq 1 ak);have D2' := Hh (D2.out w1 l1);obtain ⟨lc1, hlb1⟩ := qU l1;clear d14 D1 D2 g1 l1;generalize R1.1 = pp at *;go_wp2_with fail;refine D2'.out.mono ?_;rintro _ w2 ⟨rfl, l2, g2⟩;have hb2 := hb1.grown g2 (by simp; exact gne);have F2 : Fr (LS g gl) w w2 := F1.trans (Fr.grown g2 hlb1 (.inr (.inr (.inl rfl))) (.inr rfl)) (fun i _ h => h);have h5 := F2.yj H5.out bJ;clear e14 D2' g2 hlb1 F1 H5 HLB hb1 HB;obtain ⟨At, ct, hvt⟩ := h5.form;subst hvt;obtain ⟨gt, hAt, hgt, hrow⟩ := nZ.at_ (fun _ _ h => h.len) h5 ak;obtain ⟨tc, hrg, rr, htc, hip⟩ := hrow x.k hk;subst hAt;rw [htc] at hrg;have hrg := Ke hrg;obtain ⟨gc, hgb⟩ := nZ.U0 h5 ak;have hgtg := sA hgb hb2 aj;clear htc hrow h5 hgb;generalize R2.1 = ii at *;obtain ⟨yy, hyy⟩ : ∃ yy : Qy, yy = ⟨x.tr[x.k], 1024 + pp, ii, x.q⟩ := eE;have hyi : yy.sv.ip.length = 16 := by rw [hyy]; exact hip
 have hql : (qY vn yy).length = 23 := qS hyi;have hqo : ∀ v ∈ qY vn yy, v.oneCell' = true := KZ (by rw [hvn]; rfl);have RB : Hid (∀ W, (Instr.build 37 #[(0, .agg x.tr[x.k].cells.toArray), (1, .int .i64 (1024 + pp)), (2, .int .i64 ii), (3, .agg (qC vn x.q).toArray)]).run prog W = .ok (.agg (qY vn yy).toArray) W) := Hh (fun W => by rw [hyy, hvn]; exact K0 ⟨x.tr[x.k], 1024 + pp, ii, x.q⟩ hip vnA _ vnc W);have HYY := Hh hyy;have HIP := Hh hip;have e1 : Hid (x.tr[x.k].cells.length = 18) := Hh (oi.nV _ hip);clear hyy hip hyi hvn;have LDS : ∀ (V : World) (qs' : List Value), qs'.length = 23 -> nj V g 177 (sa T vn x.q (.slice (some ⟨gt, 0, none⟩) x.tr.length ct) gl x.k hs qs' eb0 dp x.left x.sent x.hard x.done x.vd ds) -> V.rangeAt gt (0 + x.k * 19) x.tr[x.k].cells ->
   (Instr.loadAt 173 (.pointer (some ⟨g, 13, none⟩))).run prog V = .ok (.slice (some ⟨gt, 0, none⟩) x.tr.length ct) V /\ (Instr.loadAt 3 (.pointer (some ⟨g, 15, none⟩))).run prog V = .ok (.int .i64 x.k) V /\ (Instr.loadAt 24 (.pointer (some ⟨gt, 0 + x.k * 19, none⟩))).run prog V = .ok (.agg x.tr[x.k].cells.toArray) V /\ (Instr.loadAt 28 (.pointer (some ⟨g, 10, none⟩))).run prog V = .ok (.agg (qC vn x.q).toArray) V := fun V qs' hq' hbV hrV =>
  ⟨nN underlying173 rfl (hbV.nf 13 (wh h1 hq' 0 ak)), nN underlying3 rfl (hbV.nf 15 (wh h1 hq' 2 ak)), vb hrV underlying24 rfl (by rw [e1.out]; exact vp), hbV.pF 28 10 3 (by rw [tw h1 hq']; omega) _ underlying28 rfl rD _ (UY h1 hq')⟩
 have HL := Hh LDS;clear LDS;generalize hac : x.tr[x.k].cells = ac at *;have HAC := Hh hac;clear hac;obtain ⟨W2, hW2⟩ : ∃ W2, W2 = w2.drew := eE;have hb2d : nj W2 g 177 (sa T vn x.q (.slice (some ⟨gt, 0, none⟩) x.tr.length ct) gl x.k hs qs eb0 dp x.left x.sent x.hard x.done x.vd ds) := hW2 ▸ hb2.drew;have l2d : oW W2 gl R2.2 := hW2 ▸ l2.below (Below.refl _ _).drew;have F2d : Fr (LS g gl) w W2 := hW2 ▸ F2.trans (Fr.below (S := LS g gl) (Below.refl _ _).drew) (fun i _ h => h);have hrgd : W2.rangeAt gt (0 + x.k * 19) ac := hW2 ▸ hrg;have HS := Hh (HL.out _ qs hq hb2d hrgd);go_wp2_with fail;refine wp_region_held_drew (S := fun V => (Instr.loadAt 173 (.pointer (some ⟨g, 13, none⟩))).run prog V = .ok (.slice (some ⟨gt, 0, none⟩) x.tr.length ct) V /\ (Instr.loadAt 3 (.pointer (some ⟨g, 15, none⟩))).run prog V = .ok (.int .i64 x.k) V /\ (Instr.loadAt 24 (.pointer (some ⟨gt, 0 + x.k * 19, none⟩))).run prog V = .ok (.agg ac.toArray) V /\ (Instr.loadAt 28 (.pointer (some ⟨g, 10, none⟩))).run prog V = .ok (.agg (qC vn x.q).toArray) V) (by kernel_rfl) (by rw [<- hW2]; exact HS.out) (fun hS => ?_);rw [<- hW2] at hS ⊢;refine nI hS 21 [0,1,2,3,4,5,6,7,8,9,10,11,12,13,14,15,16,17,18,19,20] rfl (by kernel_rfl) (fun _ _ _ _ _ h => h) rfl rfl ?_;repeat (refine ⟨_, _, rfl, .inl ⟨rfl, fun W hW => rfl⟩, ?_⟩; simp only [Act.put, nB, nC, nD])
 (refine ⟨_, _, rfl, .inl ⟨rfl, fun V hV => (nW 173 (.tmp 20) ⟨g, 13, none⟩ rfl rfl hV.1)⟩, ?_⟩; simp only [Act.put, nB, nC, nD])
 repeat (refine ⟨_, _, rfl, .inl ⟨rfl, fun W hW => rfl⟩, ?_⟩; simp only [Act.put, nB, nC, nD])
 (refine ⟨_, _, rfl, .inl ⟨rfl, fun V hV => (nW 3 (.tmp 24) ⟨g, 15, none⟩ rfl rfl hV.2.1)⟩, ?_⟩; simp only [Act.put, nB, nC, nD])
 (refine ⟨_, _, rfl, .inl ⟨rfl, fun V hV => (AY underlying173 V5 aj (.tmp 21) (.tmp 25) rfl rfl rfl hk V)⟩, ?_⟩; simp only [Act.put, nB, nC, nD])
 repeat (refine ⟨_, _, rfl, .inl ⟨rfl, fun W hW => rfl⟩, ?_⟩; simp only [Act.put, nB, nC, nD])
 (refine ⟨_, _, rfl, .inl ⟨rfl, fun V hV => (nW 24 (.tmp 27) ⟨gt, 0 + x.k * 19, none⟩ rfl rfl hV.2.2.1)⟩, ?_⟩; simp only [Act.put, nB, nC, nD])
 repeat (refine ⟨_, _, rfl, .inl ⟨rfl, fun W hW => rfl⟩, ?_⟩; simp only [Act.put, nB, nC, nD])
 (refine ⟨_, _, rfl, .inl ⟨rfl, fun V hV => (nW 28 (.tmp 33) ⟨g, 10, none⟩ rfl rfl hV.2.2.2)⟩, ?_⟩; simp only [Act.put, nB, nC, nD])
 (refine ⟨_, (.agg (qY vn yy).toArray), rfl, .inl ⟨rfl, fun V hV => (r5 37 _ rfl #[(0, .agg ac.toArray), (1, .int .i64 (1024 + pp)), (2, .int .i64 ii), (3, .agg (qC vn x.q).toArray)] (by kernel_rfl) (RB.out V))⟩, ?_⟩; simp only [Act.put, nB, nC, nD])
 repeat (refine ⟨_, _, rfl, .inl ⟨rfl, fun W hW => rfl⟩, ?_⟩; simp only [Act.put, nB, nC, nD])
 simp only [pa];refine pG 21 none 37 (.tmp 37) (.tmp 35) (by kernel_rfl) rfl rfl rfl (by kernel_rfl) g 17 rfl (qY vn yy) rfl hb2d (by rw [tw h1 hq, hql]; omega) (by rw [hql]; exact xq) hqo ?_;intro w3 B3 g3 s3;rw [Lr h1 hq _ hql] at B3;have hrg3 : w3.rangeAt gt (0 + x.k * 19) ac := fun j v hv => by rw [<- hrgd j v hv]; exact uT g3 ⟨gt, _, none⟩ (by simp; rw [hW2]; exact hgt) (by simp; exact hgtg)
 have F3 : Fr (LS g gl) w w3 := F2d.trans (Fr.grown g3 hb2d (.inr (.inl rfl)) (.inl rfl)) (fun i _ h => h);have l3 := l2d.fr (S := fun i => i = g) (Fr.grown g3 hb2d (.inr (.inl rfl)) rfl) (fun e => gne e.symm);refine ⟨HL.out w3 _ hql B3 hrg3, ?_⟩;have d4 := B3.nf 4 (by rw [yi h1 hql 4 ak]; exact h2);have d43 := B3.nf 43 (vh h1 hql 3 ak);have d40 := B3.nf 40 (vh h1 hql 0 ak);have d42 := B3.nf 42 (vh h1 hql 2 ak);have f40 := B3.frozen 40;have f42 := B3.frozen 42;have f43 := B3.frozen 43;have hgl3 := B3.lt;have FIN : Hid (Ft g gl vn x L hs eb dp w (.returned (.tuple #[])) (((w3.setCell ⟨g, 40, none⟩ (.bool eb)).setCell ⟨g, 42, none⟩ (.int .i64 x.tmo)).setCell ⟨g, 43, none⟩ (.int .i64 ((x.sent : Int) + 1)))) := Hh (by
  have C1 := B3.set 40 (.bool eb);rw [Qz h1 hql] at C1;have C2 := C1.set 42 (.int .i64 x.tmo);rw [BL h1 hql] at C2;have C3 := C2.set 43 (.int .i64 ((x.sent + 1 : Nat) : Int));rw [J7 h1 hql] at C3;have e : (.int .i64 ((x.sent : Int) + 1)) = Value.int .i64 ((x.sent + 1 : Nat) : Int) := by congr 1
  rw [e];have G := nT (nT (pD w3 g 40 (.bool eb)) 42 (.int .i64 x.tmo)) 43 (.int .i64 ((x.sent + 1 : Nat) : Int));have FG := Fr.grown (S := LS g gl) G B3 (.inr (.inl rfl)) (.inl rfl);have FW := F3.trans FG (fun i _ h => h);obtain ⟨y1, y2⟩ := HYP.out;have hyq : od x L = yy := by rw [y1, HYY.out]
  refine ⟨rfl, ?_, ?_, FW⟩
  ·rw [hyq];have := PUT.out _ FW hs eb (qY vn yy) hql C3;rwa [hyq] at this
  ·
   rw [y2];exact l3.fr (S := fun i => i = g) (Fr.grown G B3 (.inr (.inl rfl)) rfl) (fun e => gne e.symm))
 clear PUT HYP l3 F3 hrg3 g3 B3 hrgd F2d l2d hb2d HS HL RB F2 l2 hb2 hrg;simp only [Act.put, nB, nC, nD];refine wpAnyH_done (by kernel_rfl) ?_ _;have hsn' : (x.sent : Int) <= 1000000 := ak;have hsn0 : (0 : Int) <= x.sent := ak;generalize (x.sent : Int) = sn at *;go_wp2_with fail;go_end0;exact FIN.out
theorem Td (q : Qn) (l : List RR) : ∀ (f k : Nat) (n : List (List UInt8)) (t : Option Int) (x : Int), rO q l f k n t = .error x -> x = 11 \/ x = 15 := by
 intro f;induction f with
 | zero =>
  intro k n t x h;rw [xv] at h;split at h
  ·cases h
  ·
   split at h
   ·injection h with h; exact .inl h.symm
   ·injection h with h; exact .inr h.symm
 | succ f ih =>
  intro k n t x h;rw [xv] at h;split at h
  ·cases h
  ·
   split at h
   ·injection h with h; exact .inl h.symm
   ·exact ih _ _ _ _ h
def U3 (o : Except Int Wo) : Int := match o with
 | .ok _ => 0
 | .error x => x
def Te (q : Qn) (m : oh) : Int := U3 (rO q m.an 16 0 q.name none)
theorem NB (q : Qn) (m : oh) : qd q m = if Te q m = 0 then 1 else if Te q m = 15 then 5 else if m.hd.rc = 3 then 3 else 2 := by
 unfold qd Te U3;cases h : rO q m.an 16 0 q.name none with
 | ok f => rfl
 | error x =>
  have : x ≠ 0 := by rcases Td _ _ _ _ _ _ _ h with rfl | rfl <;> decide
  simp only;rw [if_neg this]
def V6 (x : Int) (w : World) (e : Ending) (w' : World) : Prop := ∃ An nn cn A n c a b, e = .returned (.tuple #[.agg #[.slice An nn cn, .slice A n c, .int .i64 a, .int .i64 b], .int .i64 x]) /\ Below w.heap.size w w'
theorem JZ.WK {o : Except Int Wo} {w : World} {e : Ending} {w' : World} (h : JZ o w e w') : V6 (U3 o) w e w' := by
 cases o with
 | ok f => obtain ⟨An, cn, A, c, he, _, _, hb⟩ := h;exact ⟨An, _, cn, A, _, c, _, _, he, hb⟩
 | error x => exact h
theorem QD (h : Hd) (A1 A2 A3 A4 : Option Addr) (n1 n2 n3 n4 c1 c2 c3 c4 : Nat) (v : Int) (W : World) : (Instr.build 92 #[(0, .int .i64 v), (1, .agg (rT h (.slice A1 n1 c1) (.slice A2 n2 c2) (.slice A3 n3 c3) (.slice A4 n4 c4)).toArray)]).run prog W = .ok (.agg (Value.int .i64 v :: rT h (.slice A1 n1 c1) (.slice A2 n2 c2) (.slice A3 n3 c3) (.slice A4 n4 c4)).toArray) W := by kernel_rfl
theorem nL.WL {w : World} {ds : List Value} {m : oh} (h : nL w ds m) (v : Int) (W : World) : (Instr.build 92 #[(0, .int .i64 v), (1, .agg ds.toArray)]).run prog W = .ok (.agg (Value.int .i64 v :: ds).toArray) W := by
 obtain ⟨vq, va, vu, ve, rfl, h2, h3, h4, h5, _⟩ := h;obtain ⟨Aq, cq, rfl⟩ := h2.form;obtain ⟨Aa, ca, rfl⟩ := h3.form;obtain ⟨Au, cu, rfl⟩ := h4.form;obtain ⟨Ae, ce, rfl⟩ := h5.form;exact QD ..
theorem qx : (prog.info? 92).map (·.size) = some 15 := by kernel_rfl
theorem Ei (q : Qn) (A : Option Addr) (c : Nat) (ds : List Value) (m : oh) (w : World) (hN : rQ w A c q.name) (hn : q.name.length <= 100000) (hM : nL w ds m) :
  Calls prog 197 #[.agg #[.slice A q.name.length c, .int .i64 q.ty, .int .i64 q.cl], .agg ds.toArray] w (nM (.agg (Value.int .i64 (qd q m) :: ds).toArray) w) := by
 have hdl := hM.len;have hone := hM.one;have OB := Hh (fun v W => hM.WL v W);have FV := Hh (NB q m);obtain ⟨xe, hxe⟩ : ∃ xe, Te q m = xe := eE;obtain ⟨vq, va, vu, ve, hds, h2, h3, h4, h5, l1, l2, _⟩ := hM;obtain ⟨Aa, ca, hva⟩ := h3.form;rw [hva] at h3;have FO : Hid (∀ W, Below w.heap.size w W -> Calls prog 157 #[.agg #[.slice A q.name.length c, .int .i64 q.ty, .int .i64 q.cl], .slice Aa m.an.length ca] W (V6 xe W)) := Hh (fun W hb => by
  rw [<- hxe];exact (J0 q A Aa c ca m.an W (hN.below hb) hn (oz.below h3 hb) l2).mono (fun _ _ h => h.WK))
 have e9 : ds[9]? = some (.int .i64 m.hd.rc) := bd;have e11 : ds[11]? = some (.slice Aa m.an.length ca) := by rw [hds, hva]; rfl
 rw [hxe] at FV;clear hds h2 h3 h4 h5 hva hxe hN l1 l2;obtain ⟨Z, hZ⟩ : ∃ Z : List Value, Z = Value.int .i64 0 :: nR := eE;have hzl : Z.length = 15 := by rw [hZ]; rfl
 obtain ⟨X, hX⟩ : ∃ X, ((w.alloc (.cells #[.slice A q.name.length c, .int .i64 q.ty, .int .i64 q.cl] 28)).alloc (.cells ds.toArray 50)).alloc (.cells Z.toArray 92) = X := eE;have HX : Below w.heap.size w X := by rw [<- hX]; exact (((Below.refl _ _).alloc (Nat.le_refl _) _).alloc ag _).alloc al _
 have X1 : nj X w.heap.size 28 [.slice A q.name.length c, .int .i64 q.ty, .int .i64 q.cl] := by rw [<- hX]; exact ((nj.new w _ _).alloc _).alloc _
 have X2 : nj X (w.heap.size + 1) 50 ds := im;have X3 : nj X (w.heap.size + 1 + 1) 92 Z := iR;have hX' := Hh hX;have hZ' := Hh hZ;have h2 : w.heap.size <= w.heap.size + 1 + 1 := ak;have g11 : ∀ hi : 11 < ds.length, ds[11]'hi = .slice Aa m.an.length ca := qz e11;clear hX hZ X1;go_enter func197, ntmps197;go_wp2_with fail;have FOX := Hh (FO.out X HX);rw [<- hX'.out, hZ'.out] at FOX;refine FOX.out.mono ?_;rw [show (Value.int .i64 0 :: nR).toArray = Z.toArray by rw [hZ'.out], hX'.out];rintro _ w1 ⟨An, nn, cn, Ar, nr, cr, fa, fb, rfl, b1⟩;have Y2 := X2.below b1 X2.lt;have Y3 := X3.below b1 X3.lt;have H1 := nc HX HX.size b1;clear FOX FO hX' hZ' b1 X2 X3 HX;have hOl : (Value.int .i64 2 :: ds : List Value).length = 15 := gT;have hO1 : ∀ k : Int, ∀ v ∈ (Value.int .i64 k :: ds : List Value), v.oneCell' = true := by
  intro k v hv;rcases List.mem_cons.1 hv with rfl | hv
  ·rfl
  ·exact hone v hv
 have W1 : ∀ o1, Below w1.heap.size w1 ((w1.alloc o1).alloc (.cells Z.toArray 92)) := fun o1 => ((Below.refl _ _).alloc (Nat.le_refl _) _).alloc ag _
 generalize w.heap.size + 1 + 1 = g3 at *;generalize w.heap.size + 1 = g2 at *;go_wp2_with (first
  | (refine nh (.load 50 (.tmp 3)) rfl ?_; go_must (refine ni rfl _ _ rfl g2 0 rfl (Y2.alloc _) 14 ak _ underlying50 rfl oy ds (qj ak) ?_))
  | (refine nh (.build 92 #[(0, .const (.int .i64 2)), (1, .tmp 15)]) rfl ?_; go_must (refine oo rfl 92 _ rfl #[(0, .int .i64 2), (1, .agg ds.toArray)] cM (OB.out 2 _) ?_))
  | (refine nh (.store 92 (.tmp 7) (.tmp 16)) rfl (ab rfl (w1.heap.size + 1) 0 (Value.int .i64 2 :: ds) (nj.ph (w1.alloc _) 92 (Value.int .i64 0 :: nR) _ ag) (by rw [Nat.zero_add, hOl]; decide) cV (hO1 2) ?_)))
 intro w3 B7 g7 sw;clear sw;have B7' := oH (L := Value.int .i64 2 :: ds) B7 (by simp [nR, rT, Hd.pc, hdl]);have K3 : Below w1.heap.size w1 w3 := ng (((Below.refl _ _).alloc (Nat.le_refl _) _).alloc ag _) g7 al ak;have hg3l := Y3.lt;replace Y2 := Y2.below K3 Y2.lt;replace Y3 := Y3.below K3 Y3.lt;have H3 := nc H1 H1.size K3;have h17 : w.heap.size <= w1.heap.size + 1 := by have := H1.size; omega
 have h37 : g3 ≠ w1.heap.size + 1 := ak;have b9 := Y2.nf 9 e9;have b0 := B7'.nf 0 rfl;have f0 := B7'.frozen 0;clear K3 g7 B7 e9 e11 g11 Y2 H1 W1 OB;generalize w1.heap.size + 1 = g7 at *;generalize m.hd.rc = rc at *;by_cases x0 : xe = 0
 case pos =>
  subst x0;have E : Hid (qd q m = 1) := Hh cW;go_wp2_with (refine nh (.store 3 (.tmp 20) (.const (.int .i64 1))) rfl (af rfl g7 0 (.int .i64 1) B7' ak pM ?_));intro W V7 gW sW;clear sW;have V3 := Y3.grown gW cX;have VH := ng H3 gW H3.size h17;clear gW FV B7' Y3 H3;have l15 : (Value.int .i64 1 :: ds : List Value).length = 15 := gT;go_wp2_with (first
   | (refine nh (.load 92 (.tmp 7)) rfl ?_; go_must (refine ni rfl _ _ rfl g7 0 rfl V7 15 ak _ underlying92 rfl qx (Value.int .i64 1 :: ds) (qj ak) ?_))
   | (refine nh (.store 92 (.tmp 4) (.tmp 31)) rfl (ab rfl g3 0 (Value.int .i64 1 :: ds) V3 ak cY (hO1 1) ?_)))
  intro w8 B8 g8 sw;clear sw;have B8' := oH (L := Value.int .i64 1 :: ds) B8 ak;exact j9
 have x0' : (xe == 0) = false := by simpa using x0
 rw [if_neg x0] at FV;by_cases x15 : xe = 15
 case pos =>
  subst x15;have E : Hid (qd q m = 5) := Hh cW;clear x0;go_wp2_with (refine nh (.store 3 (.tmp 24) (.const (.int .i64 5))) rfl (af rfl g7 0 (.int .i64 5) B7' ak pM ?_));intro W V7 gW sW;clear sW;have V3 := Y3.grown gW cX;have VH := ng H3 gW H3.size h17;clear gW FV B7' Y3 H3;have l15 : (Value.int .i64 5 :: ds : List Value).length = 15 := gT;go_wp2_with (first
   | (refine nh (.load 92 (.tmp 7)) rfl ?_; go_must (refine ni rfl _ _ rfl g7 0 rfl V7 15 ak _ underlying92 rfl qx (Value.int .i64 5 :: ds) (qj ak) ?_))
   | (refine nh (.store 92 (.tmp 4) (.tmp 31)) rfl (ab rfl g3 0 (Value.int .i64 5 :: ds) V3 ak cY (hO1 5) ?_)))
  intro w8 B8 g8 sw;clear sw;have B8' := oH (L := Value.int .i64 5 :: ds) B8 ak;exact j9
 have x15' : (xe == 15) = false := by simpa using x15
 rw [if_neg x15] at FV;clear x0 x15;by_cases r3 : rc = 3
 case pos =>
  subst r3;have E : Hid (qd q m = 3) := Hh cW;go_wp2_with (refine nh (.store 3 (.tmp 30) (.const (.int .i64 3))) rfl (af rfl g7 0 (.int .i64 3) B7' ak pM ?_));intro W V7 gW sW;clear sW;have V3 := Y3.grown gW cX;have VH := ng H3 gW H3.size h17;clear gW FV B7' Y3 H3;have l15 : (Value.int .i64 3 :: ds : List Value).length = 15 := gT;go_wp2_with (first
   | (refine nh (.load 92 (.tmp 7)) rfl ?_; go_must (refine ni rfl _ _ rfl g7 0 rfl V7 15 ak _ underlying92 rfl qx (Value.int .i64 3 :: ds) (qj ak) ?_))
   | (refine nh (.store 92 (.tmp 4) (.tmp 31)) rfl (ab rfl g3 0 (Value.int .i64 3 :: ds) V3 ak cY (hO1 3) ?_)))
  intro w8 B8 g8 sw;clear sw;have B8' := oH (L := Value.int .i64 3 :: ds) B8 ak;exact j9
 have r3' : (rc == 3) = false := by simpa using r3
 have E : Hid (qd q m = 2) := Hh (by rw [FV.out, if_neg r3]);clear r3 FV;have V7 := B7';have V3 := Y3;have VH := H3;clear B7' Y3 H3 f0;have l15 : (Value.int .i64 2 :: ds : List Value).length = 15 := gT;go_wp2_with (first
  | (refine nh (.load 92 (.tmp 7)) rfl ?_; go_must (refine ni rfl _ _ rfl g7 0 rfl V7 15 ak _ underlying92 rfl qx (Value.int .i64 2 :: ds) (qj ak) ?_))
  | (refine nh (.store 92 (.tmp 4) (.tmp 31)) rfl (ab rfl g3 0 (Value.int .i64 2 :: ds) V3 ak cY (hO1 2) ?_)))
 intro w8 B8 g8 sw;clear sw;have B8' := oH (L := Value.int .i64 2 :: ds) B8 ak;exact j9
theorem yM : (prog.info? 4).map (·.size) = some 1 := by kernel_rfl
theorem Fu : (prog.info? 175).map (·.size) = some 1 := by kernel_rfl
theorem Fv : (prog.info? 33).map (·.size) = some 1 := by kernel_rfl
theorem QE (W : World) : (Instr.build 37 #[]).run prog W = .ok (.agg JP.toArray) W := by kernel_rfl
theorem Tf : ∀ v ∈ JP, v.oneCell' = true := by simp [JP, Value.oneCell']
section
variable {T qs ds : List Value} {vn vt hs : Value} {q : Qn} {gl k : Nat} {eb hard done : Bool} {dp : Option Nat} {left vd : Int} {sent : Nat}
theorem Kf (hT : T.length = 10) (hq : qs.length = 23) (vd' : Int) (ds' : List Value) (hd : ds.length = 14) (hd' : ds'.length = 14) : (sa T vn q vt gl k hs qs eb dp left sent hard done vd ds).take 46 ++ (.int .i64 vd' :: ds' ++ (sa T vn q vt gl k hs qs eb dp left sent hard done vd ds).drop 61) = sa T vn q vt gl k hs qs eb dp left sent hard done vd' ds' := by
 have := Nx (vn := vn) (vt := vt) (hs := hs) (q := q) (gl := gl) (k := k) (eb := eb) (hard := hard) (done := done) (dp := dp) (left := left) (vd := vd) (sent := sent) hT hq vd' ds' hd hd';rw [show 46 + (.int .i64 vd' :: ds' : List Value).length = 61 by simp [hd'], List.append_assoc] at this;exact this
theorem QF (hT : T.length = 10) (hq : qs.length = 23) (qs' : List Value) (hq' : qs'.length = 23) : (sa T vn q vt gl k hs qs eb dp left sent hard done vd ds).take 17 ++ (qs' ++ (sa T vn q vt gl k hs qs eb dp left sent hard done vd ds).drop 40) = sa T vn q vt gl k hs qs' eb dp left sent hard done vd ds := by
 have := Lr (vn := vn) (vt := vt) (hs := hs) (q := q) (gl := gl) (k := k) (eb := eb) (hard := hard) (done := done) (dp := dp) (left := left) (vd := vd) (sent := sent) (ds := ds) hT hq qs' hq';rw [hq', List.append_assoc] at this;exact this
end
def xy (g gl : Nat) (vn : Value) (x : Xc) (eb : Bool) (vd : Int) (m : oh) (w : World) (e : Ending) (w' : World) : Prop := e = .returned (.tuple #[]) /\ pH w' g gl vn { x with done := true, vd := vd, msg := m } .nilFunc eb JP none /\ Fr (fun i => i = g) w w'
set_option maxHeartbeats 1000000 in
theorem vi (g gl : Nat) (vn : Value) (x : Xc) (hs : Value) (eb : Bool) (qs : List Value) (dp : Option Nat) (vd : Int) (ds' : List Value) (m : oh) (w : World) (h : pH w g gl vn x hs eb qs dp) (hM : nL w ds' m) :
  Calls prog 89 #[.pointer (some ⟨g, 0, none⟩), .agg (Value.int .i64 vd :: ds').toArray] w (xy g gl vn x eb vd m w) := by
 have hq := h.ql;obtain ⟨T, vt, ds, hb, h1, h2, h3, h4, h5, h6⟩ := h.b;have hdl := h6.len;have hdl' := hM.len;have hO1 : ∀ v ∈ (Value.int .i64 vd :: ds' : List Value), v.oneCell' = true := by exact kA
 have hOl : (Value.int .i64 vd :: ds' : List Value).length = 15 := by simp [hdl']
 have HX : Below w.heap.size w (w.alloc (.cells (Value.int .i64 vd :: ds').toArray 92)) := eC;have BX := nj.new w 92 (Value.int .i64 vd :: ds');have hbX := hb.below HX hb.lt;have FIN : Hid (∀ w', Fr (fun i => i = g) w w' -> nj w' g 177 (sa T vn x.q vt gl x.k .nilFunc JP eb none x.left x.sent x.hard true vd ds') -> xy g gl vn x eb vd m w (.returned (.tuple #[])) w') := Hh (fun w' hg hb' => ⟨rfl, ⟨⟨T, vt, ds', hb', h1, h2, h3, h4, hg.yj h5 bJ, hg.msg hM⟩, h.nm.stays hg.stays, tI⟩, hg⟩);have hgw : g ≠ w.heap.size := by have := hb.lt; omega
 clear h h2 h3 h4 h5 h6 hM;obtain ⟨O, hO⟩ : ∃ O, Value.int .i64 vd :: ds' = O := eE;rw [hO] at hO1 hOl HX BX hbX ⊢;have HO := Hh hO;have F0 : Fr (fun i => i = g) w (w.alloc (.cells O.toArray 92)) := Fr.below HX;have HF0 := Hh F0;clear hO hb HX F0;go_enter func89, ntmps89;go_wp2_with (refine nh (.store 4 (.tmp 6) (.const (.bool true))) rfl (af rfl g 45 (.bool true) hbX cZ yM ?_));intro w1 B1 g1 sw;clear sw;rw [J9 h1 hq] at B1;have F1 := HF0.out.trans (Fr.grown (S := fun i => i = g) g1 hbX (.inr (.inl rfl)) rfl) (fun i _ h => h);have X1 := BX.grown g1 al;clear HF0 g1 hbX BX;go_wp2_with (first
  | (refine nh (.load 92 (.tmp 3)) rfl ?_; go_must (refine ni rfl _ _ rfl w.heap.size 0 rfl X1 15 ak _ underlying92 rfl qx O (qj ak) ?_))
  | (refine nh (.store 92 (.tmp 10) (.tmp 8)) rfl (ab rfl g 46 O B1 (by rw [tw h1 hq, hOl]; omega) cV hO1 ?_)))
 intro w2 B2 g2 sw;clear sw;rw [<- HO.out, Kf h1 hq _ _ hdl hdl'] at B2;have F2 := F1.trans (Fr.grown (S := fun i => i = g) g2 B1 (.inr (.inl rfl)) rfl) (fun i _ h => h);clear F1 g2 B1 X1;go_wp2_with (refine nh (.store 175 (.tmp 13) (.const .nilFunc)) rfl (af rfl g 16 .nilFunc B2 cZ Fu ?_));intro w3 B3 g3 sw;clear sw;rw [BJ h1 hq] at B3;have F3 := F2.trans (Fr.grown (S := fun i => i = g) g3 B2 (.inr (.inl rfl)) rfl) (fun i _ h => h);clear F2 g3 B2;go_wp2_with (first
  | (refine nh (.build 37 #[]) rfl ?_; go_must (refine oo rfl 37 _ rfl #[] cM (QE _) ?_))
  | (refine nh (.store 37 (.tmp 17) (.tmp 15)) rfl (ab rfl g 17 JP B3 (by rw [tw h1 hq, tI]; omega) xq Tf ?_)))
 intro w4 B4 g4 sw;clear sw;rw [tI, QF h1 hq _ tI] at B4;have F4 := F3.trans (Fr.grown (S := fun i => i = g) g4 B3 (.inr (.inl rfl)) rfl) (fun i _ h => h);clear F3 g4 B3;go_wp2_with (refine nh (.store 33 (.tmp 20) (.const (.pointer none))) rfl (af rfl g 41 (BI none) B4 (by rw [tw h1 tI]; omega) Fv ?_));intro w5 B5 g5 sw;clear sw;rw [BK h1 tI] at B5;have F5 := F4.trans (Fr.grown (S := fun i => i = g) g5 B4 (.inr (.inl rfl)) rfl) (fun i _ h => h);clear F4 g5 B4;go_wp2_with fail;go_end0;exact FIN.out _ F5 B5
end Go.Proofs.YthnbcmlnpdabhaaGreat

/-
  Layer 29 (xchg): New.
-/
import Derived.Test.YthnbcmlnpdabhaaGreatIKq
import Derived.Test.YthnbcmlnpdabhaaGreatRe3q
import Derived.Test.YthnbcmlnpdabhaaGreatIMq
namespace Go.Proofs.YthnbcmlnpdabhaaGreat
open _root_.Go.Proofs.Tryz
open Go.RowKit
set_option maxRecDepth 100000
set_option linter.unusedVariables false
set_option linter.unusedSimpArgs false
theorem Tj (q : Qn) (id : Int) (e : Bool) (h : nH q.name = 0) : (vA (pf q id e) false).1.length <= 65535 := by
 have hn := (qB h).2;have hp : (pP (CJ id) (1 : Nat) (0 : Nat) (0 : Nat) ((pf q id e).ex.length : Nat)).length = 12 := by simp [pP, np]
 cases e with
 | false => show ((pP (CJ id) (1 : Nat) (0 : Nat) (0 : Nat) (0 : Nat)) ++ rR q.name ++ ny 2 q.ty ++ ny 2 q.cl).length <= 65535;simp only [List.length_append, np];have h2 : (rR q.name).length = oC q.name + 1 := ij;have hp' : (pP (CJ id) (1 : Nat) (0 : Nat) (0 : Nat) (0 : Nat)).length = 12 := hp;omega
 | true =>
  show (nP ((pP (CJ id) (1 : Nat) (0 : Nat) (0 : Nat) (1 : Nat)) ++ rR q.name ++ ny 2 q.ty ++ ny 2 q.cl, none) ES).1.length <= 65535;have hp' : (pP (CJ id) (1 : Nat) (0 : Nat) (0 : Nat) (1 : Nat)).length = 12 := hp;have h2 : (rR q.name).length = oC q.name + 1 := ij;have h3 : ∀ T k, sk T k ES = [] := fun T k => rfl
  unfold nP sV;rw [h3];unfold r8;have h4 : (rR ES.name).length = 1 := aj;simp only [List.length_append, np, List.length_nil, og];omega
theorem QK {q : Qn} {id0 : Int} {e0 : Bool} (h : (oT (pf q id0 e0) false).2 = 0) (id : Int) (e : Bool) (h1 : 0 <= id) (h2 : id <= 65535) : (oT (pf q id e) false).2 = 0 := by
 have hq : qE q = 0 := by
  unfold oT at h;split at h
  ·rename_i hc; exact absurd h hc
  ·
   rename_i hc;have hc := Decidable.not_not.1 hc;unfold pR at hc;split at hc
   ·cases hc
   ·
    split at hc
    ·cases hc
    ·
     split at hc
     ·rename_i hf; exact absurd hc hf
     ·
      rename_i hf;have hf := Decidable.not_not.1 hf;unfold pf at hf;simp only [List.map_cons, List.map_nil, qO] at hf;split at hf
      ·rename_i h; exact absurd hf h
      ·rename_i h; exact Decidable.not_not.1 h
 have hN : nH q.name = 0 := by
  unfold qE at hq;split at hq
  ·rename_i h; exact absurd hq h
  ·rename_i h; exact Decidable.not_not.1 h
 have hc : pR (pf q id e) = 0 := by
  have hh : (pf q id e).hd.ok = true := by unfold pf CJ Hd.ok; simp [h1, h2, Hd.zero]
  have hqs : qO ((pf q id e).qs.map qE) = 0 := by unfold pf; simp [qO, hq]
  have ho : nU ES = 0 := aj;have hrs : qO ((pf q id e).y7.map nU) = 0 := by unfold pf oh.y7;cases e <;> simp [qO, ho]
  unfold pR;rw [if_neg (by rw [hh]; decide), if_neg (by unfold pf; cases e <;> simp), if_neg (by rw [hqs]; decide), hrs]
 have hl := Tj q id e hN;unfold oT;rw [if_neg (by rw [hc]; decide), if_neg ak]
theorem Tk (v1 v2 v3 vn : Value) (r : Rs) (q : Qn) (A : Option Addr) (n c gl : Nat) (W : World) : (Instr.build 177 #[(0, .agg (sL v1 v2 v3 r).toArray), (1, .agg (qC vn q).toArray), (2, .slice A n c), (3, .pointer (some ⟨gl, 0, none⟩))]).run prog W = .ok (.agg (sa (sL v1 v2 v3 r) vn q (.slice A n c) gl 0 .nilFunc JP false none 0 0 false false 0 nR).toArray) W := by kernel_rfl
def QL (gl : Nat) (r : XR) (w : World) (e : Ending) (w' : World) : Prop := ∃ g v D, e = .returned (.tuple #[.pointer (some ⟨g, 0, none⟩), v]) /\ pX w.heap.size w' v r.2.2 /\ qy w' g gl D r.1 /\ oW w' gl r.2.1 /\ Fr (fun i => i = gl) w w' /\ w.heap.size <= g /\ ∀ i, D = some i -> w.heap.size <= i
theorem Em {w0 : World} {v : Value} {l : List oi} (h : ye w0 0 v l) : ∀ a ∈ l, a.ip.length = 16 := by
 obtain ⟨css, _, h⟩ := h;have key : ∀ {css : List (List Value)} {l : List oi}, tq Ip css l -> ∀ a ∈ l, a.ip.length = 16 := by
  intro css l;induction l generalizing css with
  | nil => intro _ a ha; cases ha
  | cons x l ih =>
   intro h a ha;match css, h with
   | _ :: _, h =>
    rcases List.mem_cons.1 ha with rfl | ha
    ·obtain ⟨_, _, h⟩ := h.1; exact h
    ·exact ih h.2 a ha
 exact key h
set_option maxHeartbeats 8000000 in
theorem QM (cs : List Value) (r : Rs) (q : Qn) (A : Option Addr) (c : Nat) (turn : Int) (gl : Nat) (L : Lt) (w : World) (h : vg w cs r) (hN : rQ w A c q.name) (hn : q.name.length <= 100000) (hl : oW w gl L) (hu : L.us <= 999999990) (hd : L.ds.length <= 17592186044416) :
  Calls prog 32 #[.agg cs.toArray, .agg (qC (.slice A q.name.length c) q).toArray, .int .i64 turn, .pointer (some ⟨gl, 0, none⟩)] w (QL gl (rF (nw r).tmo (nw r).vc (nw r).ed q (nY r turn) L) w) := by
 obtain ⟨R, hR⟩ : ∃ R, Hid (rF (nw r).tmo (nw r).vc (nw r).ed q (nY r turn) L = R) := eD;rw [hR.out];have hcl := h.len;have HX : Below w.heap.size w ((w.alloc (.cells cs.toArray 69)).alloc (.cells (qC (.slice A q.name.length c) q).toArray 28)) := eG;have B0 := (nj.new w 69 cs).alloc (.cells (qC (.slice A q.name.length c) q).toArray 28);have B1 := nj.ph (w.alloc (.cells cs.toArray 69)) 28 (qC (.slice A q.name.length c) q) (w.heap.size + 1) ag;obtain ⟨w1, hw1⟩ : ∃ w1, Hid ((w.alloc (.cells cs.toArray 69)).alloc (.cells (qC (.slice A q.name.length c) q).toArray 28) = w1) := eD;rw [hw1.out] at HX B0 B1;have CL := Hh (tN A c q.name _ (hN.below HX) hn);have hll : Hid (∀ l ∈ q.name, l.length <= 140737488355328) := Hh hN.2.2.2;have a0 := B1.nf 0 (u := .slice A q.name.length c) rfl;have HRS := Lib.hid h;have HLT := Hh hl;clear h hN hl;unfold qC at hw1;show Calls prog 32 #[.agg cs.toArray, .agg #[.slice A q.name.length c, .int .i64 q.ty, .int .i64 q.cl], .int .i64 turn, .pointer (some ⟨gl, 0, none⟩)] w (QL gl R w);have hnl : q.name.length <= 17592186044416 := ak;generalize hnn : q.name.length = nl at *;have HNN := Hh hnn;clear hnn;go_enter func32, ntmps32;go_wp2_with fail;rw [hw1.out];refine CL.out.mono ?_;rintro _ w1b ⟨A1, c1, hv, own1, b1⟩;rw [HNN.out] at hv;subst hv;have C0 := B0.below b1 B0.lt;have C1 := B1.below b1 B1.lt;have H1 := nc HX HX.size b1;clear CL b1 B0 B1 a0 HX;go_wp2_with (refine nh (.store 26 (.tmp 16) (.tmp 15)) rfl (af rfl (w.heap.size + 1) 0 (.slice A1 nl c1) C1 (by simp [qC]) rZ ?_));intro w2 D1 g2 sw;clear sw;have D0 := C0.grown g2 ag;have H2 := ng H1 g2 H1.size ak;have own2 := sQ own1 g2 C1 aj;have hT2 : pL w2 (.slice A1 q.name.length c1) q.name := sX own2;rw [HNN.out] at hT2;have hN2 : y9 w2 (.slice A1 nl c1) q.name := jf;rw [show (qC (.slice A nl c) q).set 0 (.slice A1 nl c1) = [.slice A1 nl c1, .int .i64 q.ty, .int .i64 q.cl] from rfl] at D1;have HN2 := Hh hN2;have HLT2 := Hh (HLT.out.below H2);have RB0 := Hh (HRS.out);obtain ⟨e1, e2, e3, e4, e5, e6, hcs, -⟩ := HRS.out;have RBC : Hid (∀ V, (Instr.build 171 #[(0, .agg cs.toArray)]).run prog V = .ok (.agg (cs ++ [nA, nA, nA]).toArray) V) := ji;clear hcs;have SH := Hh (fun V (hV : Below w.heap.size w V) => vX w cs r V HRS.out hV);have TR := Hh (fun V (hV : Below w.heap.size w V) => Ec w cs r turn V HRS.out hV);have LR : Hid (∀ V, Below w2.heap.size w2 V -> (Instr.loadAt 69 (.pointer (some ⟨w.heap.size, 0, none⟩))).run prog V = .ok (.agg cs.toArray) V) := Hh (fun V hV => (D0.below hV D0.lt).pF 69 0 10 ak _ underlying69 rfl vx _ (qj ak));have LQ : Hid (∀ V, Below w2.heap.size w2 V -> (Instr.loadAt 28 (.pointer (some ⟨w.heap.size + 1, 0, none⟩))).run prog V = .ok (.agg #[.slice A1 nl c1, .int .i64 q.ty, .int .i64 q.cl]) V) := Hh (fun V hV => (D1.below hV D1.lt).pF 28 0 3 ag _ underlying28 rfl rD _ rfl);clear own1 own2 hT2 hN2 C0 C1 D0 D1 g2 H1 HRS hll hnl;obtain ⟨tl, htl⟩ : ∃ tl, Hid (nY r turn = tl) := eD;rw [htl.out] at TR;obtain ⟨nt, hnt⟩ : ∃ nt, Hid (tl.length = nt) := eD;go_upto_region 3 with fail;go_cut [10] (fun v10 wx => ∃ gx XC v1 v2 v3 At ct, v10 = .pointer (some ⟨gx, 0, none⟩) /\ nj wx gx 177 XC /\ XC = sa (sL v1 v2 v3 (nw r)) (.slice A1 nl c1) q (.slice At nt ct) gl 0 .nilFunc JP false none 0 0 false false 0 nR /\ True /\ Oc w wx (sL v1 v2 v3 (nw r)) (nw r) /\ ye wx 0 (.slice At nt ct) tl /\ Below w2.heap.size w2 wx /\ w2.heap.size <= gx)
 case first =>
  refine wp_region_held_drew (S := fun V => Below w2.heap.size w2 V) (by kernel_rfl) (Below.refl _ _).drew (fun hS => ?_);refine nI hS 6 [0,1,4,5,6,8] rfl (by kernel_rfl) (fun _ _ _ _ _ h => h) rfl rfl ?_
  (refine ⟨_, _, rfl, .inl ⟨rfl, fun V hV => (nW 69 (.tmp 4) ⟨w.heap.size, 0, none⟩ rfl rfl (LR.out V hV))⟩, ?_⟩; simp only [Act.put, nB, nC, nD])
  (refine ⟨_, (.agg (cs ++ [nA, nA, nA]).toArray), rfl, .inl ⟨rfl, fun V hV => (r5 171 _ rfl #[(0, .agg cs.toArray)] (by kernel_rfl) (RBC.out V))⟩, ?_⟩; simp only [Act.put, nB, nC, nD])
  (refine ⟨_, _, rfl, .inl ⟨rfl, fun V hV => (nW 28 (.tmp 5) ⟨w.heap.size + 1, 0, none⟩ rfl rfl (LQ.out V hV))⟩, ?_⟩; simp only [Act.put, nB, nC, nD])
  (refine ⟨_, _, rfl, .inl ⟨rfl, fun V hV => (nW 69 (.tmp 4) ⟨w.heap.size, 0, none⟩ rfl rfl (LR.out V hV))⟩, ?_⟩; simp only [Act.put, nB, nC, nD])
  repeat (refine ⟨_, _, rfl, .inl ⟨rfl, fun W hW => rfl⟩, ?_⟩; simp only [Act.put, nB, nC, nD])
  simp only [pa];refine nJ 2 (by kernel_rfl) ?_;refine ot 2 (some 19) 87 #[.agg (cs ++ [nA, nA, nA]).toArray] rfl rfl (by kernel_rfl) aS (SH.out _ (nc H2 H2.size hS)) ?_;rintro _ w3 ⟨cs1, u1, u2, u3, rfl, RO, b3⟩;have hl1 := RO.len;have hS3 := nc hS hS.size b3;refine ⟨_, rfl, hS3, ?_⟩;clear hS b3;have hS := hS3;clear hS3;simp only [Act.put, nB, nC, nD];refine nI hS 1 [3] rfl (by kernel_rfl) (fun _ _ _ _ _ h => h) rfl rfl ?_
  (refine ⟨_, (.agg cs1.toArray), rfl, .inl ⟨rfl, fun V hV => (Ir 171 (.tmp 19) 0 rfl rfl (Fp cs1 hl1 u1 u2 u3 V))⟩, ?_⟩; simp only [Act.put, nB, nC, nD])
  simp only [pa];refine nJ 7 (by kernel_rfl) ?_;refine ot 7 (some 24) 88 #[.agg cs.toArray, .int .i64 turn] rfl rfl (by kernel_rfl) aS (TR.out _ (nc H2 H2.size hS)) ?_;rintro _ WA ⟨vt, rfl, TO, b4⟩;obtain ⟨At, ct, hvt⟩ := TO.form;rw [hnt.out] at hvt;subst hvt;replace RO := RO.below b4;have hS4 := nc hS hS.size b4;refine ⟨_, rfl, hS4, ?_⟩;clear hS b4;have hS := hS4;clear hS4;simp only [Act.put, nB, nC, nD];obtain ⟨v1, v2, v3, hcs1, RO'⟩ := RO;have RO : Oc w WA (sL v1 v2 v3 (nw r)) (nw r) := ⟨v1, v2, v3, rfl, RO'⟩;have v1' : True := trivial;have RB := Hh (fun V => Tk v1 v2 v3 (.slice A1 nl c1) (nw r) q At nt ct gl V);rw [<- hcs1] at RB;obtain ⟨XC, HXC⟩ : ∃ XC, Hid (XC = sa (sL v1 v2 v3 (nw r)) (.slice A1 nl c1) q (.slice At nt ct) gl 0 .nilFunc JP false none 0 0 false false 0 nR) := eD;rw [hcs1, <- HXC.out, <- hcs1] at RB;clear RO' SH TR;refine nI hS 1 [9] rfl (by kernel_rfl) (fun _ _ _ _ _ h => h) rfl rfl ?_
  (refine ⟨_, (.agg XC.toArray), rfl, .inl ⟨rfl, fun V hV => (r5 177 _ rfl #[(0, .agg cs1.toArray), (1, .agg #[.slice A1 nl c1, .int .i64 q.ty, .int .i64 q.cl]), (2, .slice At nt ct), (3, .pointer (some ⟨gl, 0, none⟩))] (by kernel_rfl) (RB.out V))⟩, ?_⟩; simp only [Act.put, nB, nC, nD])
  simp only [pa];have kn : Below WA.heap.size WA (WA.alloc (.cells XC.toArray 177)) := eC;have hSx := nc hS hS.size kn;have Bn := nj.new WA 177 XC;have hgz : w2.heap.size <= WA.heap.size := hS.size;have RO2 := RO.below kn;have TO2 := nZ.below TO kn (fun _ _ h => h);refine vH 10 (some 27) (by kernel_rfl) rfl rfl (by kernel_rfl) (v := .pointer (some ⟨WA.heap.size, 0, none⟩)) (w' := WA.alloc (.cells XC.toArray 177)) (by kernel_rfl) hSx ?_;simp only [Act.put, nB, nC, nD];clear hS kn RO TO;have hS := hSx;clear hSx;generalize WA.alloc (.cells XC.toArray 177) = wz at *;generalize WA.heap.size = gz at *;refine nI hS 1 [11] rfl (by kernel_rfl) (fun _ _ _ _ _ h => h) rfl rfl ?_
  (refine ⟨_, (.pointer (some ⟨gz, 0, none⟩)), rfl, .inl ⟨rfl, fun V hV => rfl⟩, ?_⟩; simp only [Act.put, nB, nC, nD])
  simp only [pa];refine wpAnyH_done (by kernel_rfl) ?_ _;go_wp2_with fail;go_meet
  case rel => exact ⟨gz, XC, v1, v2, v3, At, ct, rfl, Bn, HXC.out, v1', RO2, TO2, hS, hgz⟩
 obtain ⟨gx, XC, v1, v2, v3, At, ct, rfl, BX, hXC, -, RO, TO, H3, hgx⟩ := hcut;obtain ⟨w5, rfl⟩ : ∃ w5, w5 = wc := eE;clear SH TR RBC LR;have HW := nc H2 H2.size H3;have LT5 := HLT2.out.below H3;have N5 := HN2.out.stays (nQ.below H3);obtain ⟨x0, hx0⟩ : ∃ x0, x0 = sy (nw r).tmo (nw r).vc (nw r).ed q tl := eE;have HRR : Hid (R = if (oT (pf q 0 (nw r).ed) false).2 ≠ 0 then ({ x0 with done := true, vd := 3, msg := oh.zero }, L, []) else th x0 L) := Hh (by rw [<- hR.out, htl.out, hx0]; rfl);have HXB : pH w5 gx gl (.slice A1 nl c1) x0 .nilFunc false JP none := ⟨⟨sL v1 v2 v3 (nw r), .slice At nt ct, nR, by rw [hx0]; rw [hXC] at BX; exact BX, rfl, by rw [hx0]; rfl, by rw [hx0]; rfl, by rw [hx0]; rfl, by rw [hx0]; exact TO, by rw [hx0]; exact nL.zero _⟩, by rw [hx0]; exact N5, tI⟩;have HST : Hid ((oT (pf q 0 (nw r).ed) false).2 = 0 -> x0.st) := Hh (fun he => by
  have ht := v8 r turn;rw [htl.out] at ht;rw [hx0];exact ⟨Em TO, (BD r).1, (BD r).2, by show tl.length <= 1000; omega, fun id e h1 h2 => QK he id e h1 h2⟩)
 have hdn : x0.done = false := by rw [hx0]; rfl
 have hsn : x0.sent <= 1000000 := by rw [hx0]; exact Nat.zero_le _
 have BXX := BX;have d9 : ∀ V, Below w5.heap.size w5 V -> (Instr.loadAt 4 (.pointer (some ⟨gx, 9, none⟩))).run prog V = .ok (.bool (nw r).ed) V := fun V hV => nN underlying4 rfl ((BXX.below hV BXX.lt).nf 9 (by rw [hXC, yi rfl tI 9 ak]; rfl))
 have D9 := Hh d9;have LQ5 : Hid (∀ V, Below w5.heap.size w5 V -> (Instr.loadAt 28 (.pointer (some ⟨w.heap.size + 1, 0, none⟩))).run prog V = .ok (.agg #[.slice A1 nl c1, .int .i64 q.ty, .int .i64 q.cl]) V) := iO;have BU : Hid (∀ V, Below w5.heap.size w5 V -> Calls prog 74 #[.agg #[.slice A1 nl c1, .int .i64 q.ty, .int .i64 q.cl], .int .i64 0, .bool (nw r).ed] V (nM (.tuple #[.string (bs (oT (pf q 0 (nw r).ed) false).1), .int .i64 (oT (pf q 0 (nw r).ed) false).2]) V)) := Hh (fun V hV => by
  obtain ⟨A', c', hv, hNR⟩ := N5.form;injection hv with hv1 hv2 hv3;subst hv1 hv3;have := wO A1 c1 q 0 (nw r).ed V (hNR.below hV) (by rw [HNN.out]; exact hn);rwa [HNN.out] at this)
 have hgw : w.heap.size <= gx := Nat.le_trans H2.size hgx;have HXB' := Hh HXB;have HLT5 := Hh LT5;have HHW := Hh HW;have hwc := HW.size;have TOR : Hid (∀ V e w', Below w5.heap.size w5 V -> rM gx gl none R V e w' -> ∃ v, e = .returned v /\ QL gl R w (.returned (.tuple #[.pointer (some ⟨gx, 0, none⟩), v])) w') := Hh (fun V e w' hV hx => by
  have hWV := nc HW HW.size hV;obtain ⟨v, D', rfl, h1, h2, h3, h4, h5⟩ := hx;refine ⟨v, rfl, gx, v, D', rfl, h1.mono hWV.size, h2, h3, (Fr.below (S := fun i => i = gl) hWV).trans h4 (fun i hi h => ?_), hgw, fun i hi => ?_⟩
  ·
   rcases h with h | h | h
   ·omega
   ·exact h
   ·cases h
  ·
   rcases h5 i hi with h | h
   ·cases h
   ·
    exact Nat.le_trans hWV.size h)
 have gne : gx ≠ gl := by obtain ⟨Lc, hLc⟩ := qU LT5;exact sA BX hLc aj
 clear LQ HN2 HLT2 N5 LT5 HW H2 H3 TO RO hXC BX BXX d9 HXB hR htl;generalize (nw r).ed = ed at *;generalize (oT (pf q 0 ed) false).1 = oc at *;generalize (oT (pf q 0 ed) false).2 = er at *;clear hx0;go_upto_region 4 with fail;go_cut [10, 12] (fun v10 v12 wx => v10 = .pointer (some ⟨gx, 0, none⟩) /\ v12 = .int .i64 er /\ Below w5.heap.size w5 wx)
 case first =>
  refine wp_region_held_drew (S := fun V => Below w5.heap.size w5 V) (by kernel_rfl) (Below.refl _ _).drew (fun hS => ?_);refine nI hS 6 [0,1,2,3,4,5] rfl (by kernel_rfl) (fun _ _ _ _ _ h => h) rfl rfl ?_
  (refine ⟨_, _, rfl, .inl ⟨rfl, fun V hV => (nW 28 (.tmp 5) ⟨w.heap.size + 1, 0, none⟩ rfl rfl (LQ5.out V hV))⟩, ?_⟩; simp only [Act.put, nB, nC, nD])
  repeat (refine ⟨_, _, rfl, .inl ⟨rfl, fun W hW => rfl⟩, ?_⟩; simp only [Act.put, nB, nC, nD])
  (refine ⟨_, _, rfl, .inl ⟨rfl, fun V hV => (nW 4 (.tmp 33) ⟨gx, 9, none⟩ rfl rfl (D9.out V hV))⟩, ?_⟩; simp only [Act.put, nB, nC, nD])
  simp only [pa];refine oY 6 (some 35) 74 #[.agg #[.slice A1 nl c1, .int .i64 q.ty, .int .i64 q.cl], .int .i64 0, .bool ed] (by kernel_rfl) rfl rfl (by kernel_rfl) aS (BU.out _ hS) ?_;rintro _ w4 ⟨rfl, b4⟩;have hS := nc hS hS.size b4;refine ⟨_, rfl, hS, ?_⟩;simp only [Act.put, nB, nC, nD];refine nI hS 5 [7,8,9,10,11] rfl (by kernel_rfl) (fun _ _ _ _ _ h => h) rfl rfl ?_
  (refine ⟨_, (.tuple #[.string (bs oc), .int .i64 er]), rfl, .inl ⟨rfl, fun V hV => rfl⟩, ?_⟩; simp only [Act.put, nB, nC, nD])
  (refine ⟨_, (.string (bs oc)), rfl, .inl ⟨rfl, fun V hV => rfl⟩, ?_⟩; simp only [Act.put, nB, nC, nD])
  (refine ⟨_, (.int .i64 er), rfl, .inl ⟨rfl, fun V hV => rfl⟩, ?_⟩; simp only [Act.put, nB, nC, nD])
  (refine ⟨_, (.string (bs oc)), rfl, .inl ⟨rfl, fun V hV => rfl⟩, ?_⟩; simp only [Act.put, nB, nC, nD])
  (refine ⟨_, (.int .i64 er), rfl, .inl ⟨rfl, fun V hV => rfl⟩, ?_⟩; simp only [Act.put, nB, nC, nD])
  simp only [pa];refine wpAnyH_done (by kernel_rfl) ?_ _;exact mW
 obtain ⟨rfl, rfl, H6⟩ := hcut;have BG : Hid (er = 0 -> Calls prog 90 #[.pointer (some ⟨gx, 0, none⟩)] wc (rM gx gl none (th x0 L) wc)) := Hh (fun h0 => Ej gx gl _ x0 L _ _ _ none _ (HXB'.out.below H6) (HLT5.out.below H6) (HST.out h0) hdn hu hd hsn);have FN : Hid (Calls prog 89 #[.pointer (some ⟨gx, 0, none⟩), .agg (Value.int .i64 3 :: nR).toArray] wc (xy gx gl (.slice A1 nl c1) x0 false 3 oh.zero wc)) := Hh (vi gx gl _ x0 _ _ _ none 3 nR oh.zero _ (HXB'.out.below H6) (nL.zero _));have TW := Hh (fun e w' hx => TOR.out wc e w' H6 hx);have LT6 := Hh (HLT5.out.below H6);clear TOR LQ5 BU D9 HXB' HLT5;by_cases he : er = 0
 case neg => have he' : (er != 0) = true := fD;have HR2 : Hid (R = ({ x0 with done := true, vd := 3, msg := oh.zero }, L, [])) := Hh df;have RZ := Hh (fun V => yk 3 V);obtain ⟨Z, hZ⟩ : ∃ Z, Hid (Value.int .i64 3 :: nR = Z) := eD;rw [hZ.out] at RZ FN;clear he BG HST HRR;go_wp2_with (refine nh (.build 92 #[(0, .const (.int .i64 3))]) rfl ?_; go_must (refine oo rfl 92 _ rfl #[(0, .int .i64 3)] cM (RZ.out _) ?_));refine FN.out.mono ?_;intro e9 w9 hf;obtain ⟨he, hx⟩ := hf.x (L := L) (D := none) LT6.out gne;rw [he];rw [<- HR2.out] at hx;obtain ⟨v, hv, hx⟩ := TW.out _ _ hx;injection hv with hv;subst hv;have HX9 := Hh hx;clear hx he hf FN;go_wp2_with fail;go_ret2;exact HX9.out
 subst he;have HR2 : Hid (R = th x0 L) := Hh dW;have BGG := Hh (BG.out rfl);clear BG FN HST HRR;go_wp2_with fail;refine BGG.out.mono ?_;intro e9 w9 hx;rw [<- HR2.out] at hx;obtain ⟨v, rfl, hy⟩ := TW.out _ _ hx;have HX9 := Hh hy;clear hx hy BGG;go_wp2_with fail;go_ret2;exact HX9.out
def W8 (w : World) (e : Ending) (w' : World) : Prop := ∃ b : Bool, e = .returned (.bool b) /\ Below w.heap.size w w'
set_option maxHeartbeats 2000000 in
theorem NG (cs : List Value) (r : Rs) (w : World) (h : vg w cs r) : Calls prog 86 #[.agg (cs ++ [nA, nA, nA]).toArray] w (W8 w) := by
 obtain ⟨A1, c1, A2, c2, A3, c3, rfl, h1, h2, h3, l1, l2, l3⟩ := h;have HX : Below w.heap.size w (w.alloc (.cells (sL (.slice A1 r.sv.length c1) (.slice A2 r.se.length c2) (.slice A3 r.so.length c3) r ++ [nA, nA, nA]).toArray 171)) := eC;have X1 := nj.new w 171 (sL (.slice A1 r.sv.length c1) (.slice A2 r.se.length c2) (.slice A3 r.so.length c3) r ++ [nA, nA, nA]);have d0 := X1.nf 0 (u := .slice A1 r.sv.length c1) rfl;have d1 := X1.nf 1 (u := .slice A2 r.se.length c2) rfl;have d2 := X1.nf 2 (u := .slice A3 r.so.length c3) rfl;have d10 := X1.nf 10 (u := .slice none 0 0) rfl;have d11 := X1.nf 11 (u := .slice none 0 0) rfl;have d12 := X1.nf 12 (u := .slice none 0 0) rfl;have H2 := Hh h2;clear h1 h2 h3 X1;generalize (sL (.slice A1 r.sv.length c1) (.slice A2 r.se.length c2) (.slice A3 r.so.length c3) r ++ [nA, nA, nA]) = L at *;generalize r.so.length = n3 at *;generalize r.sv.length = n1 at *;by_cases h1 : 20 < n1
 case pos => have h1' : (20 : Int) < n1 := ak;exact kK
 have h1' : ¬ (20 : Int) < n1 := ak;by_cases h2 : 20 < r.se.length
 case pos => have h2' : (20 : Int) < r.se.length := ak;exact kK
 have h2' : ¬ (20 : Int) < r.se.length := ak;by_cases h3 : 20 < n3
 case pos => have h3' : (20 : Int) < n3 := ak;exact kK
 have h3' : ¬ (20 : Int) < n3 := ak;generalize hse : r.se = se at *;clear hse;go_enter func86, ntmps86;go_wp2_with fail;go_loopw [3] (fun iv wr => ∃ k : Nat, k <= se.length /\ iv = .int .i64 k /\ wr = w.alloc (.cells L.toArray 171)) (fun iv _ => se.length - (intOf iv).toNat)
 case atStart => exact ⟨0, Nat.zero_le _, rfl, rfl⟩
 obtain ⟨k, hk, rfl, rfl⟩ := hrel;by_cases hlt : k < se.length
 case neg => have hlt' : ¬ (k : Int) < se.length := ak;clear H2;go_wp2_with fail;refine wp_loop_rounds 1 ?_;rw [rounds_succ];go_wp2_with fail;refine wp_loop_rounds 1 ?_;rw [rounds_succ];go_wp2_with fail;go_ret;exact ⟨_, rfl, HX⟩
 have hlt' : (k : Int) < se.length := ak;obtain ⟨b, off, hA, hb, hr⟩ := H2.out ak;obtain ⟨An, cn, ce, hnm⟩ := hr k hlt;have ce' : (w.alloc (.cells L.toArray 171)).cell? ⟨b, off + k, none⟩ = some (.slice An se[k].length cn) := (HX.cell (p := ⟨b, off + k, none⟩) hb).trans ce;have FW := Hh (GC An cn se[k] _ (hnm.below HX));subst hA;clear hr ce hnm;generalize se[k].length = nk at *;generalize decide (oC se[k] <= 400) = bk at *;go_wp2_with fail;refine FW.out.mono ?_;rintro _ w1 ⟨rfl, rfl⟩;clear FW;cases bk with
 | false => go_wp2_with fail;go_ret;exact ⟨_, rfl, HX⟩
 | true =>
  go_wp2_with fail;go_roundw
  case rel => exact ⟨k + 1, ak, eh, trivial⟩
  case measure => simp [intOf]; omega
def Lw (w : World) (A : Option Addr) (ds : List Int) : Prop := 0 < ds.length -> ∃ b off, A = some ⟨b, off, none⟩ /\ b < w.heap.size /\ w.rangeAt b off (AW ds)
def uQ (vs vn : Value) (cs : List Value) (q : Qn) (turn : Int) : List Value := cs ++ (qC vn q ++ [.int .i64 turn, vs])
theorem Tl {w : World} {cs : List Value} {r : Rs} (h : vg w cs r) (W : World) : (Instr.build 171 #[(0, .agg cs.toArray)]).run prog W = .ok (.agg (cs ++ [nA, nA, nA]).toArray) W := by
 obtain ⟨A1, c1, A2, c2, A3, c3, rfl, _⟩ := h;exact Bl ..
set_option maxHeartbeats 2000000 in
theorem IC (As : Option Addr) (cs : List Value) (r : Rs) (A : Option Addr) (c : Nat) (q : Qn) (turn : Int) (nd cd : Nat) (w : World) (h : vg w cs r) (hN : rQ w A c q.name) :
  Calls prog 31 #[.agg (uQ (.slice As nd cd) (.slice A q.name.length c) cs q turn).toArray] w (fun e w' => ∃ b : Bool, e = .returned (.bool b) /\ (b = true -> oC q.name <= 400 /\ nd <= 200) /\ Below w.heap.size w w') := by
 have hcl := h.len;obtain ⟨L, hL⟩ : ∃ L, L = uQ (.slice As nd cd) (.slice A q.name.length c) cs q turn := eE;have hLl : L.length = 15 := by rw [hL]; simp [uQ, qC, hcl]
 have L0 : (L.drop 0).take 10 = cs := by rw [hL, List.drop_zero]; exact List.take_left' hcl
 have L10 : L[10]? = some (.slice A q.name.length c) := by rw [hL]; unfold uQ; rw [List.getElem?_append_right ak, hcl]; rfl
 have L14 : L[14]? = some (.slice As nd cd) := by rw [hL]; unfold uQ; rw [List.getElem?_append_right ak, hcl]; rfl
 rw [<- hL];have HX : Below w.heap.size w (w.alloc (.cells L.toArray 72)) := eC;have X := nj.new w 72 L;have RB := Hh (fun V => Tl h V);have FW := Hh (NG cs r _ (h.below HX));have HNM := Hh hN;clear h hN hL;go_enter func31, ntmps31;go_wp2_with (first
  | (refine nh (.load 69 (.tmp 3)) rfl ?_; go_must (refine ni rfl _ _ rfl w.heap.size 0 rfl X 10 ak _ underlying69 rfl vx cs L0 ?_))
  | (refine nh (.build 171 #[(0, .tmp 4)]) rfl ?_; go_must (refine oo rfl 171 _ rfl #[(0, .agg cs.toArray)] cM (RB.out _) ?_)))
 refine FW.out.mono ?_;rintro _ w1 ⟨b, rfl, b1⟩;have X1 := X.below b1 X.lt;have H1 := nc HX HX.size b1;have d10 := X1.nf 10 L10;have d14 := X1.nf 14 L14;have FN := Hh (GC A c q.name _ (HNM.out.below H1));clear X b1 FW RB HX X1;cases b with
 | false => clear FN;exact mX
 | true =>
 obtain ⟨bq, hbq⟩ : ∃ bq, Hid (decide (oC q.name <= 400) = bq) := eD;rw [hbq.out] at FN;generalize q.name.length = nq at *;go_wp2_with fail;refine FN.out.mono ?_;rintro _ w2 ⟨rfl, rfl⟩;clear FN;cases bq with
 | false => exact mX
 | true =>
  have hq : oC q.name <= 400 := by simpa using hbq.out
  have HQ := Hh hq;clear hq hbq;by_cases hn : nd <= 200
  case pos => have hn' : (nd : Int) <= 200 := ak;have HND := Hh hn;go_wp2_with fail;go_ret;exact ⟨_, rfl, fun _ => ⟨HQ.out, HND.out⟩, H1⟩
  case neg => have hn' : ¬ (nd : Int) <= 200 := ak;go_wp2_with fail;go_ret;exact ⟨_, rfl, fun h => absurd (of_decide_eq_true h) ak, H1⟩
theorem NJ {w : World} {g gl : Nat} {D : Option Nat} {x : Xc} (h : qy w g gl D x) : Calls prog 38 #[.pointer (some ⟨g, 0, none⟩)] w (rN (.bool x.done) w) := by
 obtain ⟨_, vn, hs, eb, qs, hb, _⟩ := h;exact QB hb
def QN : Qn := ⟨[[97]], 1, 1⟩
theorem U7 (w : World) (gn : Nat) (hn : nj w gn 9 [.string ⟨#[97]⟩]) : rQ w (some ⟨gn, 0, none⟩) 1 QN.name := by
 refine ⟨fun _ => ⟨gn, 0, rfl, hn.lt, fun j hj => ?_⟩, by show (1 : Nat) <= 1; decide, by show (1 : Nat) <= 17592186044416; decide, by
  intro l hl;simp [QN] at hl;subst hl; simp⟩
 obtain rfl : j = 0 := by have h2 : j < ([[97]] : List (List UInt8)).length := hj;have : ([[97]] : List (List UInt8)).length = 1 := rfl;omega
 exact hn.nf 0 rfl
end Go.Proofs.YthnbcmlnpdabhaaGreat

/-
  Layer 30, the law's own: task, hears.
-/
import Derived.Test.YthnbcmlnpdabhaaGreatJEq
import Derived.Test.YthnbcmlnpdabhaaGreatXofq
namespace Go.Proofs.YthnbcmlnpdabhaaGreat
open _root_.Go.Proofs.Tryz
open Go.RowKit
set_option maxRecDepth 100000
set_option linter.unusedVariables false
set_option linter.unusedSimpArgs false
theorem IU {fn : Func} {t p u : Tmp} {ty : TypeId} (h : fn.results = #[.tmp t, .cell p ty, .tmp u]) (tmps : Array Value) (P : Program) (w : World) :
  (results fn tmps).run P w = ((asAddr (tmps.getD p undef)).run P w).andThen fun a w₁ => ((loadVar ty a).run P w₁).andThen fun v w₂ => .ok (.tuple #[tmps.getD t undef, v, tmps.getD u undef]) w₂ := by
 simp only [results, h];simp [Sem.run_bind, Result.andThen]
theorem TE {P : Program} {fn : Func} {R : Ending -> World -> Prop} {a : Act} {w : World} {t0 p u : Tmp} {ty : TypeId} (hr : fn.results = #[.tmp t0, .cell p ty, .tmp u]) (g : Nat) (hp : a.tmps.getD p undef = .pointer (some ⟨g, 0, none⟩)) {t : TypeId} {L : List Value} (hb : nj w g t L)
  (d : TypeDesc) (hu : P.underlying ty = some d) (hd : d.isRow = true) (hi : (P.info? ty).map (·.size) = some L.length) (hdf : a.defers = []) (v0 v : Value) (hv0 : a.tmps.getD t0 undef = v0) (hv : a.tmps.getD u undef = v) (h : R (.returned (.tuple #[v0, .agg L.toArray, v])) w) : bodyPost P fn R .ret a w := by
 refine bodyPost_ret (v := .tuple #[v0, .agg L.toArray, v]) ?_ hdf h;rw [IU hr, hp];have hl := run_loadVar_row (P := P) w g t ty L.toArray (0, 0) d hb hu ax aw;simp [asAddr, hl, hv, hv0]
theorem TF (v1 v2 v3 : Value) (r : Rs) (q : Qn) (A As : Option Addr) (n c nd cd : Nat) (turn : Int) (W : World) : (Instr.build 125 #[(0, .agg (sL v1 v2 v3 r).toArray), (1, .agg (qC (.slice A n c) q).toArray), (2, .int .i64 turn), (3, .slice As nd cd)]).run prog W = .ok (.agg (xd (.slice As nd cd) (.slice A n c) (sL v1 v2 v3 r) q turn).toArray) W := by kernel_rfl
theorem Vh (vs vn : Value) (cs : List Value) (q : Qn) (turn : Int) (h1 : vs.oneCell' = true) (h2 : vn.oneCell' = true) (h3 : ∀ v ∈ cs, v.oneCell' = true) : ∀ v ∈ xd vs vn cs q turn, v.oneCell' = true := by
 intro v hv;unfold xd qC at hv;simp only [List.mem_append, List.mem_cons, List.not_mem_nil, or_false] at hv;rcases hv with hv | (rfl | rfl | rfl) | rfl | rfl
 ·exact h3 v hv
 ·exact h2
 ·rfl
 ·rfl
 ·rfl
 ·exact h1
theorem Rr (As : Option Addr) (nd cd : Nat) (v1 v2 v3 : Value) (r : Rs) (A : Option Addr) (n c : Nat) (q : Qn) (turn : Int) (w : World) (hr : ∀ v ∈ sL v1 v2 v3 r, v.oneCell' = true) :
  Calls prog 59 #[.agg (uQ (.slice As nd cd) (.slice A n c) (sL v1 v2 v3 r) q turn).toArray] w (nM (.agg (xd (.slice As nd cd) (.slice A n c) (sL v1 v2 v3 r) q turn).toArray) w) := by
 have hcl : (sL v1 v2 v3 r).length = 10 := rfl;obtain ⟨hLl, L0, L10, L13, L14⟩ := Kq (vs := .slice As nd cd) (vn := .slice A n c) (q := q) (turn := turn) hcl;obtain ⟨L, hL⟩ : ∃ L, Hid (uQ (.slice As nd cd) (.slice A n c) (sL v1 v2 v3 r) q turn = L) := eD;have RB := Hh (fun V => TF v1 v2 v3 r q A As n c nd cd turn V);obtain ⟨hJl, -⟩ := LJ (vs := .slice As nd cd) (vn := .slice A n c) (q := q) (turn := turn) hcl;have hJ1 := Vh (.slice As nd cd) (.slice A n c) (sL v1 v2 v3 r) q turn rfl rfl hr;obtain ⟨J, hJ⟩ : ∃ J, Hid (xd (.slice As nd cd) (.slice A n c) (sL v1 v2 v3 r) q turn = J) := eD;rw [hL.out] at hLl L0 L10 L13 L14 ⊢;rw [hJ.out] at RB hJl hJ1 ⊢;obtain ⟨cs, hcs⟩ : ∃ cs, Hid (sL v1 v2 v3 r = cs) := eD;rw [hcs.out] at RB L0 hcl;obtain ⟨Q, hQ⟩ : ∃ Q, Hid (qC (.slice A n c) q = Q) := eD;rw [hQ.out] at RB L10;obtain ⟨Z, hZ⟩ : ∃ Z, Hid (xd nA nA (sL nA nA nA ⟨[], [], [], 0, 0, 0, false, false, false, false⟩) ⟨[], 0, 0⟩ 0 = Z) := eD;have hZl : Z.length = 15 := by rw [<- hZ.out]; rfl
 have HX : Below w.heap.size w ((w.alloc (.cells L.toArray 72)).alloc (.cells Z.toArray 125)) := eG;have B0 := (nj.new w 72 L).alloc (.cells Z.toArray 125);have B1 := nj.ph (w.alloc (.cells L.toArray 72)) 125 Z (w.heap.size + 1) ag;rw [<- hZ.out] at HX B0 B1;have g13 : ∀ hi : 13 < L.length, L[13]'hi = .int .i64 turn := qz L13;have g14 : ∀ hi : 14 < L.length, L[14]'hi = .slice As nd cd := qz L14;clear hL hJ hcs hQ hr;go_enter func59, ntmps59;go_wp2_with (first
  | (refine nh (.load 69 (.tmp 3)) rfl ?_; go_must (refine ni rfl _ _ rfl w.heap.size 0 rfl B0 10 ak _ underlying69 rfl vx cs L0 ?_))
  | (refine nh (.load 28 (.tmp 5)) rfl ?_; go_must (refine ni rfl _ _ rfl w.heap.size 10 rfl B0 3 ak _ underlying28 rfl rD Q L10 ?_))
  | (refine nh (.build 125 #[(0, .tmp 4), (1, .tmp 6), (2, .tmp 8), (3, .tmp 10)]) rfl ?_; go_must (refine oo rfl 125 _ rfl #[(0, .agg cs.toArray), (1, .agg Q.toArray), (2, .int .i64 turn), (3, .slice As nd cd)] cM (RB.out _) ?_))
  | (refine nh (.store 125 (.tmp 2) (.tmp 11)) rfl (ab rfl (w.heap.size + 1) 0 J B1 (by rw [hJl]; decide) (by rw [hJl]; exact Vg) hJ1 ?_)))
 intro w2 B2 g2 sw;clear sw;replace B2 := oH (L := J) B2 (by first | (rw [hJl]; decide) | decide);have H2 := ng HX g2 HX.size ak;clear B0 B1 g2 g13 g14;go_wp2_with fail;refine oP rfl (w.heap.size + 1) rfl B2 _ underlying125 rfl (by rw [hJl]; exact Vg) rfl ?_;exact nM.mk rfl H2
def Ui (R : XR) (K : Prop) (w : World) (e : Ending) (w' : World) : Prop := ∃ v ds, e = .returned (.tuple #[v, .agg (Value.int .i64 R.1.vd :: ds).toArray, .bool R.1.done]) /\ pX w.heap.size w' v R.2.2 /\ R.2.2.length <= 1000 /\ nL w' ds R.1.msg /\ Below w.heap.size w w' /\ K
set_option maxHeartbeats 8000000 in
theorem N9 (As : Option Addr) (cs : List Value) (r : Rs) (A : Option Addr) (c : Nat) (q : Qn) (turn : Int) (ds : List Int) (cd : Nat) (Ae : Option Addr) (ce : Nat) (l : List Ev) (w0 w : World) (h : vg w0 cs r) (hN : rQ w0 A c q.name) (hqn : q.name.length <= 100000) (hD : Lw w0 As ds) (hdl : ds.length <= 200) (hE : tx w Ae l) (hl80 : l.length <= 80) (htot : tz l <= 8796093022208) (hW : Below w0.heap.size w0 w) :
  Calls prog 60 #[.agg (uQ (.slice As ds.length cd) (.slice A q.name.length c) cs q turn).toArray, .slice Ae l.length ce] w (Ui (qH (rF (nw r).tmo (nw r).vc (nw r).ed q (nY r turn) ⟨ds, 0⟩).2.2 (rf (rF (nw r).tmo (nw r).vc (nw r).ed q (nY r turn) ⟨ds, 0⟩).1 (rF (nw r).tmo (nw r).vc (nw r).ed q (nY r turn) ⟨ds, 0⟩).2.1 l)) (rF (nw r).tmo (nw r).vc (nw r).ed q (nY r turn) ⟨ds, 0⟩).1.ok w) := by
 have hcl := h.len;obtain ⟨hLl, L0, L10, L13, L14⟩ := Kq (vs := .slice As ds.length cd) (vn := .slice A q.name.length c) (q := q) (turn := turn) hcl;have HRS := Hh (fun V (b : Below w.heap.size w V) => h.below (nc hW hW.size b));have HNM := Hh (fun V (b : Below w.heap.size w V) => hN.below (nc hW hW.size b));have HDR := Hh (fun V (b : Below w.heap.size w V) (hp : 0 < ds.length) => by
  obtain ⟨b', off, h1, h2, h3⟩ := hD hp;exact (⟨b', off, h1, nO h3 (nc hW hW.size b) h2⟩ : ∃ b off, As = some ⟨b, off, none⟩ /\ V.rangeAt b off (AW ds)))
 have HEV := Hh hE;obtain ⟨L, hL⟩ : ∃ L, Hid (uQ (.slice As ds.length cd) (.slice A q.name.length c) cs q turn = L) := eD;rw [hL.out] at hLl L0 L10 L13 L14 ⊢;have hB : Below w.heap.size w ((w.alloc (.cells L.toArray 72)).alloc (.cells (Value.int .i64 0 :: nR).toArray 92)) := eG;have B := (nj.new w 72 L).alloc (.cells (Value.int .i64 0 :: nR).toArray 92);have BO := nj.ph (w.alloc (.cells L.toArray 72)) 92 (Value.int .i64 0 :: nR) (w.heap.size + 1) ag;have LN := Hh (fun V (hV : Below w.heap.size w V) => Hl As cd ds V (HDR.out V hV) ak);have XN := Hh (fun gl V (hV : Below w.heap.size w V) (hLt : oW V gl ⟨ds, 0⟩) => QM cs r q A c turn gl ⟨ds, 0⟩ V (HRS.out V hV) (HNM.out V hV) hqn hLt (by show (0 : Nat) <= 999999990; omega) (by show ds.length <= 17592186044416; omega));obtain ⟨w3, hw3⟩ : ∃ w3, Hid ((w.alloc (.cells L.toArray 72)).alloc (.cells (Value.int .i64 0 :: nR).toArray 92) = w3) := eD;rw [hw3.out] at hB B BO;have LR : Hid (∀ V, Below w3.heap.size w3 V -> (Instr.loadAt 69 (.pointer (some ⟨w.heap.size, 0, none⟩))).run prog V = .ok (.agg cs.toArray) V) := Hh (fun V hV => (B.below hV B.lt).pF 69 0 10 ak _ underlying69 rfl vx _ L0);have LQ : Hid (∀ V, Below w3.heap.size w3 V -> (Instr.loadAt 28 (.pointer (some ⟨w.heap.size, 10, none⟩))).run prog V = .ok (.agg (qC (.slice A q.name.length c) q).toArray) V) := Hh (fun V hV => (B.below hV B.lt).pF 28 10 3 ak _ underlying28 rfl rD _ L10);have LT : Hid (∀ V, Below w3.heap.size w3 V -> (Instr.loadAt 3 (.pointer (some ⟨w.heap.size, 13, none⟩))).run prog V = .ok (.int .i64 turn) V) := Hh (fun V hV => nN underlying3 rfl ((B.below hV B.lt).nf 13 L13));have LD : Hid (∀ V, Below w3.heap.size w3 V -> (Instr.loadAt 70 (.pointer (some ⟨w.heap.size, 14, none⟩))).run prog V = .ok (.slice As ds.length cd) V) := Hh (fun V hV => nN underlying70 rfl ((B.below hV B.lt).nf 14 L14));have NI := Hh (fun ok => Kp.new r q turn ⟨ds, 0⟩ rfl ok);have NL := Hh (Ro (nw r).tmo (nw r).vc (nw r).ed q (nY r turn) ⟨ds, 0⟩);obtain ⟨X0, hX0⟩ : ∃ X0, Hid (rF (nw r).tmo (nw r).vc (nw r).ed q (nY r turn) ⟨ds, 0⟩ = X0) := eD;rw [hX0.out] at XN NI NL ⊢;obtain ⟨R, hR⟩ : ∃ R, Hid (qH X0.2.2 (rf X0.1 X0.2.1 l) = R) := eD;rw [hR.out];obtain ⟨KK, hKK⟩ : ∃ KK, Hid (X0.1.ok = KK) := eD;rw [hKK.out];obtain ⟨Q, hQ⟩ : ∃ Q, Hid (qC (.slice A q.name.length c) q = Q) := eD;rw [hQ.out] at XN LQ;have hwsz : w.heap.size + 1 < w3.heap.size := BO.lt;obtain ⟨nd, hnd⟩ : ∃ nd, Hid (ds.length = nd) := eD;rw [hnd.out] at LN LD;clear L0 L10 L13 L14 hQ HNM HDR h hN hD hE hL B hW;go_enter func60, ntmps60;go_upto_region 1 with fail;change Code.wp _ _ _ _ ((w.alloc (.cells L.toArray 72)).alloc (.cells (Value.int .i64 0 :: nR).toArray 92));rw [hw3.out];go_cut [7, 8] (fun v5 v6 wx => ∃ g gl D, v5 = .pointer (some ⟨g, 0, none⟩) /\ pX w.heap.size wx v6 X0.2.2 /\ qy wx g gl D X0.1 /\ oW wx gl X0.2.1 /\ Below w3.heap.size w3 wx /\ w3.heap.size <= g /\ w3.heap.size <= gl /\ ∀ i, D = some i -> w3.heap.size <= i)
 case first =>
  refine wp_region_held_drew (S := fun V => Below w3.heap.size w3 V) (by kernel_rfl) (Below.refl _ _).drew (fun hS => ?_);refine nI hS 8 [0,1,2,3,4,5,6,7] rfl (by kernel_rfl) (fun _ _ _ _ _ h => h) rfl rfl ?_
  (refine ⟨_, (.pointer (some ⟨w.heap.size, 0, none⟩)), rfl, .inl ⟨rfl, fun V hV => rfl⟩, ?_⟩; simp only [Act.put, nB, nC, nD])
  (refine ⟨_, _, rfl, .inl ⟨rfl, fun V hV => (nW 69 (.tmp 11) ⟨w.heap.size, 0, none⟩ rfl rfl (LR.out V hV))⟩, ?_⟩; simp only [Act.put, nB, nC, nD])
  (refine ⟨_, (.pointer (some ⟨w.heap.size, 10, none⟩)), rfl, .inl ⟨rfl, fun V hV => rfl⟩, ?_⟩; simp only [Act.put, nB, nC, nD])
  (refine ⟨_, _, rfl, .inl ⟨rfl, fun V hV => (nW 28 (.tmp 13) ⟨w.heap.size, 10, none⟩ rfl rfl (LQ.out V hV))⟩, ?_⟩; simp only [Act.put, nB, nC, nD])
  (refine ⟨_, (.pointer (some ⟨w.heap.size, 13, none⟩)), rfl, .inl ⟨rfl, fun V hV => rfl⟩, ?_⟩; simp only [Act.put, nB, nC, nD])
  (refine ⟨_, _, rfl, .inl ⟨rfl, fun V hV => (nW 3 (.tmp 15) ⟨w.heap.size, 13, none⟩ rfl rfl (LT.out V hV))⟩, ?_⟩; simp only [Act.put, nB, nC, nD])
  (refine ⟨_, (.pointer (some ⟨w.heap.size, 14, none⟩)), rfl, .inl ⟨rfl, fun V hV => rfl⟩, ?_⟩; simp only [Act.put, nB, nC, nD])
  (refine ⟨_, _, rfl, .inl ⟨rfl, fun V hV => (nW 70 (.tmp 17) ⟨w.heap.size, 14, none⟩ rfl rfl (LD.out V hV))⟩, ?_⟩; simp only [Act.put, nB, nC, nD])
  simp only [pa];refine oY 8 (some 19) 33 #[.slice As nd cd] (by kernel_rfl) rfl rfl (by kernel_rfl) aS (LN.out _ (nc hB hB.size hS)) ?_;rintro _ w4 ⟨gl, rfl, hLt, b4, hgl⟩;have hS4 := nc hS hS.size b4;refine ⟨_, rfl, hS4, ?_⟩;have hgl3 : w3.heap.size <= gl := Nat.le_trans hS.size hgl;clear hS b4 hgl;have hS := hS4;clear hS4;simp only [Act.put, nB, nC, nD];refine oY 9 (some 20) 32 #[.agg cs.toArray, .agg Q.toArray, .int .i64 turn, .pointer (some ⟨gl, 0, none⟩)] (by kernel_rfl) rfl rfl (by kernel_rfl) aS (XN.out gl _ (nc hB hB.size hS) hLt) ?_;rintro _ w5 ⟨g, v, D, rfl, hO, hX, hl5, hf, hg, hD⟩;have hS5 : Below w3.heap.size w3 w5 := hf.toBelow hS hS.size (fun i hi h => by omega);refine ⟨_, rfl, hS5, ?_⟩;have hO5 := hO.mono (show w.heap.size <= w4.heap.size from Nat.le_trans hB.size hS.size);have hg3 : w3.heap.size <= g := Nat.le_trans hS.size hg;have hD3 : ∀ i, D = some i -> w3.heap.size <= i := fun i hi => Nat.le_trans hS.size (hD i hi)
  clear hS hf hO hg hD hLt;have hS := hS5;clear hS5;simp only [Act.put, nB, nC, nD];refine nI hS 5 [10,11,12,13,14] rfl (by kernel_rfl) (fun _ _ _ _ _ h => h) rfl rfl ?_
  (refine ⟨_, (.tuple #[.pointer (some ⟨g, 0, none⟩), v]), rfl, .inl ⟨rfl, fun V hV => rfl⟩, ?_⟩; simp only [Act.put, nB, nC, nD])
  (refine ⟨_, (.pointer (some ⟨g, 0, none⟩)), rfl, .inl ⟨rfl, fun V hV => rfl⟩, ?_⟩; simp only [Act.put, nB, nC, nD])
  (refine ⟨_, v, rfl, .inl ⟨rfl, fun V hV => rfl⟩, ?_⟩; simp only [Act.put, nB, nC, nD])
  (refine ⟨_, (.pointer (some ⟨g, 0, none⟩)), rfl, .inl ⟨rfl, fun V hV => rfl⟩, ?_⟩; simp only [Act.put, nB, nC, nD])
  (refine ⟨_, v, rfl, .inl ⟨rfl, fun V hV => rfl⟩, ?_⟩; simp only [Act.put, nB, nC, nD])
  simp only [pa];refine wpAnyH_done (by kernel_rfl) ?_ _;go_wp2_with fail;go_meet
  case rel => exact ⟨g, gl, D, rfl, hO5, hX, hl5, hS, hg3, hgl3, hD3⟩
 obtain ⟨g, gl, D, rfl, hO, hX, hLt, HW, hg3, hgl3, hD3⟩ := hcut;clear LR LQ LT LD LN XN;obtain ⟨w5, rfl⟩ : ∃ w5, w5 = wc := eE;obtain ⟨n1, n2, n3, n4, n5⟩ := NI.out hX.ok;have hlen := NL.out;have HKO : Hid KK := Hh (by rw [<- hKK.out]; exact hX.ok);clear hKK;have BO5 := BO.below HW BO.lt;have H5 := nc hB hB.size HW;have hw35 : w3.heap.size <= w5.heap.size := HW.size;obtain ⟨hT1, hT2⟩ := Rp r;have hMO : Hid (Ed r = 3 * (nY r 0).length) := Hh rfl;generalize BF r = T at *;generalize (nY r 0).length = nt at *;generalize Ed r = mm at *;obtain ⟨x0, hx0⟩ : ∃ x0, Hid (X0.1 = x0) := eD;obtain ⟨L1, hL1⟩ : ∃ L1, Hid (X0.2.1 = L1) := eD;rw [hx0.out] at hX n1 n5 hR;rw [hL1.out] at hLt n3 n4 hR;generalize X0.2.2 = o0 at *;have hX5 := Hh hX;have hL5 := Hh hLt;have hI5 := Hh n1;have hO5 := Hh hO;have hU5 := Hh (And.intro n3 (And.intro n4 n5));clear hX hLt n1 n2 n3 n4 n5 NI NL hO HW BO hX0 hnd;obtain ⟨ne, hne⟩ : ∃ ne, Hid (l.length = ne) := eD;rw [hne.out];go_wp2_with fail;go_loopw [8, 9] (fun ov iv wr => ∃ (k tk : Nat) (x : Xc) (M : Lt) (E : Option Nat) (o : List Ou), k <= l.length /\ iv = .int .i64 k /\ Hid (pX w.heap.size wr ov o) /\ Hid (qy wr g gl E x) /\ Hid (oW wr gl M) /\ Hid (Kp nt T x tk) /\ Hid (qH o (rf x M (l.drop k)) = R) /\ o.length <= 1 + 2 * k /\ M.us <= 2 + 2 * k /\ M.ds.length <= 17592186044416 /\ x.d.heard.length <= tz (l.take k) /\ Below w.heap.size w wr /\ w3.heap.size <= wr.heap.size /\ nj wr (w.heap.size + 1) 92 (Value.int .i64 0 :: nR) /\ ∀ i, E = some i -> w3.heap.size <= i) (fun _ iv _ => l.length - (intOf iv).toNat)
 case atStart => exact ⟨0, 0, x0, L1, D, o0, Nat.zero_le _, rfl, hO5, hX5, hL5, hI5, hR, ak, hU5.out.1, by rw [hU5.out.2.1]; omega, by rw [hU5.out.2.2]; exact Nat.zero_le _, H5, hw35, BO5, hD3⟩
 clear hX5 hL5 hI5 hU5 H5 BO5 hD3 hx0 hL1 hO5 hR;obtain ⟨k, tk, x, M, E, o, hk, rfl, HO, HX, HL, HI, HG, hol, hu, hMd, hh, HB, hwr, BT, hE⟩ := hrel;have hsn : x.sent <= 135 := by have := HI.out.rst; have := hMO.out; omega
 obtain ⟨Ao, co, hov, _⟩ := HO.out.form;subst hov;by_cases hlt : k < l.length
 case pos =>
  have hlt' : (k : Int) < ne := by rw [<- hne.out]; omega
  obtain ⟨ba, oa, hA1, la1, ra, hip, hdl'⟩ := HEV.out.at_ k hlt;have hT := El l k hlt;have hT2 := Ti l (k + 1);have hel : (qm l[k]).length = 22 := sR hip;have re := nO ra HB la1;have HC := Hh (ND g gl E x M l[k] wr HX.out HL.out hip ak ak hMd ak);obtain ⟨i1, i2, i3, i4, i5⟩ := HI.out.WO HX.out.ok M l[k];have hx2 := NA x M l[k];have hh2 : (oI x M l[k]).1.d.heard.length <= tz (l.take (k + 1)) := ak;have HGG : Hid (qH (o ++ (oI x M l[k]).2.2) (rf (oI x M l[k]).1 (oI x M l[k]).2.1 (l.drop (k + 1))) = R) := Hh (by
   rw [<- HG.out, yn hlt, <- wj]; rfl)
  have HIN := Hh (And.intro i1 (And.intro i3 (And.intro i4 hh2)));have OFF := Hh (HX.out.off HL.out HO.out);subst hA1;unfold rM at HC;clear i1 i2 i3 i4 i5 hh2 hT hT2 hh ra hdl' HX HL HI HG;generalize oI x M l[k] = Y at *;generalize hek : qm l[k] = ek at *;obtain ⟨no, hno⟩ : ∃ no, Hid (o.length = no) := eD;rw [hno.out] at hol ⊢;go_wp2_with (refine nh (.load 42 (.tmp 33)) rfl ?_; go_must (refine pv rfl 42 (.tmp 33) rfl ba (oa + k * 22) rfl ek re _ underlying42 rfl dH ?_));refine HC.out.mono ?_;rintro _ w6 ⟨v6, E2, rfl, hO6, hX6, hL6, hf6, hE6⟩;have hw6 : wr.heap.size <= w6.heap.size := hf6.size;have B6 := hf6.u9 BT bJ;have H6 : Below w.heap.size w w6 := hf6.toBelow HB HB.size (fun i hi h => by
   rcases h with h | h | h
   ·omega
   ·omega
   ·
    have := hE i h; omega)
  have hE2 : ∀ i, E2 = some i -> w3.heap.size <= i := fun i hi => by
   rcases hE6 i hi with h | h
   ·exact hE i h
   ·omega
  have O6 : pX w.heap.size w6 (.slice Ao no co) o := by have := HO.out.W9 hf6 OFF.out; rwa [hno.out] at this
  have hX6' := Hh hX6;have hL6' := Hh hL6;have hO6' := Hh hO6;have HO6 := Hh O6;clear HC hO6 hX6 hL6 hf6 hE6 BT HB hE re HO OFF O6;go_wp2_with (at_builtin; go_must (refine tJ _ rfl (.tmp 29) (.tmp 35) rfl rfl rfl HO6.out hO6'.out ak (by rw [hno.out]; omega) ?_));intro v7 w7 hO7 f7;obtain ⟨Lg, hLg⟩ := hX6'.out.oL;obtain ⟨Ll, hLl⟩ := qU hL6'.out;have hX7 := Hh (hX6'.out.fr f7 (HO6.out.Fx hLg aj) (fun i L hi hb => HO6.out.Fx hb aj));have hL7 := Hh (hL6'.out.fr f7 (HO6.out.Fx hLl aj));have B7 := f7.u9 B6 bJ;have H7 : Below w.heap.size w w7 := f7.toBelow H6 H6.size (fun i hi h => by
   obtain ⟨css, ho, _⟩ := HO6.out;have := sf ho i h;omega)
  have hw7 : w6.heap.size <= w7.heap.size := f7.size;have hO7' := Hh hO7;obtain ⟨j1, j3, j4, j5⟩ := HIN.out;have hj1 := Hh j1;have hol2 : (o ++ Y.2.2).length <= 1 + 2 * (k + 1) := by rw [List.length_append, hno.out]; omega
  clear hX6' hL6' hO6' HO6 hO7 f7 hLg hLl B6 H6 j1 HIN;go_wp2_with fail;go_roundw
  case rel => exact ⟨k + 1, _, Y.1, Y.2.1, E2, o ++ Y.2.2, ak, eh, hO7', hX7, hL7, hj1, HGG, hol2, ak, by rw [j4]; exact hMd, j5, H7, ak, B7, hE2⟩
  case measure => simp [intOf]; omega
 have hlt' : ¬ (k : Int) < ne := by rw [<- hne.out]; omega
 have HRR : Hid (R = (x, M, o)) := Hh (by
  rw [<- HG.out, List.drop_of_length_le ak];show (x, M, o ++ []) = _;rw [List.append_nil])
 have hol : o.length <= 161 := ak;have OC := Hh (IA g gl E x wr HX.out);have DN := Hh (fun V (hV : Below wr.heap.size wr V) => NJ (HX.out.below hV));clear HG HI hu hMd hh hE hsn HEV hl80 htot hMO HL HX;go_wp2_with fail;refine OC.out.mono ?_;rintro _ w6 ⟨dm, rfl, hM, b6⟩;have DN6 := Hh (DN.out _ b6);have hdm := hM.len;have B6 := BT.below b6 BT.lt;have HM6 := Hh hM;have HO6 := Hh (HO.out.below b6);have H6 := nc HB HB.size b6;obtain ⟨O, hO⟩ : ∃ O, Hid (Value.int .i64 x.vd :: dm = O) := eD;rw [hO.out];have hO1 : ∀ v ∈ O, v.oneCell' = true := by rw [<- hO.out];exact kA
 have hOl : O.length = 15 := by rw [<- hO.out]; simp [hdm]
 have zl0 : (Value.int .i64 0 :: nR : List Value).length = 15 := rfl;clear OC DN BT HB HO b6 hM;go_wp2_with fail;refine DN6.out.mono ?_;rintro _ w7 ⟨rfl, rfl⟩;clear DN6;go_wp2_with (refine nh (.store 92 (.tmp 5) (.tmp 39)) rfl (ab rfl (w.heap.size + 1) 0 O B6 (by rw [hOl, zl0]; decide) cV hO1 ?_));intro w8 B8 g8 sw;clear sw;replace B8 := oH (L := O) B8 dQ;have FIN : Hid (Ui R KK w (.returned (.tuple #[.slice Ao o.length co, .agg O.toArray, .bool x.done])) w8) := Hh (by
  rw [HRR.out];exact ⟨.slice Ao o.length co, dm, by rw [hO.out], nZ.oL HO6.out g8 B6 aj, by show o.length <= 1000; omega, HM6.out.u9 g8 B6 aj aj aj, ng H6 g8 H6.size ak, HKO.out⟩)
 clear g8 B6 HM6 HO6 H6;generalize o.length = no at *;go_wp2_with fail;refine TE rfl (w.heap.size + 1) rfl B8 _ underlying92 rfl cV rfl _ _ rfl rfl ?_;exact FIN.out
theorem Ex : ∀ (l : List Ev) (x : Xc), ((nK x l).2.2.2 ++ (nK x l).2.2.1).Sublist l
 | [], x => List.Sublist.refl _
 | e :: l, x => by
  have hm : (if (ou x e).1.mat then [e] else []).Sublist [e] := by split <;> simp
  unfold nK;split
  ·exact hm.append (List.Sublist.refl l)
  ·show ((if (ou x e).1.mat then [e] else []) ++ (nK (ou x e).2 l).2.2.2 ++ (nK (ou x e).2 l).2.2.1).Sublist ([e] ++ l);rw [List.append_assoc];exact hm.append (Ex l _)
theorem Ga : ∀ (f : Nat) (x : Xc) (lg : Nat) (L : Lt) (l : List Ev), ((sN f x lg L l).kept ++ (sN f x lg L l).rest).Sublist l
 | 0, x, lg, L, l => by show ([] ++ l).Sublist l; exact List.Sublist.refl _
 | f + 1, x, lg, L, l => by
  have hE := F8 f x lg L l _ rfl;have hs := Ex l (oq x L lg).1;rw [hE];generalize nK (oq x L lg).1 l = u at *;have key : ∀ r : TJ, (r.kept ++ r.rest).Sublist u.2.2.1 -> ((Db u.2.2.2 [od x L] r).kept ++ (Db u.2.2.2 [od x L] r).rest).Sublist l := fun r h => by
   show (u.2.2.2 ++ r.kept ++ r.rest).Sublist l;rw [List.append_assoc];exact (List.Sublist.append (List.Sublist.refl _) h).trans hs
  split
  ·show (u.2.2.2 ++ []).Sublist l;exact (List.Sublist.append (List.Sublist.refl _) (List.nil_sublist _)).trans hs
  ·
   split
   ·exact hs
   ·
    split
    ·exact hs
    ·
     split
     ·exact key _ (Ga f _ _ _ _)
     ·
      split
      ·exact key _ (Ga f _ _ _ _)
      ·exact hs
theorem IV : ∀ (f : Nat) (x : Xc) (L : Lt) (l : List Ev), (rk f x L l).2.1.Sublist l
 | 0, x, L, l => List.nil_sublist _
 | f + 1, x, L, l => by
  have hE : rk (f + 1) x L l = (let T := sN 3 x (if x.vc then 2 else 0) L l
   if T.ended = false \/ T.x.done = true then (T.x, T.kept, T.qs)
   else ((rk f (qG T) T.L T.rest).1, T.kept ++ (rk f (qG T) T.L T.rest).2.1, T.qs ++ (rk f (qG T) T.L T.rest).2.2)) := rfl
  have hs := Ga 3 x (if x.vc then 2 else 0) L l;rw [hE];generalize sN 3 x (if x.vc then 2 else 0) L l = T at *;dsimp only;split
  ·exact (List.sublist_append_left _ _).trans hs
  ·exact (List.Sublist.append (List.Sublist.refl _) (IV f _ _ _)).trans hs
theorem Oa (tmo : Int) (vc ed : Bool) (q : Qn) (tr : List oi) (L : Lt) (l : List Ev) : (rG tmo vc ed q tr L l).2.1.Sublist l := by
 unfold rG;split
 ·exact List.nil_sublist _
 ·exact IV _ _ _ _
theorem Rt {a b : List Ev} (h : a.Sublist b) : tz a <= tz b := by
 induction h with
 | slnil => exact Nat.le_refl _
 | cons x _ ih => unfold tz at *; simp only [List.map_cons, List.sum_cons]; omega
 | cons_cons x _ ih => unfold tz at *; simp only [List.map_cons, List.sum_cons]; omega
theorem IW : ∀ l : List Ev, tz l = tK l
 | [] => rfl
 | e :: l => by
  show ((e :: l).map fun e => e.data.length).sum = e.data.length + tK l;rw [List.map_cons, List.sum_cons, <- IW l]; rfl
def Cn : Rs := ⟨[], [], [], 0, 0, 0, false, false, false, false⟩
def Vo : Qn := ⟨[[]], 0, 0⟩
def Vp : JR := rG (nw Cn).tmo (nw Cn).vc (nw Cn).ed QN (nY Cn 0) ⟨[], 0⟩ []
def Wv : JR := rG (nw Cn).tmo (nw Cn).vc (nw Cn).ed Vo (nY Cn 0) ⟨[], 0⟩ []
theorem TL : Vp.1.vd = 0 /\ Vp.1.done = false /\ Vp.2.2.length = 1 := ⟨by kernel_rfl, by kernel_rfl, by kernel_rfl⟩
theorem TM : Wv.1.vd = 3 /\ Wv.1.done = true := ⟨by kernel_rfl, by kernel_rfl⟩
theorem Ru (w : World) : vg w (sL nA nA nA Cn) Cn := ⟨none, 0, none, 0, none, 0, rfl, fun h => absurd h aj, fun h => absurd h aj, fun h => absurd h aj, aj, aj, aj⟩
theorem Vi (w : World) (gn : Nat) (hn : nj w gn 9 [.string ⟨#[]⟩]) : rQ w (some ⟨gn, 0, none⟩) 1 Vo.name := by
 refine ⟨fun _ => ⟨gn, 0, rfl, hn.lt, fun j hj => ?_⟩, by show (1 : Nat) <= 1; decide, by show (1 : Nat) <= 17592186044416; decide, by
  intro l hl;simp [Vo] at hl;subst hl; simp⟩
 obtain rfl : j = 0 := by have h2 : j < ([[]] : List (List UInt8)).length := hj;have : ([[]] : List (List UInt8)).length = 1 := rfl;omega
 exact hn.nf 0 rfl
theorem yq {w : World} {ds : List Value} {m : oh} (v : Int) (h : nL w ds m) : (Value.int .i64 v :: ds).length = 15 /\ ∀ x ∈ (Value.int .i64 v :: ds : List Value), x.oneCell' = true := by
 refine ⟨by simp [h.len], fun x hx => ?_⟩;rcases List.mem_cons.1 hx with rfl | hx
 ·rfl
 ·exact h.one x hx
set_option maxHeartbeats 4000000 in
theorem wv (w : World) : Calls prog 57 #[] w (nM (.bool true) w) := by
 have b0 : Below w.heap.size w (w.alloc (.cells #[.string ⟨#[97]⟩] 9)) := eC;have N0 := nj.new w 9 [.string ⟨#[97]⟩];have TH1 : Hid (∀ V, nj V w.heap.size 9 [.string ⟨#[97]⟩] -> Calls prog 104 #[.agg (xd nA (.slice (some ⟨w.heap.size, 0, none⟩) 1 1) (sL nA nA nA Cn) QN 0).toArray, nA] V (yo Vp V)) := Hh (fun V hV => wu none (sL nA nA nA Cn) Cn (some ⟨w.heap.size, 0, none⟩) 1 QN 0 [] 0 none 0 [] V (Ru V) (U7 V _ hV) aj (fun h => absurd h aj) aj ⟨fun e h => cK, fun h => absurd h aj⟩ aj (Nat.le_refl _) aj);have TH2 : Hid (∀ V gn, nj V gn 9 [.string ⟨#[]⟩] -> Calls prog 104 #[.agg (xd nA (.slice (some ⟨gn, 0, none⟩) 1 1) (sL nA nA nA Cn) Vo 0).toArray, nA] V (yo Wv V)) := Hh (fun V gn hV => wu none (sL nA nA nA Cn) Cn (some ⟨gn, 0, none⟩) 1 Vo 0 [] 0 none 0 [] V (Ru V) (Vi V _ hV) aj (fun h => absurd h aj) aj ⟨fun e h => cK, fun h => absurd h aj⟩ aj (Nat.le_refl _) aj);have JU1 := Hh (fun V (hV : nj V w.heap.size 9 [.string ⟨#[97]⟩]) => Cm (xd nA (.slice (some ⟨w.heap.size, 0, none⟩) 1 1) (sL nA nA nA Cn) QN 0) nA Vp V rfl (fun V' b => TH1.out V' (hV.below b hV.lt)));have LE1 := Hh (fun V (hV : nj V w.heap.size 9 [.string ⟨#[97]⟩]) => TB (xd nA (.slice (some ⟨w.heap.size, 0, none⟩) 1 1) (sL nA nA nA Cn) QN 0) nA Vp V rfl (fun V' b => TH1.out V' (hV.below b hV.lt)));have JU2 := Hh (fun V gn (hV : nj V gn 9 [.string ⟨#[]⟩]) => Cm (xd nA (.slice (some ⟨gn, 0, none⟩) 1 1) (sL nA nA nA Cn) Vo 0) nA Wv V rfl (fun V' b => TH2.out V' gn (hV.below b hV.lt)));obtain ⟨a1, a2, a3⟩ := TL;obtain ⟨a4, a5⟩ := TM;unfold Rl at JU1 JU2;unfold Rm at LE1;rw [a1, a2] at JU1;rw [a3] at LE1;rw [a4, a5] at JU2;obtain ⟨J1, hJ1⟩ : ∃ J1, Hid (xd nA (.slice (some ⟨w.heap.size, 0, none⟩) 1 1) (sL nA nA nA Cn) QN 0 = J1) := eD;have hJl : J1.length = 15 := by rw [<- hJ1.out]; rfl
 clear TH1 TH2 a1 a2 a3 a4 a5;go_enter func57, ntmps57;go_wp2_with fail;have k2 : Below w.heap.size w ((w.alloc (.cells #[.string ⟨#[97]⟩] 9)).alloc (.cells (xd nA (.slice (some ⟨w.heap.size, 0, none⟩) 1 1) (sL nA nA nA Cn) QN 0).toArray 125)) := b0.alloc ag _;have N2 := N0.alloc (.cells (xd nA (.slice (some ⟨w.heap.size, 0, none⟩) 1 1) (sL nA nA nA Cn) QN 0).toArray 125);have BT := nj.ph (w.alloc (.cells #[.string ⟨#[97]⟩] 9)) 125 (xd nA (.slice (some ⟨w.heap.size, 0, none⟩) 1 1) (sL nA nA nA Cn) QN 0) (w.heap.size + 1) ag;refine (JU1.out _ N2).mono ?_;rintro _ w3 ⟨ds3, rfl, hM3, b3⟩;have N3 := N2.below b3 N2.lt;have BT3 := BT.below b3 BT.lt;have H3 := nc k2 k2.size b3;obtain ⟨hl3, ho3⟩ := yq 0 hM3;obtain ⟨O3, hO3⟩ : ∃ O3, Hid (Value.int .i64 0 :: ds3 = O3) := eD;have o30 : O3[0]? = some (.int .i64 0) := by rw [<- hO3.out]; rfl
 rw [hO3.out] at hl3 ho3 ⊢;clear N0 b0 k2 N2 BT b3 hM3 JU1;go_wp2_with (refine nh (.store 92 (.tmp 2) (.tmp 12)) rfl (ab rfl w3.heap.size 0 O3 (nj.ph _ _ (Value.int .i64 0 :: nR) _ rfl) (by rw [hl3]; decide) (by rw [hl3]; exact qx) ho3 ?_));intro w4 B4 g4 sw;clear sw;replace B4 : nj w4 w3.heap.size 92 O3 := su B4 aj;have k4 : Below w3.heap.size w3 w4 := fA;have N4 := N3.below k4 N3.lt;have BT4 := BT3.below k4 BT3.lt;have H4 := nc H3 H3.size k4;clear N3 BT3 H3 g4 k4;go_wp2_with fail;have k5 : Below w4.heap.size w4 (w4.alloc (.cells #[.string ⟨#[]⟩] 9)) := eC;have NN := nj.new w4 9 [.string ⟨#[]⟩];refine (JU2.out _ _ NN).mono ?_;rintro _ w5 ⟨ds5, rfl, hM5, b5⟩;have k6 := nc k5 k5.size b5;have N5 := N4.below k6 N4.lt;have BT5 := BT4.below k6 BT4.lt;have B5 := B4.below k6 B4.lt;have H5 := nc H4 H4.size k6;obtain ⟨hl5, ho5⟩ := yq 3 hM5;obtain ⟨O5, hO5⟩ : ∃ O5, Hid (Value.int .i64 3 :: ds5 = O5) := eD;have o50 : O5[0]? = some (.int .i64 3) := by rw [<- hO5.out]; rfl
 rw [hO5.out] at hl5 ho5 ⊢;clear N4 BT4 B4 H4 k5 NN b5 hM5 JU2 k6;go_wp2_with (refine nh (.store 92 (.tmp 4) (.tmp 19)) rfl (ab rfl w5.heap.size 0 O5 (nj.ph _ _ (Value.int .i64 0 :: nR) _ rfl) (by rw [hl5]; decide) (by rw [hl5]; exact qx) ho5 ?_));intro w6 B6 g6 sw;clear sw;replace B6 : nj w6 w5.heap.size 92 O5 := su B6 aj;have k7 : Below w5.heap.size w5 w6 := gF;have N6 := N5.below k7 N5.lt;have BT6 := BT5.below k7 BT5.lt;have B6a := B5.below k7 B5.lt;have H6 := nc H5 H5.size k7;have c0 := B6a.nf 0 o30;have d0 := B6.nf 0 o50;have LE6 := Hh (LE1.out _ N6);rw [hJ1.out] at BT6 LE6;clear N5 BT5 B5 H5 g6 k7 LE1;go_wp2_with (refine nh (.load 125 (.tmp 1)) rfl ?_; go_must (refine pS 125 (.tmp 1) rfl aS (w.heap.size + 1) 0 rfl BT6 15 ak _ underlying125 rfl Vg J1 (qj ak) ?_));refine LE6.out.mono ?_;rintro _ w7 ⟨A7, c7, rfl, b7⟩;have d1 := (B6.below b7 B6.lt).nf 0 o50;have H7 := nc H6 H6.size b7;clear LE6 BT6 c0 d0 b7 H6;go_wp2_with fail;go_ret;exact nM.mk rfl H7
end Go.Proofs.YthnbcmlnpdabhaaGreat

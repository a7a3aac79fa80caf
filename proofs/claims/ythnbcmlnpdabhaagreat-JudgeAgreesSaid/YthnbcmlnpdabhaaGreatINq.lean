/-
  Layer 24, the laws' own: works; AskOwn.
-/
import Derived.Test.YthnbcmlnpdabhaaGreatHXq
namespace Go.Proofs.YthnbcmlnpdabhaaGreat
open _root_.Go.Proofs.Tryz
open Go.RowKit
set_option maxRecDepth 100000
set_option linter.unusedVariables false
set_option linter.unusedSimpArgs false
def xs (n : List (List UInt8)) (k : Nat) : List (List UInt8) := (n.take k).map (· ++ [120]) ++ n.drop k
theorem Nu (q : Qn) (id : Int) (edns : Bool) : (oT (pf q id edns) false).2 ≠ 0 \/ ((oT (pf q id edns) false).2 = 0 /\ (oT (pf q id edns) false).1.length <= 65535 /\ qR (oT (pf q id edns) false).1 = .ok (pf q id edns)) := by
 have hw : ∀ r ∈ (pf q id edns).y7, r.wf := by
  intro r hr;cases edns with
  | false => simp [pf, oh.y7] at hr
  | true =>
   have : r = ES := by simpa [pf, oh.y7] using hr
   subst this;exact ⟨rfl, rfl⟩
 rcases JH _ hw with ⟨h1, h2, h3, h4, h5, h6⟩ | ⟨h1, _⟩ | ⟨h1, _⟩
 ·exact .inr ⟨h1, h4, h5⟩
 ·exact .inl h1
 ·exact .inl h1
def WJ (y : Qy) : Dl := ⟨y, [], 0, false, [], oh.zero⟩
def Wp (vn : Value) (y : Qy) : List Value := JB (yc vn (WJ y)) nR (.pointer none) (.int .i64 0) (.int .u8 0) (.int .u8 0)
theorem Nv (fam zone port id : Int) (q : Qn) (b0 b1 b2 b3 b4 b5 b6 b7 b8 b9 b10 b11 b12 b13 b14 b15 : UInt8) (vn : Value) (W : World) :
  (Instr.build 152 #[(0, .agg (qY vn ⟨⟨fam, [b0, b1, b2, b3, b4, b5, b6, b7, b8, b9, b10, b11, b12, b13, b14, b15], zone⟩, port, id, q⟩).toArray)]).run prog W = .ok (.agg (Wp vn ⟨⟨fam, [b0, b1, b2, b3, b4, b5, b6, b7, b8, b9, b10, b11, b12, b13, b14, b15], zone⟩, port, id, q⟩).toArray) W := by
 kernel_rfl
theorem Tb (vn : Value) (y : Qy) (h : y.sv.ip.length = 16) (W : World) : (Instr.build 152 #[(0, .agg (qY vn y).toArray)]).run prog W = .ok (.agg (Wp vn y).toArray) W := by
 obtain ⟨⟨fam, ip, zone⟩, port, id, q⟩ := y;have h' : ip.length = 16 := h;clear h;match ip, h' with
 | [b0, b1, b2, b3, b4, b5, b6, b7, b8, b9, b10, b11, b12, b13, b14, b15], _ => exact Nv fam zone port id q b0 b1 b2 b3 b4 b5 b6 b7 b8 b9 b10 b11 b12 b13 b14 b15 vn W
theorem Nw (vn vm : Value) (y : Qy) (h : y.sv.ip.length = 16) : (qY vn y).set 20 vm = qY vm y := by
 unfold qY;rw [List.set_append_right _ _ cE, y.sv.nV h];rfl
def Qw (y : Qy) (w : World) (e : Ending) (w' : World) : Prop := ∃ g v, e = .returned (.tuple #[.pointer (some ⟨g, 0, none⟩), v]) /\ rp w' g (tf y).1 /\ pX (g + 1) w' v (tf y).2 /\ Below w.heap.size w w' /\ w.heap.size <= g
theorem wg : n9 [] = [] /\ pB [] = [] := oZ [] cJ
set_option maxHeartbeats 2000000 in
theorem Qx (cs : List Value) (y : Qy) (A : Option Addr) (c : Nat) (w : World) (h : CX w cs y A c) (hn : y.q.name.length <= 100000) :
  Calls prog 15 #[.agg cs.toArray] w (Qw y w) := by
 have hip := h.ip;have hcl : cs.length = 23 := by rw [h.hcs]; exact qS hip
 have L20 : cs[20]? = some (.slice A y.q.name.length c) := by rw [h.hcs]; exact tY hip 2
 have hset : ∀ vm, cs.set 20 vm = qY vm y := fun vm => by rw [h.hcs]; exact Nw _ _ _ hip
 have B1 := nj.new w 37 cs;have HB1 : Below w.heap.size w (w.alloc (.cells cs.toArray 37)) := eC;have CL := Hh (tN A c y.q.name _ (h.nm.below HB1) hn);have hll : Hid (∀ l ∈ y.q.name, l.length <= 140737488355328) := Hh h.nm.2.2.2;have a20 := B1.nf 20 L20;have HSET := Hh hset;have hnl : y.q.name.length <= 17592186044416 := ak;obtain ⟨R, hR⟩ : ∃ R, Hid (tf y = R) := eD;unfold Qw;rw [hR.out];clear h L20 hset;go_enter func15, ntmps15;go_wp2_with fail;refine CL.out.mono ?_;rintro _ w1 ⟨A1, c1, rfl, own1, b1⟩;have C1 := B1.below b1 B1.lt;have HB2 := nc HB1 HB1.size b1;clear CL B1 HB1 b1 a20;go_wp2_with (refine nh (.store 26 (.tmp 12) (.tmp 10)) rfl (af rfl w.heap.size 20 (.slice A1 y.q.name.length c1) C1 (by rw [hcl]; decide) rZ ?_));intro w2 C2 g2 zs;clear zs;rw [HSET.out] at C2;have own2 := sQ own1 g2 C1 aj;have HB3 := ng HB2 g2 HB2.size (Nat.le_refl _);have hT2 : pL w2 (.slice A1 y.q.name.length c1) y.q.name := sX own2;have N2 := Ps own2 hnl hll.out;have hN2 : y9 w2 (.slice A1 y.q.name.length c1) y.q.name := ⟨hT2, hn, hll.out⟩;have RB := Hh (fun W => Tb (.slice A1 y.q.name.length c1) y hip W);have hql := qS (vn := .slice A1 y.q.name.length c1) hip;have q19 : (qY (.slice A1 y.q.name.length c1) y)[19]? = some (.int .i64 y.id) := tY hip 1;have Q3 := Hh (VX (vn := .slice A1 y.q.name.length c1) hip);have a19 := fun o => (C2.alloc o).nf 19 q19
 have HLL : Hid (∀ W, nj W w2.heap.size 152 (Wp (.slice A1 y.q.name.length c1) y) -> y9 W (.slice A1 y.q.name.length c1) y.q.name -> rn W w2.heap.size (WJ y) []) := Hh (fun W hb hN =>
  ⟨_, nR, ⟨none, [], 0, 0, uj (d := WJ y) hip, hb, rfl, rfl, ag, ag⟩, hip, hN, nL.zero _⟩)
 have BU := Hh (fun W (hb : Below w2.heap.size w2 W) => wO A1 c1 y.q y.id false W (N2.below hb) hn);have AP : Hid (Bg y = 0 -> (Ih y).length <= 65535) := Hh (fun h0 => by
  rcases Nu y.q y.id false with h | ⟨_, h, _⟩
  ·exact absurd h0 h
  ·
   exact h)
 clear HSET own1 g2 C1 HB2 own2 hT2 N2 q19 hll hnl;generalize qY (.slice A1 y.q.name.length c1) y = qs at *;obtain ⟨LL, hLL⟩ : ∃ LL, Hid (Wp (.slice A1 y.q.name.length c1) y = LL) := eD;rw [hLL.out] at RB HLL;unfold qC at Q3;go_wp2_with (first
  | (refine nh (.load 37 (.tmp 1)) rfl ?_; go_must (refine ni rfl _ _ rfl w.heap.size 0 rfl C2 23 ak _ underlying37 rfl xq qs (qj ak) ?_))
  | (refine nh (.build 152 #[(0, .tmp 13)]) rfl ?_; go_must (refine oo rfl 152 _ rfl #[(0, .agg qs.toArray)] cM (RB.out _) ?_))
  | (refine nh (.load 28 (.tmp 17)) rfl ?_; go_must (refine ni rfl _ _ rfl w.heap.size 20 rfl (C2.alloc _) 3 ak _ underlying28 rfl rD _ Q3.out ?_)))
 have kn : Below w2.heap.size w2 (w2.alloc (.cells LL.toArray 152)) := eC;have D1 := nj.new w2 152 LL;refine (BU.out _ kn).mono ?_;rintro _ w3 ⟨rfl, b3⟩;have k3 := nc kn kn.size b3;have J3 := HLL.out w3 (D1.below b3 D1.lt) (hN2.stays (nQ.below k3));have HB4 := nc HB3 HB3.size k3;have hg : w.heap.size <= w2.heap.size := HB3.size;clear RB HLL BU kn D1 b3 k3 hN2 HB3 C2 a19 Q3 hLL;generalize w2.heap.size = g at *;obtain ⟨vn, L, _, hbk, hL, _, _, _, _, _, c23, c24, _⟩ := J3.oL;have a23 := hbk.nf 23 c23;have a24 := hbk.nf 24 c24;have f23 := hbk.frozen 23;have f24 := hbk.frozen 24;have hgl := hbk.lt;clear c23 c24 hL;by_cases he : Bg y = 0
 case neg => have HR2 : Hid (R = (⟨y, [], 2, false, [], oh.zero⟩, [])) := Hh (by rw [<- hR.out]; unfold tf; rw [if_neg he]);have he1 : (Bg y == 0) = false := fD;have he2 : (Bg y != 0) = true := fD;have J4 : rn (w3.setCell ⟨g, 24, none⟩ (.int .i64 2)) g ⟨y, [], 2, false, [], oh.zero⟩ [] := J3.set 1 ak (.int .i64 2) rfl rfl rfl;have H5 : Below w.heap.size w (w3.setCell ⟨g, 24, none⟩ (.int .i64 2)) := ng HB4 (nT (World.grownBy.refl _ _) 24 (.int .i64 2)) HB4.size hg;have HJ := Hh J4;clear he hR J4 J3 AP hbk;unfold Bg at *;generalize (oT (pf y.q y.id false) false).1 = o1 at *;generalize (oT (pf y.q y.id false) false).2 = o2 at *;go_wp2_with fail;go_ret2;rw [HR2.out];exact ⟨g, _, rfl, ⟨[], HJ.out, fun h => cK, fun h => cK⟩, pX.nil _ _, H5, hg⟩
 have HR2 : Hid (R = (⟨y, ny 2 (Ih y).length ++ Ih y, 0, false, [], oh.zero⟩, [⟨2, y.sv, y.port, []⟩])) := Hh (by rw [<- hR.out]; unfold tf; rw [if_pos he]);have hl := AP.out he;clear AP hR hbk;unfold Bg at he;unfold Ih at HR2 hl;generalize (oT (pf y.q y.id false) false).1 = o1 at *;rw [he];clear he;go_wp2_with fail;refine (Fm o1 _ hl).mono ?_;rintro _ w4 ⟨rfl, b4⟩;have J4 := J3.below b4;have HB5 := nc HB4 HB4.size b4;have J5 : rn (w4.setCell ⟨g, 23, none⟩ (.string (bs (ny 2 o1.length ++ o1)))) g ⟨y, ny 2 o1.length ++ o1, 0, false, [], oh.zero⟩ [] := J4.set 0 ak (.string (bs (ny 2 o1.length ++ o1))) rfl rfl rfl;have H5 : Below w.heap.size w (w4.setCell ⟨g, 23, none⟩ (.string (bs (ny 2 o1.length ++ o1)))) := ng HB5 (nT (World.grownBy.refl _ _) 23 _) HB5.size hg;obtain ⟨_, L4, _, hb4, _, _, _, _, _, _, c23, _⟩ := J4.oL;have e23 := hb4.nf 23 c23;have e23f := hb4.frozen 23;have hgl4 := hb4.lt;have OC := Hh (J5.out 2 []);have HJ := Hh J5;clear J3 J4 J5 HB4 b4 hb4 c23 a23 a24 f23 f24 hgl;generalize ny 2 o1.length ++ o1 = o2 at *;go_wp2_with fail;refine OC.out.mono ?_;rintro _ w5 ⟨v, rfl, hO, b5⟩;have H6 := nc H5 H5.size b5;go_wp2_with fail;go_ret2;rw [HR2.out];exact ⟨g, _, rfl, ⟨[], HJ.out.below b5, fun _ => wg.2.symm, fun _ => by show oU y (n9 []) = none; rw [wg.1]; rfl⟩, hO.mono (by have : g + 1 <= w4.heap.size := hgl4; simpa [World.setCell] using this), H6, hg⟩
end Go.Proofs.YthnbcmlnpdabhaaGreat

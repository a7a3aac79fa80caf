/-
  Layer 14 (message): the reader: take, num, check, name.
-/
import Derived.Test.YthnbcmlnpdabhaaGreatHCq
import Derived.Great.BuildSlice
namespace Go.Proofs.YthnbcmlnpdabhaaGreat
open _root_.Go.Proofs.Tryz
open Go.RowKit
set_option maxRecDepth 100000
set_option linter.unusedVariables false
set_option linter.unusedSimpArgs false
def vB (w : World) (g : Nat) (m : List UInt8) (a : Nat) : Prop := nj w g 327 [.string (bs m), .int .i64 (a : Int)]
def mstop (e : Int) : List PanicEntry := [{ v := .iface 324 (.agg #[.int .i64 e]), recovered := false }]
def yV {α : Type} (V : World -> Value -> α -> Prop) (g : Nat) (m : List UInt8) (w : World) (o : Except Int (α × Nat)) (e : Ending) (w' : World) : Prop :=
 match o with
 | .error x => e = .panicked (mstop x) /\ w.grownBy w' (some g)
 | .ok (x, p) => ∃ v, e = .returned v /\ V w' v x /\ vB w' g m p /\ w.grownBy w' (some g) /\ p <= m.length
theorem DJ (g : Nat) (m : List UInt8) (a n : Nat) (w : World) (h : vB w g m a) (hl : m.length <= 65535) (hn : a + n <= m.length) :
  Calls prog 250 #[.pointer (some ⟨g, 0, none⟩), .int .i64 n] w (fun e w' => e = .returned (.string (bs ((m.take (a + n)).drop a))) /\ vB w' g m (a + n) /\ w.grownBy w' (some g)) := by
 have c0 := h.nf 0 rfl;have c1 := h.nf 1 rfl;have f1 := h.frozen 1;have hn' : (a : Int) + n <= m.length := ak;have hn2 : (n : Int) <= (m.length : Int) - a := ak;have e1 : ((a : Int) + n).toNat = a + n := ak;have e2 : ((a : Int) + n - n).toNat = a := ak;go_enter func250, ntmps250;go_wp2_with fail;go_quiet (fail);go_wp2_with fail;go_quiet (fail);go_wp2_with fail;go_ret;refine ⟨?_, ?_, sS (nT (sS (World.grownBy.refl _ _) _) _ _) _⟩
 ·simp
 ·
  have := fun i j => ((h.drewN i).set 1 (.int .i64 ((a + n : Nat) : Int))).drewN j
  simpa [vB] using this _ _
theorem Hf (g : Nat) (m : List UInt8) (a n : Nat) (w : World) (h : vB w g m a) (hl : m.length <= 65535) (ha : a <= m.length) (hn : m.length < a + n) (hn2 : n <= 100000) :
  Calls prog 250 #[.pointer (some ⟨g, 0, none⟩), .int .i64 n] w (fun e w' => e = .panicked (mstop 1) /\ w.grownBy w' (some g)) := by
 have c0 := h.nf 0 rfl;have c1 := h.nf 1 rfl;have hn' : (m.length : Int) - a < n := ak;go_enter func250, ntmps250;exact kO
theorem KM (w : World) : Calls prog 217 #[.int .i64 0] w (fun e w' => e = .returned (.tuple #[]) /\ w = w') := by
 go_enter func217, ntmps217;go_wp2_with fail;go_end0;exact ⟨rfl, rfl⟩
theorem AS (x : Int) (hx : x ≠ 0) (w : World) : Calls prog 217 #[.int .i64 x] w (fun e w' => e = .panicked (mstop x) /\ w = w') := by
 have hx' : (x != 0) = true := fS;clear hx;go_enter func217, ntmps217;go_wp2_with fail;exact ⟨rfl, rfl, rfl⟩
theorem Sv (m : List UInt8) (k p : Nat) (h : p + k <= m.length) : ((m.take (p + k)).drop p).length = k := by simp; omega
theorem sq (g : Nat) (m : List UInt8) (a k : Nat) (w : World) (h : vB w g m a) (hl : m.length <= 65535) (ha : a <= m.length) (hk : k = 2 \/ k = 4) :
  Calls prog 240 #[.pointer (some ⟨g, 0, none⟩), .int .i64 k] w (yV (fun _ v n => v = .int .i64 ((n : Nat) : Int)) g m w (qA m k a)) := by
 unfold qA;by_cases hs : m.length < a + k
 ·rw [if_pos hs];have T := Hh (Hf g m a k w h hl ha hs ak);go_enter func240, ntmps240;go_wp2_with fail;refine T.out.mono ?_;rintro _ w1 ⟨rfl, g1⟩;go_wp2_with fail;exact ⟨rfl, rfl, g1⟩
 ·
  rw [if_neg hs];have T := Hh (DJ g m a k w h hl ak);have hd := Sv m k a ak;have hhw : (hw (k : Int) : Int) = k := by rcases hk with rfl | rfl <;> rfl
  have hTV : rY ((m.take (a + k)).drop a) false ((hw (k : Int) : Nat) : Int) = (m.take (a + k)).drop a := by rw [hhw]; unfold rY; rw [Int.toNat_natCast, if_neg (by rw [hd]; simp), List.take_of_length_le ak]
  generalize (m.take (a + k)).drop a = d at *;go_enter func240, ntmps240;go_wp2_with fail;refine T.out.mono ?_;rintro _ w1 ⟨rfl, h1, g1⟩;go_wp2_with fail;refine (tF d w1).mono ?_;rintro _ w2 ⟨rfl, e2, b2⟩;have N := Hh (zf w1.heap.size d false (k : Int) w2 e2 aA);rw [hTV] at N;have R2 := h1.below b2 h1.lt;have hgn : g < w1.heap.size := h1.lt;have g2 := ns g1 (nG b2 none) (.inr (fun k hk => by cases hk));have hsz := g1.size;clear hTV e2 b2 T;generalize w1.heap.size = gy at *;go_wp2_with fail;refine N.out.mono ?_;rintro _ w3 ⟨rfl, e3, g3⟩;have R3 := R2.grown g3 al;have g3' := ns g2 g3 (.inr (fun k hk => by injection hk with hk; omega));go_wp2_with fail;go_ret;exact ⟨_, rfl, rfl, R3, g3', ak⟩
set_option maxHeartbeats 1000000 in
theorem DK (g : Nat) (m : List UInt8) (a : Nat) (w : World) (h : vB w g m a) (hl : m.length <= 65535) (ha : a <= m.length) :
  Calls prog 239 #[.pointer (some ⟨g, 0, none⟩)] w (yV vo g m w (nameAt m a)) := by
 have G := Hh (fun w => KB m a w ak);have c0 := h.nf 0 rfl;have c1 := h.nf 1 rfl;have hgl := h.lt;unfold zS at G;rcases u6 m a with ⟨l, n, h1, h2, h3, h4, h5⟩ | ⟨x, h1, h2, h3⟩;all_goals
  rw [h1] at G;rw [h2];go_enter func239, ntmps239;go_wp2_with fail;refine wp_region_held_drew (S := fun W => vB W g m a) (by kernel_rfl) h.drew (fun hS => ?_)
  (refine nF 0 (some 7) rfl rfl (by kernel_rfl) (by kernel_rfl) (by kernel_rfl) (fun _ _ _ h => h) (by kernel_rfl) (fun W hW => rfl) hS ?_; simp only [Act.put, nB, nC, nD])
  (refine nF 1 (some 8) rfl rfl (by kernel_rfl) (by kernel_rfl) (by kernel_rfl) (fun _ _ _ h => h) (by kernel_rfl) (fun W hW => rfl) hS ?_; simp only [Act.put, nB, nC, nD])
  (refine nF 2 (some 9) rfl rfl (by kernel_rfl) (by kernel_rfl) (by kernel_rfl) (fun _ _ _ h => h) (by kernel_rfl) (fun W hW => rfl) hS ?_; simp only [Act.put, nB, nC, nD])
  refine qf 3 (some 10) 9 (.tmp 9) ⟨g, 0, none⟩ rfl rfl rfl rfl (by kernel_rfl) (by kernel_rfl) (by kernel_rfl) (fun _ _ _ h => h) (by kernel_rfl) (fun W hW => nN underlying9 rfl (nj.nf hW 0 rfl)) hS ?_;simp only [Act.put, nB, nC, nD]
  (refine nF 4 (some 11) rfl rfl (by kernel_rfl) (by kernel_rfl) (by kernel_rfl) (fun _ _ _ h => h) (by kernel_rfl) (fun W hW => rfl) hS ?_; simp only [Act.put, nB, nC, nD])
  (refine nF 5 (some 12) rfl rfl (by kernel_rfl) (by kernel_rfl) (by kernel_rfl) (fun _ _ _ h => h) (by kernel_rfl) (fun W hW => rfl) hS ?_; simp only [Act.put, nB, nC, nD])
  (refine nF 6 (some 13) rfl rfl (by kernel_rfl) (by kernel_rfl) (by kernel_rfl) (fun _ _ _ h => h) (by kernel_rfl) (fun W hW => rfl) hS ?_; simp only [Act.put, nB, nC, nD])
  refine qf 7 (some 14) 3 (.tmp 13) ⟨g, 1, none⟩ rfl rfl rfl rfl (by kernel_rfl) (by kernel_rfl) (by kernel_rfl) (fun _ _ _ h => h) (by kernel_rfl) (fun W hW => nN underlying3 rfl (nj.nf hW 1 rfl)) hS ?_;simp only [Act.put, nB, nC, nD];refine oY 8 (some 15) 249 #[.string (bs m), .int .i64 (a : Int)] (by kernel_rfl) rfl rfl (by kernel_rfl) aS (G.out _) ?_;rintro _ w1 ⟨v, rfl, hT, k1', _⟩;have k1 : Below w.heap.size w w1 := nc (w := w.drew) (Below.refl _ _).drew (Nat.le_refl _) k1';have R1 : vB w1 g m a := nj.below h k1 hgl;refine ⟨_, rfl, R1, ?_⟩;clear hS;have hS := R1;simp only [Act.put, nB, nC, nD]
  (refine nF 9 (some 6) rfl rfl (by kernel_rfl) (by kernel_rfl) (by kernel_rfl) (fun _ _ _ h => h) (by kernel_rfl) (fun W hW => rfl) hS ?_; simp only [Act.put, nB, nC, nD])
  (refine nF 10 (some 16) rfl rfl (by kernel_rfl) (by kernel_rfl) (by kernel_rfl) (fun _ _ _ h => h) (by kernel_rfl) (fun W hW => rfl) hS ?_; simp only [Act.put, nB, nC, nD])
  (refine nF 11 (some 17) rfl rfl (by kernel_rfl) (by kernel_rfl) (by kernel_rfl) (fun _ _ _ h => h) (by kernel_rfl) (fun W hW => rfl) hS ?_; simp only [Act.put, nB, nC, nD])
  (refine nF 12 (some 18) rfl rfl (by kernel_rfl) (by kernel_rfl) (by kernel_rfl) (fun _ _ _ h => h) (by kernel_rfl) (fun W hW => rfl) hS ?_; simp only [Act.put, nB, nC, nD])
  (refine nF 13 (some 3) rfl rfl (by kernel_rfl) (by kernel_rfl) (by kernel_rfl) (fun _ _ _ h => h) (by kernel_rfl) (fun W hW => rfl) hS ?_; simp only [Act.put, nB, nC, nD])
  (refine nF 14 (some 4) rfl rfl (by kernel_rfl) (by kernel_rfl) (by kernel_rfl) (fun _ _ _ h => h) (by kernel_rfl) (fun W hW => rfl) hS ?_; simp only [Act.put, nB, nC, nD])
  (refine nF 15 (some 5) rfl rfl (by kernel_rfl) (by kernel_rfl) (by kernel_rfl) (fun _ _ _ h => h) (by kernel_rfl) (fun W hW => rfl) hS ?_; simp only [Act.put, nB, nC, nD])
  refine wpAnyH_done (by kernel_rfl) ?_ _;clear hS c0 c1 G k1'
 ·have N1 := vo.mk' hT h4 h5;simp only [VB, TP, goN] at *;go_wp2_with fail;refine (KM _).mono ?_;rintro _ w2 ⟨rfl, rfl⟩;go_wp2_with (refine nh (.store 3 (.tmp 24) (.tmp 22)) rfl (af rfl g 1 (.int .i64 (n : Int)) R1 ag pM ?_));intro w3 B3 g3 _;have N3 := N1.stays (nQ.oL g3 R1 aj);have gg := ns (nG k1 _) g3 (.inl rfl);go_wp2_with fail;go_ret;exact ⟨_, rfl, N3, B3, gg, h3⟩
 ·simp only [VB, TP, goN] at *;go_wp2_with fail;refine (AS x h3.ne _).mono ?_;rintro _ w2 ⟨rfl, rfl⟩;go_wp2_with fail;exact ⟨rfl, rfl, nG k1 _⟩
def QV (w : World) (v : Value) (q : Qn) : Prop := ∃ cs, v = .agg cs.toArray /\ AJ w cs q
def RV (w : World) (v : Value) (r : RR) : Prop := ∃ cs, v = .agg cs.toArray /\ rj w cs r
theorem yB {α : Type} {V : World -> Value -> α -> Prop} {g : Nat} {m : List UInt8} {w : World} {o : Except Int (α × Nat)} {x : Int} {e : Ending} {w' : World} (ho : o = .error x) (h : yV V g m w o e w') : e = .panicked (mstop x) /\ w.grownBy w' (some g) := by subst ho; exact h
theorem xV {α : Type} {V : World -> Value -> α -> Prop} {g : Nat} {m : List UInt8} {w : World} {o : Except Int (α × Nat)} {x : α} {p : Nat} {e : Ending} {w' : World} (ho : o = .ok (x, p)) (h : yV V g m w o e w') : ∃ v, e = .returned v /\ V w' v x /\ vB w' g m p /\ w.grownBy w' (some g) /\ p <= m.length := by subst ho; exact h
def qZ : List Value := [.slice none 0 0, .int .i64 0, .int .i64 0]
set_option maxHeartbeats 1000000 in
theorem CP (g : Nat) (m : List UInt8) (a : Nat) (w : World) (h : vB w g m a) (hl : m.length <= 65535) (ha : a <= m.length) :
  Calls prog 215 #[.pointer (some ⟨g, 0, none⟩)] w (yV QV g m w (qt m a)) := by
 have hgl : g < w.heap.size := nj.lt h;have kb : Below w.heap.size w (w.alloc (.cells #[.slice none 0 0, .int .i64 0, .int .i64 0] 28)) := eC;have R0 : vB (w.alloc (.cells #[.slice none 0 0, .int .i64 0, .int .i64 0] 28)) g m a := nj.below h kb hgl;have B0 := nj.new w 28 qZ;have G0 := nG kb (some g);have N1 := Hh (DK g m a _ R0 hl ha);unfold qt;cases h1 : nameAt m a with
 | error x => simp only;go_enter func215, ntmps215;go_wp2_with fail;refine N1.out.mono ?_;intro e w1 hr;obtain ⟨rfl, g1⟩ := yB h1 hr;go_wp2_with fail;exact ⟨rfl, rfl, ns G0 g1 (.inl rfl)⟩
 | ok y =>
 obtain ⟨nm, p1⟩ := y;simp only;cases h2 : qA m 2 p1 with
 | error x => simp only;go_enter func215, ntmps215;go_wp2_with fail;refine N1.out.mono ?_;intro e w1 hr;obtain ⟨v, rfl, nv, R1, g1, l1⟩ := xV h1 hr;have N2 := Hh (sq g m p1 2 w1 R1 hl l1 (.inl rfl));go_wp2_with fail;refine N2.out.mono ?_;intro e w2 hr;obtain ⟨rfl, g2⟩ := yB h2 hr;go_wp2_with fail;exact ⟨rfl, rfl, ns (ns G0 g1 (.inl rfl)) g2 (.inl rfl)⟩
 | ok y =>
 obtain ⟨ty, p2⟩ := y;simp only;cases h3 : qA m 2 p2 with
 | error x => simp only;go_enter func215, ntmps215;go_wp2_with fail;refine N1.out.mono ?_;intro e w1 hr;obtain ⟨v, rfl, nv, R1, g1, l1⟩ := xV h1 hr;have N2 := Hh (sq g m p1 2 w1 R1 hl l1 (.inl rfl));go_wp2_with fail;refine N2.out.mono ?_;intro e w2 hr;obtain ⟨v2, rfl, rfl, R2, g2, l2⟩ := xV h2 hr;have N3 := Hh (sq g m p2 2 w2 R2 hl l2 (.inl rfl));go_wp2_with fail;refine N3.out.mono ?_;intro e w3 hr;obtain ⟨rfl, g3⟩ := yB h3 hr;go_wp2_with fail;exact ⟨rfl, rfl, ns (ns (ns G0 g1 (.inl rfl)) g2 (.inl rfl)) g3 (.inl rfl)⟩
 | ok y =>
 obtain ⟨cl, p3⟩ := y;simp only;go_enter func215, ntmps215;go_wp2_with fail;refine N1.out.mono ?_;intro e w1 hr;obtain ⟨v, rfl, nv, R1, g1, l1⟩ := xV h1 hr;have N2 := Hh (sq g m p1 2 w1 R1 hl l1 (.inl rfl));have B1 := B0.grown g1 al;clear hr;go_wp2_with fail;refine N2.out.mono ?_;intro e w2 hr;obtain ⟨v2, rfl, rfl, R2, g2, l2⟩ := xV h2 hr;have N3 := Hh (sq g m p2 2 w2 R2 hl l2 (.inl rfl));have B2 := B1.grown g2 al;replace nv := nv.stays (nQ.oL g2 R1 aj);clear hr;go_wp2_with fail;refine N3.out.mono ?_;intro e w3 hr;obtain ⟨v3, rfl, rfl, R3, g3, l3⟩ := xV h3 hr;have B3 := B2.grown g3 al;replace nv := nv.stays (nQ.oL g3 R2 aj);have gg := ns (ns (ns G0 g1 (.inl rfl)) g2 (.inl rfl)) g3 (.inl rfl);obtain ⟨A, c, hv, -⟩ := nv.form;subst hv;clear hr N1 N2 N3 B0 B1 B2 R0 R1 R2 g1 g2 g3 G0 kb h h1 h2 h3;go_wp2_with (refine nh (.store 28 (.tmp 2) (.tmp 13)) rfl (ab rfl w.heap.size 0 [.slice A nm.length c, .int .i64 (ty : Int), .int .i64 (cl : Int)] B3 (by simp [qZ]) rD aJ ?_));intro w4 B4 g4 _;have R4 := nj.grown R3 g4 al;replace nv := nv.stays (nQ.oL g4 B3 aj);have gg4 : w.grownBy w4 (some g) := ns gg g4 (.inr (fun k hk => by injection hk with hk; omega));go_wp2_with fail;refine oP rfl w.heap.size rfl B4 _ underlying28 rfl rD rfl ?_;exact ⟨_, rfl, ⟨_, rfl, .slice A nm.length c, rfl, nv⟩, R4, gg4, l3⟩
theorem sr {α : Type} {V : World -> Value -> α -> Prop} {g : Nat} {m : List UInt8} {w : World} {o : Except Int (α × Nat)} {e : Ending} {w' : World} (h : yV V g m w o e w') :
  (∃ x, o = .error x /\ e = .panicked (mstop x) /\ w.grownBy w' (some g)) \/ (∃ x p v, o = .ok (x, p) /\ e = .returned v /\ V w' v x /\ vB w' g m p /\ w.grownBy w' (some g) /\ p <= m.length) := by
 cases o with
 | error x => exact .inl ⟨x, rfl, h⟩
 | ok y => obtain ⟨x, p⟩ := y; obtain ⟨v, h⟩ := h; exact .inr ⟨x, p, v, rfl, h⟩
theorem pw {a b c : World} {g : Nat} (h : a.grownBy b (some g)) (k : b.grownBy c (some g)) : a.grownBy c (some g) := ns h k (.inl rfl)
theorem MM {m : List UInt8} {p n q : Nat} (h : qA m 2 p = .ok (n, q)) : n < 65536 := by
 unfold qA at h;split at h
 ·cases h
 ·injection h with h; injection h with h1 h2;rw [<- h1]; exact xD _ 2 al
set_option maxHeartbeats 4000000 in
theorem Hg (g : Nat) (m : List UInt8) (a : Nat) (w : World) (h : vB w g m a) (hl : m.length <= 65535) (ha : a <= m.length) :
  Calls prog 241 #[.pointer (some ⟨g, 0, none⟩)] w (yV RV g m w (recAt m a)) := by
 have hgl : g < w.heap.size := nj.lt h;have kb : Below w.heap.size w (w.alloc (.cells pr.toArray 119)) := eC;have R0 : vB (w.alloc (.cells pr.toArray 119)) g m a := nj.below h kb hgl;have B0 := nj.new w 119 pr;have G0 := nG kb (some g);obtain ⟨w0, hw0⟩ : ∃ w0, w.alloc (.cells pr.toArray 119) = w0 := eE;rw [hw0] at R0 B0 G0;have HW : Hid (w.alloc (.cells #[.slice none 0 0, .int .i64 0, .int .i64 0, .int .i64 0, .int .i64 0, .int .u8 0, .int .u8 0, .int .u8 0, .int .u8 0, .int .u8 0, .int .u8 0, .int .u8 0, .int .u8 0, .int .u8 0, .int .u8 0, .int .u8 0, .int .u8 0, .int .u8 0, .int .u8 0, .int .u8 0, .int .u8 0, .int .i64 0, .slice none 0 0, .slice none 0 0, .int .i64 0, .int .i64 0, .int .i64 0, .int .i64 0, .int .i64 0, .int .i64 0, .int .i64 0, .int .i64 0, .string ⟨#[]⟩] 119) = w0) := Hh (by rw [<- hw0, KL]);have N1 := Hh (DK g m a _ R0 hl ha);clear hw0 kb h;go_enter func241, ntmps241;go_wp2_with fail;rw [HW.out];refine N1.out.mono ?_;intro e w1 hr;rcases sr hr with ⟨x, h1, rfl, g1⟩ | ⟨nm, p1, v, h1, rfl, nv, R1, g1, l1⟩
 ·go_wp2_with fail;exact ⟨rfl, by rw [show recAt m a = .error x by simp only [recAt, h1]]; exact ⟨rfl, pw G0 g1⟩⟩
 have G1 := pw G0 g1;have B1 := B0.grown g1 al;have N2 := Hh (sq g m p1 2 w1 R1 hl l1 (.inl rfl));clear hr N1 HW G0 B0 g1;go_wp2_with fail;refine N2.out.mono ?_;intro e w2 hr;rcases sr hr with ⟨x, h2, rfl, g2⟩ | ⟨ty, p2, v2, h2, rfl, rfl, R2, g2, l2⟩
 ·go_wp2_with fail;exact ⟨rfl, by rw [show recAt m a = .error x by simp only [recAt, h1, h2]]; exact ⟨rfl, pw G1 g2⟩⟩
 have G2 := pw G1 g2;have B2 := B1.grown g2 al;replace nv := nv.stays (nQ.oL g2 R1 aj);have N3 := Hh (sq g m p2 2 w2 R2 hl l2 (.inl rfl));clear hr N2 G1 B1 g2 R1;go_wp2_with fail;refine N3.out.mono ?_;intro e w3 hr;rcases sr hr with ⟨x, h3, rfl, g3⟩ | ⟨cl, p3, v3, h3, rfl, rfl, R3, g3, l3⟩
 ·go_wp2_with fail;exact ⟨rfl, by rw [show recAt m a = .error x by simp only [recAt, h1, h2, h3]]; exact ⟨rfl, pw G2 g3⟩⟩
 have G3 := pw G2 g3;have B3 := B2.grown g3 al;replace nv := nv.stays (nQ.oL g3 R2 aj);have N4 := Hh (sq g m p3 4 w3 R3 hl l3 (.inr rfl));clear hr N3 G2 B2 g3 R2;go_wp2_with fail;refine N4.out.mono ?_;intro e w4 hr;rcases sr hr with ⟨x, h4, rfl, g4⟩ | ⟨ttl, p4, v4, h4, rfl, rfl, R4, g4, l4⟩
 ·go_wp2_with fail;exact ⟨rfl, by rw [show recAt m a = .error x by simp only [recAt, h1, h2, h3, h4]]; exact ⟨rfl, pw G3 g4⟩⟩
 have G4 := pw G3 g4;have B4 := B3.grown g4 al;replace nv := nv.stays (nQ.oL g4 R3 aj);have N5 := Hh (sq g m p4 2 w4 R4 hl l4 (.inl rfl));clear hr N4 G3 B3 g4 R3;go_wp2_with fail;refine N5.out.mono ?_;intro e w5 hr;rcases sr hr with ⟨x, h5, rfl, g5⟩ | ⟨sz, p5, v5, h5, rfl, rfl, R5, g5, l5⟩
 ·go_wp2_with fail;exact ⟨rfl, by rw [show recAt m a = .error x by simp only [recAt, h1, h2, h3, h4, h5]]; exact ⟨rfl, pw G4 g5⟩⟩
 have G5 := pw G4 g5;have B5 := B4.grown g5 al;replace nv := nv.stays (nQ.oL g5 R4 aj);have hsz := MM h5;have c1 := nj.nf R5 1 rfl;clear hr N5 G4 B4 g5 R4;by_cases hs : m.length < p5 + sz
 case pos => have T := Hh (Hf g m p5 sz w5 R5 hl l5 hs ak);go_wp2_with fail;refine T.out.mono ?_;rintro _ w6 ⟨rfl, g6⟩;go_wp2_with fail;exact ⟨rfl, by rw [show recAt m a = .error 1 by simp only [recAt, h1, h2, h3, h4, h5, if_pos hs]]; exact ⟨rfl, pw G5 g6⟩⟩
 have T := Hh (DJ g m p5 sz w5 R5 hl ak);go_wp2_with fail;refine T.out.mono ?_;rintro _ w6 ⟨rfl, R6, g6⟩;have G6 := pw G5 g6;have B6 := B5.grown g6 al;replace nv := nv.stays (nQ.oL g6 R5 aj);have c0 := nj.nf R6 0 rfl;have GT := Hh (PB m p5 sz ty cl w6 ak ak);clear T G5 B5 g6 R5 c1;cases hgr : rJ m p5 sz ty cl with
 | error x => rw [hgr] at GT;go_wp2_with fail;refine GT.out.mono ?_;rintro _ w7 ⟨hx, rfl, b7⟩;have G7 : w.grownBy w7 (some g) := pj G6 b7;have hz7 := G7.size;clear GT B6 R6 c0 G6;go_wp2_with (refine nh (.store 119 (.tmp 9) (.tmp 38)) rfl (ab rfl w7.heap.size 0 pr (nj.ph _ _ pr _ rfl) aQ bB xU ?_));intro w8 B8 g8 _;have G8 : w.grownBy w8 (some g) := gi;clear B8 g8;go_wp2_with fail;refine (AS x hx _).mono ?_;rintro _ w9 ⟨rfl, rfl⟩;go_wp2_with fail;exact ⟨rfl, by rw [show recAt m a = .error x by simp only [recAt, h1, h2, h3, h4, h5, if_neg hs, hgr]]; exact ⟨rfl, G8⟩⟩
 | ok r0 =>
  rw [hgr] at GT;go_wp2_with fail;refine GT.out.mono ?_;rintro _ w7 ⟨cs, rfl, hO, b7⟩;have G7 : w.grownBy w7 (some g) := pj G6 b7;have hz7 := G7.size;have hcl := hO.len;have hc1 := Hh hO.one;have kn : Below w7.heap.size w7 (w7.alloc (.cells pr.toArray 119)) := eC;have R7 := (nj.below (nj.below R6 b7 (nj.lt R6)) kn (by have := nj.lt R6; have := b7.size; omega));have T7 := (B6.below b7 B6.lt).below kn (by have := B6.lt; have := b7.size; omega);replace nv := (nv.stays (nQ.below b7)).stays (nQ.below kn);replace hO := hO.stays (nQ.below kn);have Bn := nj.new w7 119 pr;have hT2 := B6.lt;have hb7 := b7.size;clear GT B6 R6 c0 G6 b7 kn;go_wp2_with (refine nh (.store 119 (.tmp 9) (.tmp 38)) rfl (ab rfl w7.heap.size 0 cs Bn aQ (by rw [hcl]; exact oG) hc1.out ?_));intro w8 B8 g8 _;rw [List.drop_of_length_le aQ, List.append_nil] at B8;have R8 := nj.grown R7 g8 al;have T8 := T7.grown g8 al;have G8 : w.grownBy w8 (some g) := gi;replace nv := nv.stays (nQ.oL g8 Bn aj);replace hO := hO.stays (nQ.oL g8 Bn aj);have hg9 : g < w7.heap.size := ak;have hw9 : w.heap.size < w7.heap.size := ak;clear R7 T7 G7 g8 Bn hc1 hT2 hb7 hz7;generalize w7.heap.size = g9 at *;go_wp2_with fail;refine (KM _).mono ?_;rintro _ w9 ⟨rfl, rfl⟩;obtain ⟨vn, vt, vm, hcs, hwf, n1, n2, n3, hraw⟩ := hO;have HCS := Hh hcs;clear hcs n1;obtain ⟨A, c, hv, -⟩ := nv.form;subst hv;go_wp2_with (refine nh (.store 26 (.tmp 46) (.tmp 42)) rfl (af rfl g9 0 (.slice A nm.length c) B8 ak rZ ?_));intro w9 B9 g9_ _;obtain ⟨M9, hM9⟩ : ∃ M, M = cs.set 0 (.slice A nm.length c) := eE;rw [<- hM9] at B9;have lM9 : M9.length = 33 := by rw [hM9, List.length_set]; exact hcl
  have HM9 := Hh hM9;clear hM9;have R9 := nj.grown R8 g9_ al;have T9 := T8.grown g9_ al;have G9 : w.grownBy w9 (some g) := ns G8 g9_ (.inr (fun k hk => by injection hk with hk; omega));replace nv := nv.stays (nQ.oL g9_ B8 aj);replace n2 := n2.stays (nQ.oL g9_ B8 aj);replace n3 := n3.stays (nQ.oL g9_ B8 aj);clear R8 T8 G8 g9_ B8;go_wp2_with (refine nh (.store 3 (.tmp 47) (.tmp 43)) rfl (af rfl g9 1 (.int .i64 (ty : Int)) B9 ak pM ?_));intro wx Bx gx _;obtain ⟨Mx, hMx⟩ : ∃ M, M = M9.set 1 (.int .i64 (ty : Int)) := eE;rw [<- hMx] at Bx;have lMx : Mx.length = 33 := by rw [hMx, List.length_set]; exact lM9
  have HMx := Hh hMx;clear hMx;have Rx := nj.grown R9 gx al;have Tx := T9.grown gx al;have Gx : w.grownBy wx (some g) := ns G9 gx (.inr (fun k hk => by injection hk with hk; omega));replace nv := nv.stays (nQ.oL gx B9 aj);replace n2 := n2.stays (nQ.oL gx B9 aj);replace n3 := n3.stays (nQ.oL gx B9 aj);clear R9 T9 G9 gx B9;go_wp2_with (refine nh (.store 3 (.tmp 48) (.tmp 44)) rfl (af rfl g9 2 (.int .i64 (cl : Int)) Bx ak pM ?_));intro wy By gy _;obtain ⟨My, hMy⟩ : ∃ M, M = Mx.set 2 (.int .i64 (cl : Int)) := eE;rw [<- hMy] at By;have lMy : My.length = 33 := by rw [hMy, List.length_set]; exact lMx
  have HMy := Hh hMy;clear hMy;have Ry := nj.grown Rx gy al;have Ty := Tx.grown gy al;have Gy : w.grownBy wy (some g) := ns Gx gy (.inr (fun k hk => by injection hk with hk; omega));replace nv := nv.stays (nQ.oL gy Bx aj);replace n2 := n2.stays (nQ.oL gy Bx aj);replace n3 := n3.stays (nQ.oL gy Bx aj);clear Rx Tx Gx gy Bx;go_wp2_with (refine nh (.store 3 (.tmp 49) (.tmp 45)) rfl (af rfl g9 3 (.int .i64 (ttl : Int)) By ak pM ?_));intro wz Bz gz _;obtain ⟨Mz, hMz⟩ : ∃ M, M = My.set 3 (.int .i64 (ttl : Int)) := eE;rw [<- hMz] at Bz;have lMz : Mz.length = 33 := by rw [hMz, List.length_set]; exact lMy
  have HMz := Hh hMz;clear hMz;have Rz := nj.grown Ry gz al;have Tz := Ty.grown gz al;have Gz : w.grownBy wz (some g) := ns Gy gz (.inr (fun k hk => by injection hk with hk; omega));replace nv := nv.stays (nQ.oL gz By aj);replace n2 := n2.stays (nQ.oL gz By aj);replace n3 := n3.stays (nQ.oL gz By aj);clear Ry Ty Gy gz By;have hMz : Mz = pO (.slice A nm.length c) vt vm { r0 with name := nm, ty := ty, cl := cl, ttl := ttl } := by rw [HMz.out, HMy.out, HMx.out, HM9.out, HCS.out]; rfl
  have OW : rj wz Mz { r0 with name := nm, ty := ty, cl := cl, ttl := ttl } := ⟨_, vt, vm, hMz, ⟨hwf.1, hwf.2⟩, nv, n2, n3, hraw⟩;have RE : Hid (recAt m a = .ok ({ r0 with name := nm, ty := ty, cl := cl, ttl := ttl }, p5 + sz)) := Hh (by simp only [recAt, h1, h2, h3, h4, h5, if_neg hs, hgr]);generalize ({ r0 with name := nm, ty := ty, cl := cl, ttl := ttl } : RR) = r9 at *;have o1 := Hh OW.one;clear HMz HMy HMx HM9 HCS hMz nv n2 n3 hwf hraw h1 h2 h3 h4 h5 hgr;go_wp2_with (first
   | (refine nh (.load 119 (.tmp 9)) rfl ?_; go_must (refine ni rfl _ _ rfl g9 0 rfl Bz 33 ak _ underlying119 rfl oG Mz (qj ak) ?_))
   | (refine nh (.store 119 (.tmp 2) (.tmp 50)) rfl (ab rfl w.heap.size 0 Mz Tz aQ (by rw [lMz]; exact oG) o1.out ?_)))
  intro wq Bq gq _;rw [List.drop_of_length_le aQ, List.append_nil] at Bq;have Rq := nj.grown Rz gq al;have Gq : w.grownBy wq (some g) := ns Gz gq (.inr (fun k hk => by injection hk with hk; omega));have Oq := OW.stays (nQ.oL gq Tz aj);clear Rz Gz Tz Bz gq OW;go_wp2_with fail;refine oP rfl w.heap.size rfl Bq _ underlying119 rfl (by rw [lMz]; exact oG) rfl ?_;rw [RE.out];exact ⟨_, rfl, ⟨Mz, rfl, Oq⟩, Rq, Gq, ak⟩
theorem Hi (place : Nat) : ∀ (cs : List Value) (k : Nat) (base : List Value), k + cs.length <= base.length ->
  (cs.zipIdx k).foldl (fun (b : List Value) x => b.set (0 + x.2) x.1) base = base.take k ++ cs ++ base.drop (k + cs.length)
 | [], k, base, h => by simp
 | c :: cs, k, base, h => by
  have hk : k < base.length := by simp at h; omega
  rw [List.zipIdx_cons, List.foldl_cons, Nat.zero_add, Hi place cs (k + 1) (base.set k c) (by simp at h ⊢; omega)];have e1 : (base.set k c).take (k + 1) = base.take k ++ [c] := by rw [List.take_succ_eq_append_getElem aP];simp [List.take_set];exact List.set_eq_of_length_le al
  have e2 : (base.set k c).drop (k + 1 + cs.length) = base.drop (k + 1 + cs.length) := List.drop_set_of_lt ak;rw [e1, e2];simp [Nat.add_assoc, Nat.add_comm 1]
theorem PC (cs : List (Value × Nat)) : ∀ (base : List Value), (cs.foldl (fun (b : Array Value) x => b.setIfInBounds (0 + x.2) x.1) base.toArray) = (cs.foldl (fun (b : List Value) x => b.set (0 + x.2) x.1) base).toArray := by
 induction cs with
 | nil => intro base; rfl
 | cons c cs ih => intro base; rw [List.foldl_cons, List.foldl_cons, List.setIfInBounds_toArray, ih]
theorem xW (n : Nat) (base : List Value) (cs : List Value) (h1 : cs.length = n) (h2 : base.length = n) : Instr.fill (fun i => some (i * n, n)) base.toArray [(0, .agg cs.toArray)] = some cs.toArray := by
 have hc : (Value.agg cs.toArray).cells = cs.toArray := rfl;unfold Instr.fill;simp only [Nat.zero_mul, hc, List.size_toArray, h1, h2];rw [if_neg ag];unfold Instr.fill;have e : (cs.toArray.zipIdx.foldl (fun (b : Array Value) x => b.setIfInBounds (0 + x.2) x.1) base.toArray) = cs.toArray := by rw [<- Array.foldl_toList, Array.toList_zipIdx, List.toList_toArray, PC, Hi 0 cs 0 base ak];rw [List.take_zero, List.nil_append, List.drop_of_length_le ak, List.append_nil]
 exact congrArg some e
theorem JG {ops : Array Oper} {rest : List Oper} {o : Oper} {a : Act} {w : World} {Q : Exit -> Act -> World -> Prop} (hg : o.guard = none) (x : Operand) (ho : o.op = .buildSlice 48 1 #[(0, x)]) (cs : List Value) (hx : a.eval x = .agg cs.toArray) (hl : cs.length = 33)
  (h : wpList prog ops Q rest (a.put o.dst (.slice (some ⟨w.heap.size, 0, none⟩) 1 1)) (w.alloc (.cells cs.toArray 119))) : wpList prog ops Q (o :: rest) a w := by
 obtain ⟨i, hi, hz, hsize, hby⟩ := info_parts KI;refine wpList_buildSlice hg 48 119 1 #[(0, x)] ho cs.toArray i _ underlying48 hi hz bD bD ?_ h;rw [hsize];have e : ((#[(0, x)] : Array (Nat × Operand)).map fun (i, x) => (i, a.eval x)).toList = [(0, .agg cs.toArray)] := by simp [hx]
 rw [e];have := xW 33 ((Array.range (1 * 33)).map ((Value.agg pr.toArray).cells[· % (Value.agg pr.toArray).cells.size]!)).toList cs hl ag;exact lR
theorem oz.app {w1 w2 : World} {B : Nat} {v v' : Value} {l : List RR} {cs : List Value} {r : RR} {css : List (List Value)} (h : tq (rj w1) css l) (hr : rj w1 cs r) (hs : nQ w1 w2) (ho : w2.ownsRow B 119 33 v' (l.length + 1) (css.flatten ++ cs)) : oz w2 B v' (l ++ [r]) := by
 exact mr
set_option maxHeartbeats 2000000 in
theorem u7 (g : Nat) (m : List UInt8) (a n : Nat) (w : World) (h : vB w g m a) (hl : m.length <= 65535) (ha : a <= m.length) (hn : n <= 65535) :
  Calls prog 216 #[.pointer (some ⟨g, 0, none⟩), .int .i64 n] w (yV (fun w' v l => oz w' w.heap.size v l /\ l.length <= n) g m w (oD (recAt m) n a)) := by
 have hgl : g < w.heap.size := nj.lt h;obtain ⟨O, hO⟩ : ∃ O, O = oD (recAt m) n a := eE;rw [<- hO];have HO : Hid (qQ [] (oD (recAt m) (n - 0) a) = O) := Hh (by rw [AH, hO]; rfl);clear hO;go_enter func216, ntmps216;go_wp2_with fail;go_loopw [5, 7] (fun lv iv wr => ∃ (k : Nat) (acc : List RR) (p : Nat), k <= n /\ iv = .int .i64 k /\ acc.length = k /\ oz wr w.heap.size lv acc /\ vB wr g m p /\ p <= m.length /\ w.grownBy wr (some g) /\ Hid (qQ acc (oD (recAt m) (n - k) p) = O)) (fun _ iv _ => n - (intOf iv).toNat)
 case atStart => exact ⟨0, [], a, Nat.zero_le _, rfl, rfl, oz.nil _ _, h, ha, World.grownBy.refl _ _, HO⟩
 clear HO h ha;obtain ⟨k, acc, p, hk, rfl, hal, oR, R, lp, G, HO⟩ := hrel;have HAL := Hh hal;have hale : acc.length <= 65535 := ak;clear hal;have hsz := G.size;by_cases hlt : k < n
 case pos =>
  have hlt' : (k : Int) < n := ak;have e1 : n - k = (n - (k + 1)) + 1 := ak;rw [e1] at HO;have RC := Hh (Hg g m p wr R hl lp);obtain ⟨A, c, hv⟩ := oR.form;subst hv;go_wp2_with fail;refine RC.out.mono ?_;intro e w1 hr;rcases sr hr with ⟨x, h1, rfl, g1⟩ | ⟨r, p', v, h1, rfl, ⟨cs, rfl, hO'⟩, R1, g1, l1⟩
  ·
   obtain rfl : O = .error x := by rw [<- HO.out]; exact DF h1
   go_wp2_with fail;exact ⟨rfl, rfl, pw G g1⟩
  have o1 := oR.oL g1 R aj aj;have G1 := pw G g1;have HO1 : Hid (qQ (acc ++ [r]) (oD (recAt m) (n - (k + 1)) p') = O) := Hh (by rw [<- DD h1]; exact HO.out);have hcl := hO'.len;have hc1 := Hh hO'.one;clear hr RC oR R lp G HO g1 h1 hsz;have kn : Below w1.heap.size w1 (w1.alloc (.cells cs.toArray 119)) := eC;obtain ⟨css, ow, hE⟩ := o1;have ow2 := pC ow kn;have Bn := nj.new w1 119 cs;have hrg : (w1.alloc (.cells cs.toArray 119)).rangeAt w1.heap.size 0 cs := by have := Bn.range 0 33 ak;rwa [List.drop_zero, List.take_of_length_le ak] at this
  have G2 := rX G1 (.cells cs.toArray 119);have hs1 := G1.size;have R2 := nj.below R1 kn (nj.lt R1);replace hE := hE.mono (fun _ _ x => x.stays (nQ.below kn));replace hO' := hO'.stays (nQ.below kn);go_wp2_with (first
   | (refine nh (.buildSlice 48 1 #[(0, .tmp 11)]) rfl ?_; go_must (refine JG rfl (.tmp 11) rfl cs rfl hcl ?_))
   | (at_builtin; go_must (refine GQ _ rfl (.tmp 9) (.tmp 12) rfl w.heap.size _ acc.length css.flatten rfl ow2 al (some ⟨w1.heap.size, 0, none⟩) 1 1 cs rfl (fun _ => ⟨w1.heap.size, 0, rfl, hrg⟩) ak hc1.out ak (acc.length + 1) rfl ?_)))
  intro A' c' w2 o2 g2;have S2 := nQ.own ow2 aj g2;have o3 : oz w2 w.heap.size (.slice A' (acc.length + 1) c') (acc ++ [r]) := oz.app (v := .slice none 0 0) hE hO' S2 o2;have R3 : vB w2 g m p' := pE R2 ow2 aj g2;have G3 : w.grownBy w2 (some g) := ns G2 g2 (.inr (fun k hk => sf ow2 k hk));clear R1 R2 G1 G2 ow ow2 hE hO' Bn hrg S2 g2 o2 kn hc1 hcl;go_wp2_with fail;go_roundw
  case rel => exact ⟨k + 1, acc ++ [r], p', ak, eh, by simp [HAL.out], o3, R3, l1, G3, HO1⟩
  case measure => simp [intOf]; omega
 obtain rfl : k = n := ak;have hlt' : ¬ (k : Int) < k := ak;obtain rfl : O = .ok (acc, p) := iy;clear hlt hk HO;go_wp2_with fail;go_ret;exact ⟨_, rfl, ⟨oR, by have := HAL.out; omega⟩, R, G, lp⟩
theorem MN (p q : Addr) (w : World) :
  CallsD prog 214 #[.pointer (some p), .pointer (some q)] .returning w fun e u' w' => e = .returned (.tuple #[]) /\ u' = .returning /\ w' = w := by
 refine callsD_of_wpS func214 rfl fun c₀ cs hu => ?_
 apply wpS_seq;apply wpS_region;simp [wpOpsS, go_sem, recoverD, hu, ntmps214, Exit.thenS];refine Dr hu ?_;refine zp [.pointer (some p), .pointer (some q), .nilIface, undef, undef, .nilIface, undef, undef, undef, undef, undef, undef, undef, undef, undef, undef, undef, undef, undef] aI ?_;exact lE
theorem AU : (prog.info? 142).map (·.size) = some 1 := by kernel_rfl
theorem vP : ∀ v ∈ nR, v.oneCell' = true := vM _ rfl rfl rfl rfl
set_option maxHeartbeats 1000000 in
theorem MO (b0 : Nat) (L : List Value) (hL : L.length = 14) (v1 : Value) (x : Int) (w : World) (h0 : nj w b0 50 L) (h1 : nj w (b0 + 1) 142 [v1]) :
  CallsD prog 214 #[.pointer (some ⟨b0, 0, none⟩), .pointer (some ⟨b0 + 1, 0, none⟩)] (.panicking (mstop x)) w fun e u' w' =>
   e = .returned (.tuple #[]) /\ u' = .panicking [{ v := .iface 324 (.agg #[.int .i64 x]), recovered := true }] /\ nj w' b0 50 nR /\ nj w' (b0 + 1) 142 [.int .i64 x] /\ Below b0 w w' := by
 have hTa : ∀ w : World, (Instr.typeAssert (.iface 324 (.agg #[.int .i64 x])) 20 324 true).run prog w = .ok (.tuple #[.agg #[.int .i64 x], .bool true]) w := fun _ => by kernel_rfl
 have l0 := h0.lt;have l1 := h1.lt;refine callsD_of_wpS func214 rfl fun c₀ cs hu => ?_
 unfold mstop at hu;apply wpS_seq;apply wpS_region;simp [wpOpsS, go_sem, recoverD, hu, ntmps214, Exit.thenS];refine zR (u' := .panicking [{ v := .iface 324 (.agg #[.int .i64 x]), recovered := true }]) ?_;refine zp [.pointer (some ⟨b0, 0, none⟩), .pointer (some ⟨b0 + 1, 0, none⟩), .iface 324 (.agg #[.int .i64 x]), undef, undef, .iface 324 (.agg #[.int .i64 x]), undef, undef, undef, undef, undef, undef, undef, undef, undef, undef, undef, undef, undef] aI ?_;clear hu;have kn : Below w.heap.size w (w.alloc (.cells #[.int .i64 x] 324)) := eC;have Bs := nj.new w 324 [.int .i64 x];have C0 := h0.below kn l0;have C1 := h1.below kn l1;have kb : Below b0 w (w.alloc (.cells #[.int .i64 x] 324)) := kn.mono ak;obtain ⟨w1, hw1⟩ : ∃ w1, w1 = w.alloc (.cells #[.int .i64 x] 324) := eE;have HW := Hh hw1;rw [<- hw1] at Bs C0 C1 kb;clear hw1 kn h0 h1;go_wp2_with fail;rw [<- HW.out];clear HW;refine wp_region_held_drew (S := fun W => W.cell? ⟨w.heap.size, 0, none⟩ = some (.int .i64 x)) (by kernel_rfl) (Bs.nf 0 rfl) (fun hS => ?_);refine nF 0 (some 16) (v := .agg nR.toArray) rfl rfl (by kernel_rfl) (by kernel_rfl) (by kernel_rfl) (fun _ _ _ h => h) (by kernel_rfl) (fun W hW => by kernel_rfl) hS ?_;simp only [Act.put, nB, nC, nD]
 (refine nF 1 (some 17) rfl rfl (by kernel_rfl) (by kernel_rfl) (by kernel_rfl) (fun _ _ _ h => h) (by kernel_rfl) (fun W hW => rfl) hS ?_; simp only [Act.put, nB, nC, nD])
 refine qf 2 (some 18) 142 (.tmp 17) ⟨w.heap.size, 0, none⟩ rfl rfl rfl rfl (by kernel_rfl) (by kernel_rfl) (by kernel_rfl) (fun _ _ _ h => h) (by kernel_rfl) (fun W hW => nN underlying142 rfl hW) hS ?_;simp only [Act.put, nB, nC, nD];refine pG 3 none 50 (.tmp 0) (.tmp 16) (by kernel_rfl) rfl rfl rfl (by kernel_rfl) b0 0 rfl nR rfl C0.drew (by rw [hL]; decide) oy vP ?_;intro w2 B2 g2 _;rw [vJ (by rw [hL]; rfl)] at B2;have D1 := (C1.drew).grown g2 ag;have S2 := (Bs.drew).grown g2 al;have k2 : Below b0 w w2 := ng (w := w1.drew) kb.drew g2 (by have := kb.size; simp; omega) (Nat.le_refl _);refine ⟨S2.nf 0 rfl, ?_⟩;simp only [Act.put, nB, nC, nD];refine nJ 4 (by kernel_rfl) ?_;refine ri 4 142 (.tmp 1) (.tmp 18) rfl rfl rfl (by kernel_rfl) (b0 + 1) 0 rfl (.int .i64 x) rfl D1 ag AU rfl rfl ?_;intro w3 B3 g3 _;have E0 := B2.grown g3 ag;have S3 := S2.grown g3 al;have k3 : Below b0 w w3 := ng k2 g3 (by have := k2.size; omega) ak;refine ⟨S3.nf 0 rfl, ?_⟩;simp only [Act.put, nB, nC, nD];refine wpAnyH_done (by kernel_rfl) ?_ _;go_wp2_with fail;go_end0;first | exact ⟨rfl, rfl, E0, B3, k3⟩ | exact ⟨rfl, E0, B3, k3⟩
theorem yC {P : Program} {ops : Array Oper} {Q : Exit -> Act -> World -> Prop} {K : Act -> World -> Prop} {o : Oper} {a : Act} {w : World} (i : Nat) (f : FuncId) (vs : Array Value) (hi : ops[i]? = some o) (hw : Region.wanted o (yielded ops a.tmps) = true) (he : (execOp a.eval o).run P w = .ok (.enter f vs) w)
  {R : Ending -> World -> Prop} (hc : Calls P f vs w R) (h : ∀ e w', R e w' -> ∃ ch, e = .panicked ch /\ Q (.panic ch) a w') : wpOp P ops Q i K a w := by
 unfold wpOp;simp only [hi, hw, if_true];left;unfold Oper.wp;rw [he];simp only [Oper.upon];refine hc.mono fun e w' hR => ?_
 obtain ⟨ch, rfl, h'⟩ := h e w' hR;exact h'
def AV (o : Except Int oh) (w : World) (e : Ending) (w' : World) : Prop :=
 match o with
 | .error x => x ≠ 0 /\ e = .returned (.tuple #[.agg nR.toArray, .int .i64 x]) /\ Below w.heap.size w w'
 | .ok m => ∃ cs, e = .returned (.tuple #[.agg cs.toArray, .int .i64 0]) /\ nL w' cs m /\ Below w.heap.size w w'
theorem xi {tmps : Array Value} {R : Ending -> World -> Prop} {w : World} {b0 : Nat} {L : List Value} {x : Int} (h2 : tmps.getD 2 undef = .pointer (some ⟨b0, 0, none⟩)) (h3 : tmps.getD 3 undef = .pointer (some ⟨b0 + 1, 0, none⟩)) (hb : nj w b0 50 L) (hl : L.length = 14) (he : nj w (b0 + 1) 142 [.int .i64 x]) (hR : R (.returned (.tuple #[.agg L.toArray, .int .i64 x])) w) :
  Leaves prog f179 tmps R [] .returning w := by
 have e1 := run_loadVar_row (P := prog) w b0 50 50 L.toArray (0, 0) _ hb underlying50 rfl (by rw [List.size_toArray, hl]; exact oy);have c1 := he.nf 0 rfl;have h2' : tmps[2]?.getD undef = .pointer (some ⟨b0, 0, none⟩) := en;have h3' : tmps[3]?.getD undef = .pointer (some ⟨b0 + 1, 0, none⟩) := jx;have e2 : (loadVar 142 ⟨b0 + 1, 0, none⟩).run prog w = .ok (.int .i64 x) w := by simp [loadVar, isAgg, run_underlying underlying142, c1, go_sem]
 refine ⟨_, ?_, hR⟩;simp [results, Tryz.results179, asAddr, h2', h3', e1, e2]
theorem EY (m : List UInt8) (w : World) (hm : 65535 < m.length) (hl : m.length <= maxLen) : Calls prog 179 #[.string (bs m)] w (AV (.error 3) w) := by
 have hm' : (65535 : Int) < m.length := ak;have hmf : ∀ (fn : Fn) (first cap : Array Value) (w : World), (Instr.makeFunc fn first cap).run prog w = .ok (.func fn first cap) w := gY;clear hm;go_enter_defers func179, ntmps179;go_wp2_with fail;simp [bodyPostD, Leaves, results, Tryz.results179, go_sem];exact ⟨aj, rfl, ((Below.refl _ _).alloc (Nat.le_refl _) _).alloc ag _⟩
theorem CQ (m : List UInt8) (w : World) (hm : m.length < 12) : Calls prog 179 #[.string (bs m)] w (AV (.error 1) w) := by
 have hm' : ¬ (65535 : Int) < m.length := ak;have hmf : ∀ (fn : Fn) (first cap : Array Value) (w : World), (Instr.makeFunc fn first cap).run prog w = .ok (.func fn first cap) w := gY;have H := Hh (fun w => CG m w hm);unfold Hd.agg Hd.zero uu at H;clear hm;go_enter_defers func179, ntmps179;go_wp2_with fail;refine (H.out _).mono ?_;rintro _ w1 ⟨rfl, b1⟩;have b0 : ∀ o1 o2, Below w.heap.size w ((w.alloc o1).alloc o2) := fg;have HB := nc (b0 _ _) al b1;have BM' : nj w1 w.heap.size 50 nR := jz;have BE' : nj w1 (w.heap.size + 1) 142 [.int .i64 0] := gB;have kk : ∀ o1 o2, Below w1.heap.size w1 ((w1.alloc o1).alloc o2) := fg;have hsz : w.heap.size + 2 <= w1.heap.size := by have := BE'.lt; omega
 clear b1 b0 H;go_wp2_with (refine nh (.store 50 (.tmp 2) (.tmp 20)) rfl (ab rfl w.heap.size 0 nR (BM'.below (kk _ _) BM'.lt) aj oy vP ?_));intro w2 B2 g2 _;have E2 := (BE'.below (kk _ _) BE'.lt).grown g2 ag;have b2 := ng (nc HB HB.size (kk _ _)) g2 al (Nat.le_refl _);clear BM' BE' kk g2 HB;go_wp2_with (refine nh (.store 142 (.tmp 3) (.tmp 21)) rfl (af rfl (w.heap.size + 1) 0 (.int .i64 1) E2 ag AU ?_));intro w3 E3 g3 _;have B3 := B2.grown g3 ag;have b3 := ng b2 g3 b2.size ak;clear B2 E2 b2 g3;go_wp2_with fail;refine xi rfl rfl B3 rfl E3 ?_;exact ⟨aj, rfl, b3⟩
theorem PD : (prog.info? 28).map (fun i => (i.zero, i.size, i.bytes)) = some (some (.agg qZ.toArray), 3, 40) := by kernel_rfl
theorem wI (w : World) (cs : List Value) (hl : cs.length = 3) : (Instr.buildSlice 47 1 #[(0, .agg cs.toArray)]).run prog w = .ok (.slice (some ⟨w.heap.size, 0, none⟩) 1 1) (w.alloc (.cells cs.toArray 28)) := by
 obtain ⟨i, hi, hz, hsize, hby⟩ := info_parts PD;refine run_buildSlice w 47 28 1 _ cs.toArray i _ underlying47 hi hz bD bD ?_;rw [hsize];have := xW 3 ((Array.range (1 * 3)).map ((Value.agg qZ.toArray).cells[· % (Value.agg qZ.toArray).cells.size]!)).toList cs hl ag;exact lR
theorem uJ (w : World) (ty : TypeId) (B : Nat) (v : Value) (n : Nat) (xs : List Value) (hown : w.ownsRow B 28 3 v n xs) (hB : B <= w.heap.size) (b c : Nat) (news : List Value) (hr : w.rangeAt b 0 news) (hl : news.length = 3) (h1 : ∀ u ∈ news, u.oneCell' = true) (hb : n <= 300000) :
  ∃ v' w', (Builtin.append_ #[47, 47] ty #[v, .slice (some ⟨b, 0, none⟩) 1 c]).run prog w = .ok v' w' /\ w'.ownsRow B 28 3 v' (n + 1) (xs ++ news) /\ w.grownBy w' v.ownBlock := by
 obtain ⟨i, hi, hz, hsize, hby⟩ := info_parts PD;obtain ⟨v', w', hr, h2, h3, _, h5⟩ := run_append_own_at (P := prog) w B 47 ty 28 i _ 3 40 underlying47 hi hz hsize hby rfl ak v n xs hown ⟨b, 0, none⟩ 1 c news ak (fun j u hu => by
  have hadd : (⟨b, 0, none⟩ : Addr).add j = ⟨b, 0 + j, none⟩ := eU;rw [hadd]; exact hr j u hu) h1 aA ak hB
 exact mK
theorem tO {w w' : World} {v v' x : Value} {ty : TypeId} {o : Oper} {a : Act} (sl y : Operand) (ho : o.op = .call { callee := .builtin .append, args := #[sl, y], argTypes := #[47, 47] }) (hty : o.type = ty) (hs : a.eval sl = v) (hy : a.eval y = x)
  (hr : (Builtin.append_ #[47, 47] ty #[v, x]).run prog w = .ok v' w') : (execOp a.eval o).run prog w = .ok (.value v') w' := by
 exact kq
theorem uK {w w' : World} {v v' : Value} {o : Oper} {a : Act} (x : Operand) (ho : o.op = .buildSlice 47 1 #[(0, x)]) (hx : a.eval x = v) (hr : (Instr.buildSlice 47 1 #[(0, v)]).run prog w = .ok v' w') : (execOp a.eval o).run prog w = .ok (.value v') w' := by
 exact kD
theorem pW.app {w1 w2 : World} {B : Nat} {v' : Value} {l : List Qn} {cs : List Value} {r : Qn} {css : List (List Value)} (h : tq (AJ w1) css l) (hr : AJ w1 cs r) (hs : nQ w1 w2) (ho : w2.ownsRow B 28 3 v' (l.length + 1) (css.flatten ++ cs)) : pW w2 B v' (l ++ [r]) := by
 exact mr
end Go.Proofs.YthnbcmlnpdabhaaGreat

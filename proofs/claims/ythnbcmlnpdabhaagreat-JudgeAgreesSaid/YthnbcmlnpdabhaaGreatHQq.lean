/-
  Great and small letters: ascii.small, Same; domain.Same.
-/
import Derived.Test.YthnbcmlnpdabhaaGreatHPq
namespace Go.Proofs.YthnbcmlnpdabhaaGreat
open _root_.Go.Proofs.Tryz
open Go.RowKit
set_option maxRecDepth 100000
set_option linter.unusedVariables false
set_option linter.unusedSimpArgs false
def ya (c : UInt8) : UInt8 := if 65 <= c.toNat /\ c.toNat <= 90 then UInt8.ofNat (c.toNat + 32) else c
def td (l : List UInt8) : List UInt8 := l.map ya
def ss (n : List (List UInt8)) : List (List UInt8) := n.map td
theorem Qa {c : UInt8} (h : 65 <= c.toNat /\ c.toNat <= 90) : (ya c).toNat = c.toNat + 32 := by
 unfold ya; rw [if_pos h, UInt8.toNat_ofNat']; omega
theorem SJ {c : UInt8} (h : ¬ (65 <= c.toNat /\ c.toNat <= 90)) : ya c = c := by unfold ya; rw [if_neg h]
theorem Ie (l : List UInt8) : (td l).length = l.length := by simp [td]
theorem Ig (l : List (List UInt8)) : (ss l).length = l.length := by simp [ss]
theorem D6 (c : UInt8) (w : World) : Calls prog 252 #[.int .u8 (c.toNat : Int)] w (rN (.int .u8 ((ya c).toNat : Int)) w) := by
 have hc := c.toNat_lt;by_cases h : 65 <= c.toNat /\ c.toNat <= 90
 ·have e := Qa h;rw [e];obtain ⟨h1, h2⟩ := h;have h1' : (65 : Int) <= c.toNat := ak;have h2' : (c.toNat : Int) <= 90 := ak;clear e h1 h2;generalize c.toNat = k at *;go_enter func252, ntmps252;go_wp2_with fail;go_ret;exact rN.mk (ru ak) rfl
 ·
  rw [SJ h];by_cases h1 : 65 <= c.toNat
  ·
   have h2 : ¬ c.toNat <= 90 := fun h2 => h ⟨h1, h2⟩
   have h1' : (65 : Int) <= c.toNat := ak;have h2' : ¬ (c.toNat : Int) <= 90 := ak;clear h h1 h2;generalize c.toNat = k at *;go_enter func252, ntmps252;exact j2
  ·have h1' : ¬ (65 : Int) <= c.toNat := ak;clear h h1;generalize c.toNat = k at *;go_enter func252, ntmps252;exact j2
theorem SK {a b : List UInt8} {k : Nat} (ha : k < a.length) (hb : k < b.length) (h : ya a[k] ≠ ya b[k]) : td a ≠ td b := by
 intro e;have := congrArg (fun l : List UInt8 => l[k]?) e;simp [td, ha, hb] at this;exact h this
theorem SO {a b : List UInt8} (hl : a.length = b.length) (h : ∀ i (ha : i < a.length) (hb : i < b.length), ya a[i] = ya b[i]) : td a = td b := by
 refine List.ext_getElem (by simp [td, hl]) fun i h1 h2 => ?_
 simp only [td, List.getElem_map];exact h i (by simpa [td] using h1) (by simpa [td] using h2)
set_option maxHeartbeats 2000000 in
theorem Ng (a b : List UInt8) (w : World) (ha : a.length <= maxLen) (hb : b.length <= maxLen) :
  Calls prog 242 #[.string (bs a), .string (bs b)] w (nM (.bool (decide (td a = td b))) w) := by
 unfold maxLen at ha hb;by_cases hl : a.length = b.length
 case neg => have hd : decide (td a = td b) = false := decide_eq_false (fun e => hl (by rw [<- Ie a, <- Ie b, e]));have hl' : ((a.length : Int) != (b.length : Int)) = true := al;rw [hd];clear hd hl;go_enter func242, ntmps242;exact lx
 have hl' : ((a.length : Int) != (b.length : Int)) = false := al;have HL := Hh hl;obtain ⟨q, hqq⟩ : ∃ q, Hid (decide (td a = td b) = q) := eD;rw [hqq.out];clear hl;go_enter func242, ntmps242;go_wp2_with fail;go_loopw [13] (fun iv wr => ∃ k : Nat, k <= a.length /\ iv = .int .i64 k /\ Hid (∀ i (h1 : i < a.length) (h2 : i < b.length), i < k -> ya a[i] = ya b[i]) /\ Below w.heap.size w wr) (fun iv _ => a.length - (intOf iv).toNat)
 case atStart => exact ⟨0, Nat.zero_le _, rfl, Hh (fun i _ _ h => absurd h ak), Below.refl _ _⟩
 obtain ⟨k, hk, rfl, HE, hB⟩ := hrel;by_cases hlt : k < a.length
 case pos =>
  have hlt' : (k : Int) < a.length := ak;have hlb : k < b.length := by have := HL.out; omega
  have S1 := fun w => D6 a[k] w
  have S2 := fun w => D6 b[k] w
  obtain ⟨x, hx⟩ : ∃ x : Nat, Hid ((ya a[k]).toNat = x) := eD;obtain ⟨y, hy⟩ : ∃ y : Nat, Hid ((ya b[k]).toNat = y) := eD;simp only [hx.out] at S1;simp only [hy.out] at S2;have HS1 := Hh S1;have HS2 := Hh S2;clear S1 S2;by_cases hxy : x = y
  ·
   subst hxy;go_wp2_with fail;go_quiet ((go_at_call 252; (first | with_reducible exact rN.quiet (HS1.out _) | with_reducible exact rN.quiet (HS2.out _))));go_wp2_with fail;go_roundw
   case rel => exact ⟨k + 1, ak, eh, Hh (fun i h1 h2 h3 => by
    by_cases hi : i = k
    ·subst hi; exact UInt8.toNat_inj.1 (hx.out.trans hy.out.symm)
    ·
     exact HE.out i h1 h2 ak), below_drewN hB _⟩
   case measure => simp [intOf]; omega
  ·
   obtain rfl : q = false := by rw [<- hqq.out];refine decide_eq_false (SK hlt hlb (fun e => hxy ?_));rw [<- hx.out, <- hy.out, e]
   have hne : ((x : Int) != (y : Int)) = true := al;clear hxy hqq;go_wp2_with fail;go_quiet ((go_at_call 252; (first | with_reducible exact rN.quiet (HS1.out _) | with_reducible exact rN.quiet (HS2.out _))));go_wp2_with fail;go_ret;exact nM.mk rfl (below_drewN hB _)
 obtain rfl : k = a.length := ak;have hlt' : ¬ (a.length : Int) < a.length := ak;obtain rfl : q = true := by rw [<- hqq.out];exact decide_eq_true (SO HL.out (fun i h1 h2 => HE.out i h1 h2 h1))
 clear HE hqq hlt hk;exact kV
theorem SP {a b : List (List UInt8)} {k : Nat} (ha : k < a.length) (hb : k < b.length) (h : td a[k] ≠ td b[k]) : ss a ≠ ss b := by
 intro e;have := congrArg (fun l : List (List UInt8) => l[k]?) e;simp [ss, ha, hb] at this;exact h this
theorem SR {a b : List (List UInt8)} (hl : a.length = b.length) (h : ∀ i (ha : i < a.length) (hb : i < b.length), td a[i] = td b[i]) : ss a = ss b := by
 refine List.ext_getElem (by simp [ss, hl]) fun i h1 h2 => ?_
 simp only [ss, List.getElem_map];exact h i (by simpa [ss] using h1) (by simpa [ss] using h2)
set_option maxHeartbeats 1000000 in
theorem D7 (A B : Option Addr) (a b : List (List UInt8)) (ca cb : Nat) (w : World) (hA : rQ w A ca a) (hB : rQ w B cb b) :
  Calls prog 218 #[.slice A a.length ca, .slice B b.length cb] w (nM (.bool (decide (ss a = ss b))) w) := by
 obtain ⟨tA, cA, lA, mA⟩ := hA;obtain ⟨tB, cB, lB, mB⟩ := hB;by_cases hl : a.length = b.length
 case neg => have hd : decide (ss a = ss b) = false := decide_eq_false (fun e => hl (by rw [<- Ig a, <- Ig b, e]));have hl' : ((a.length : Int) != (b.length : Int)) = true := al;rw [hd];clear hd hl;go_enter func218, ntmps218;exact lx
 have hl' : ((a.length : Int) != (b.length : Int)) = false := al;have HL := Hh hl;obtain ⟨q, hqq⟩ : ∃ q, Hid (decide (ss a = ss b) = q) := eD;rw [hqq.out];clear hl;go_enter func218, ntmps218;go_wp2_with fail;go_loopw [14] (fun iv wr => ∃ k : Nat, k <= a.length /\ iv = .int .i64 k /\ Hid (∀ i (h1 : i < a.length) (h2 : i < b.length), i < k -> td a[i] = td b[i]) /\ Below w.heap.size w wr) (fun iv _ => a.length - (intOf iv).toNat)
 case atStart => exact ⟨0, Nat.zero_le _, rfl, Hh (fun i _ _ h => absurd h ak), Below.refl _ _⟩
 obtain ⟨k, hk, rfl, HE, hB⟩ := hrel;by_cases hlt : k < a.length
 case pos =>
  have hlt' : (k : Int) < a.length := ak;have hlb : k < b.length := by have := HL.out; omega
  have hlb' : (k : Int) < b.length := ak;obtain ⟨ba, oa, rfl, la, xa⟩ := tA ak;obtain ⟨bb, ob, rfl, lb, xb⟩ := tB ak;have c1 : wr.cell? ⟨ba, oa + k, none⟩ = some (.string (bs a[k])) := (hB.cell (p := ⟨ba, oa + k, none⟩) la).trans (xa k hlt);have c2 : wr.cell? ⟨bb, ob + k, none⟩ = some (.string (bs b[k])) := (hB.cell (p := ⟨bb, ob + k, none⟩) lb).trans (xb k hlb);have S := Hh (fun w => Ng a[k] b[k] w (by have := mA _ (List.getElem_mem hlt); simp only [maxLen]; omega) (by have := mB _ (List.getElem_mem hlb); simp only [maxLen]; omega));obtain ⟨s, hs⟩ : ∃ s, Hid (decide (td a[k] = td b[k]) = s) := eD;rw [hs.out] at S;clear xa xb mA mB;go_wp2_with fail;refine (S.out _).mono ?_;rintro _ w1 ⟨rfl, b1⟩;have HB1 := nc hB hB.size b1;clear b1 S c1 c2;cases s with
  | false =>
   obtain rfl : q = false := by rw [<- hqq.out];exact decide_eq_false (SP hlt hlb (of_decide_eq_false hs.out))
   clear hqq hs;exact mC
  | true =>
   go_wp2_with fail;go_roundw
   case rel => exact ⟨k + 1, ak, eh, Hh (fun i h1 h2 h3 => by
    by_cases hi : i = k
    ·subst hi; exact of_decide_eq_true hs.out
    ·
     exact HE.out i h1 h2 ak), HB1⟩
   case measure => simp [intOf]; omega
 obtain rfl : k = a.length := ak;have hlt' : ¬ (a.length : Int) < a.length := ak;obtain rfl : q = true := by rw [<- hqq.out];exact decide_eq_true (SR HL.out (fun i h1 h2 => HE.out i h1 h2 h1))
 clear HE hqq hlt hk tA tB mA mB;exact kV
structure Qy where
 sv : oi
 port : Int
 id : Int
 q : Qn
def qY (vn : Value) (y : Qy) : List Value := y.sv.cells ++ [.int .i64 y.port, .int .i64 y.id, vn, .int .i64 y.q.ty, .int .i64 y.q.cl]
structure CX (w : World) (cs : List Value) (y : Qy) (A : Option Addr) (c : Nat) : Prop where
 hcs : cs = qY (.slice A y.q.name.length c) y
 ip : y.sv.ip.length = 16
 nm : rQ w A c y.q.name
theorem CX.below {w w' : World} {cs : List Value} {y : Qy} {A : Option Addr} {c : Nat} (h : CX w cs y A c) (hb : Below w.heap.size w w') : CX w' cs y A c := ⟨h.hcs, h.ip, h.nm.below hb⟩
section
variable {vn : Value} {y : Qy}
theorem qS (h : y.sv.ip.length = 16) : (qY vn y).length = 23 := by simp [qY, y.sv.nV h]
theorem Qb (h : y.sv.ip.length = 16) : ((qY vn y).drop 0).take 18 = y.sv.cells := by rw [List.drop_zero]; unfold qY; exact List.take_left' (y.sv.nV h)
theorem tY (h : y.sv.ip.length = 16) (k : Nat) : (qY vn y)[18 + k]? = [Value.int .i64 y.port, .int .i64 y.id, vn, .int .i64 y.q.ty, .int .i64 y.q.cl][k]? := by
 unfold qY;rw [List.getElem?_append_right cE, y.sv.nV h, Nat.add_sub_cancel_left]
theorem VX (h : y.sv.ip.length = 16) : ((qY vn y).drop 20).take 3 = qC vn y.q := by
 have e : (qY vn y).drop 20 = (([Value.int .i64 y.port, .int .i64 y.id, vn, .int .i64 y.q.ty, .int .i64 y.q.cl] : List Value)).drop 2 := by unfold qY;rw [show (20 : Nat) = y.sv.cells.length + 2 by rw [y.sv.nV h], List.drop_append];simp
 rw [e]; rfl
theorem KZ (h : vn.oneCell' = true) : ∀ v ∈ qY vn y, v.oneCell' = true := by
 intro v hv;rcases List.mem_append.1 hv with hv | hv
 ·exact y.sv.qb v hv
 ·simp only [List.mem_cons, List.not_mem_nil, or_false] at hv;rcases hv with rfl | rfl | rfl | rfl | rfl <;> first | rfl | exact h
end
def SS (x y : Qn) : Bool := decide (x.ty = y.ty) && (decide (x.cl = y.cl) && decide (ss x.name = ss y.name))
def tv (y : Qy) (m : oh) : Bool := m.hd.qr && (decide (m.hd.op = 0) && (decide (m.hd.id = y.id) && match m.qs with
 | [x] => SS x y.q
 | _ => false))
theorem JO {y : Qy} {m : oh} {x : Qn} (h : m.qs = [x]) : tv y m = (m.hd.qr && (decide (m.hd.op = 0) && (decide (m.hd.id = y.id) && SS x y.q))) := by unfold tv; rw [h]
theorem Nh {y : Qy} {m : oh} (h : m.qs.length ≠ 1) : tv y m = false := by
 unfold tv;cases hq : m.qs with
 | nil => simp
 | cons x l =>
  cases l with
  | nil => rw [hq] at h; simp at h
  | cons z l => simp
set_option maxHeartbeats 4000000 in
theorem Ni (cs ds : List Value) (y : Qy) (m : oh) (A : Option Addr) (c : Nat) (Aq Aa Au Ae : Option Addr) (cq ca cu ce : Nat) (w : World) (h1 : CX w cs y A c) (h2 : uG w ds m Aq Aa Au Ae cq ca cu ce) :
  Calls prog 180 #[.agg cs.toArray, .agg ds.toArray] w (nM (.bool (tv y m)) w) := by
 obtain ⟨t1, ht1⟩ : ∃ t1 : TypeId, t1 = 37 := eE;have hip := h1.ip;have hl1 : cs.length = 23 := by rw [h1.hcs]; exact qS hip
 have L19 : cs[19]? = some (.int .i64 y.id) := by rw [h1.hcs]; exact tY hip 1
 have L20 : cs[20]? = some (.slice A y.q.name.length c) := by rw [h1.hcs]; exact tY hip 2
 have L21 : cs[21]? = some (.int .i64 y.q.ty) := by rw [h1.hcs]; exact tY hip 3
 have L22 : cs[22]? = some (.int .i64 y.q.cl) := by rw [h1.hcs]; exact tY hip 4
 have M0 : ds[0]? = some (.int .i64 m.hd.id) := il;have M1 : ds[1]? = some (.bool m.hd.qr) := il;have M2 : ds[2]? = some (.int .i64 m.hd.op) := il;have M10 : ds[10]? = some (.slice Aq m.qs.length cq) := il;have hq := h2.hq;have lq := h2.lq;have B2 := nj.ph (w.alloc (.cells cs.toArray t1)) 50 ds (w.heap.size + 1) ag;have B1 := (nj.new w t1 cs).alloc (.cells ds.toArray 50);have HB : Below w.heap.size w ((w.alloc (.cells cs.toArray t1)).alloc (.cells ds.toArray 50)) := eG;have a19 := B1.nf 19 L19;have a20 := B1.nf 20 L20;have a21 := B1.nf 21 L21;have a22 := B1.nf 22 L22;have d0 := B2.nf 0 M0;have d1 := B2.nf 1 M1;have d2 := B2.nf 2 M2;have d10 := B2.nf 10 M10;subst ht1;obtain ⟨O, hO⟩ : ∃ O, Hid (tv y m = O) := eD;rw [hO.out];have hN := Hh h1.nm;have HQ := Hh hq;clear h1 h2 hip L19 L20 L21 L22 M0 M1 M2 M10 hq;cases hqr : m.hd.qr with
 | false =>
  obtain rfl : O = false := by rw [<- hO.out]; unfold tv; rw [hqr]; rfl
  rw [hqr] at d1;clear hqr hO;go_enter func180, ntmps180;exact jT
 | true =>
 rw [hqr] at d1;by_cases hop : m.hd.op = 0
 case neg =>
  obtain rfl : O = false := by rw [<- hO.out]; unfold tv; rw [decide_eq_false hop]; simp
  have hop' : (m.hd.op != 0) = true := by simpa using hop
  clear hqr hO hop;go_enter func180, ntmps180;exact jT
 rw [hop] at d2;by_cases hid : m.hd.id = y.id
 case neg =>
  obtain rfl : O = false := by rw [<- hO.out]; unfold tv; rw [decide_eq_false hid]; simp
  have hid' : (m.hd.id != y.id) = true := by simpa using hid
  clear hqr hO hop hid;go_enter func180, ntmps180;exact jT
 by_cases hll : m.qs.length = 1
 case neg =>
  obtain rfl : O = false := by rw [<- hO.out]; exact Nh hll
  have hll' : ((m.qs.length : Int) != 1) = true := al;rw [hid] at d0;clear hqr hO hop hid hll;go_enter func180, ntmps180;exact jT
 obtain ⟨x, hx⟩ := List.length_eq_one_iff.1 hll;have HQ' : Vl w Aq [x] := hx ▸ HQ.out;obtain ⟨ba, oa, eA, hba, hel⟩ := HQ' ag;subst eA;obtain ⟨An, cn, hr, hNx⟩ := hel 0 ag;have hrg := nO hr HB hba;have hOf : SS x y.q = O := by rw [<- hO.out, JO hx, hqr, decide_eq_true hop, decide_eq_true hid]; rfl
 have HOF := Hh hOf;rw [hid] at d0;rw [hll] at d10;replace hrg : ((w.alloc (.cells cs.toArray 37)).alloc (.cells ds.toArray 50)).rangeAt ba oa [.slice An x.name.length cn, .int .i64 x.ty, .int .i64 x.cl] := hrg;have SM := Hh (fun w' (b : Below w.heap.size w w') => D7 An A x.name y.q.name cn c w' (hNx.below b) (hN.out.below b));have e20 : ∀ o : Obj, (((w.alloc (.cells cs.toArray 37)).alloc (.cells ds.toArray 50)).alloc o).cell? ⟨w.heap.size, 20, none⟩ = some (.slice A y.q.name.length c) := fun o => ((B1.alloc o).cell 20).trans ((B1.cell 20).symm.trans a20)
 have e21 : ∀ o : Obj, (((w.alloc (.cells cs.toArray 37)).alloc (.cells ds.toArray 50)).alloc o).cell? ⟨w.heap.size, 21, none⟩ = some (.int .i64 y.q.ty) := fun o => ((B1.alloc o).cell 21).trans ((B1.cell 21).symm.trans a21)
 have e22 : ∀ o : Obj, (((w.alloc (.cells cs.toArray 37)).alloc (.cells ds.toArray 50)).alloc o).cell? ⟨w.heap.size, 22, none⟩ = some (.int .i64 y.q.cl) := fun o => ((B1.alloc o).cell 22).trans ((B1.cell 22).symm.trans a22)
 have HB3 : ∀ o : Obj, Below w.heap.size w (((w.alloc (.cells cs.toArray 37)).alloc (.cells ds.toArray 50)).alloc o) := fun o => HB.alloc al _
 have HB3' := Hh HB3;clear hqr hO hop hid hll hx HQ' hel hr HQ hN hNx hOf HB3 a20 a21 a22 B1 B2 lq hba hl1 HB;unfold SS at HOF;generalize y.q.ty = ty at *;generalize y.q.cl = cl at *;generalize x.ty = xt at *;generalize x.cl = xl at *;by_cases hty : xt = ty
 case neg =>
  obtain rfl : O = false := by rw [<- HOF.out, decide_eq_false hty]; rfl
  have hty' : (xt == ty) = false := jj;clear hty HOF SM;exact kJ
 by_cases hcl : xl = cl
 case neg =>
  obtain rfl : O = false := by rw [<- HOF.out, decide_eq_false hcl]; simp
  have hty' : (xt == ty) = true := jj;have hcl' : (xl == cl) = false := by simpa using hcl
  clear hty hcl HOF SM;exact kJ
 have hty' : (xt == ty) = true := jj;have hcl' : (xl == cl) = true := by simpa using hcl
 obtain ⟨s, hs⟩ : ∃ s, Hid (decide (ss x.name = ss y.q.name) = s) := eD;rw [hs.out] at SM;have hOs := HOF.out;rw [hs.out, decide_eq_true hty, decide_eq_true hcl] at hOs;obtain rfl : s = O := hOs;clear hty hcl HOF hs;go_enter func180, ntmps180;go_wp2_with (refine nh (.load 28 (.tmp 32)) rfl ?_; go_must (refine wpList_load_mid rfl 28 (.tmp 32) rfl ba oa rfl _ _ hrg underlying28 rfl rD ?_));refine (SM.out _ (HB3'.out _)).mono ?_;rintro _ w5 ⟨rfl, b5⟩;have HB5 := nc (HB3'.out _) (HB3'.out _).size b5;clear b5 SM;go_wp2_with fail;go_ret;exact nM.mk rfl HB5
theorem nL.oL {w w' : World} {g : Nat} {cs L : List Value} {m : oh} (h : nL w cs m) (hg : w.grownBy w' (some g)) (hb : nj w g 50 L) : nL w' cs m := by
 obtain ⟨vq, va, vu, ve, h1, h2, h3, h4, h5, l⟩ := h;exact ⟨vq, va, vu, ve, h1, h2.oL hg hb aj aj, h3.oL hg hb aj aj, h4.oL hg hb aj aj, h5.oL hg hb aj aj, l⟩
def pZ (y : Qy) (o : Except Int oh) : oh × Bool := match o with
 | .ok m => if tv y m then (m, true) else (oh.zero, false)
 | .error _ => (oh.zero, false)
def Qd (p : oh × Bool) (w : World) (e : Ending) (w' : World) : Prop := ∃ ds, e = .returned (.tuple #[.agg ds.toArray, .bool p.2]) /\ nL w' ds p.1 /\ Below w.heap.size w w'
theorem xq : (prog.info? 37).map (·.size) = some 23 := by kernel_rfl
theorem vf {w : World} {g n : Nat} {L M : List Value} (h : nj w g 50 (L ++ M.drop n)) (hM : M.length <= n) : nj w g 50 L := by
 exact lY
set_option maxHeartbeats 4000000 in
theorem yI (cs : List Value) (y : Qy) (A : Option Addr) (c : Nat) (s : List UInt8) (w : World) (h : CX w cs y A c) (hs : s.length <= maxLen) :
  Calls prog 119 #[.agg cs.toArray, .string (bs s)] w (Qd (pZ y (qR s)) w) := by
 have hcl : cs.length = 23 := js;have D := Hh (fun w => Hv s w hs);have hQ := Hh (fun w' (b : Below w.heap.size w w') => h.below b);have C1 : nj ((w.alloc (.cells cs.toArray 37)).alloc (.cells nR.toArray 50)) w.heap.size 37 cs := (nj.new w 37 cs).alloc _;have C4 : nj ((w.alloc (.cells cs.toArray 37)).alloc (.cells nR.toArray 50)) (w.heap.size + 1) 50 nR := nj.ph _ 50 nR _ ag;have CB : Below w.heap.size w ((w.alloc (.cells cs.toArray 37)).alloc (.cells nR.toArray 50)) := eG;obtain ⟨O, hO⟩ : ∃ O, Hid (qR s = O) := eD;rw [hO.out] at D ⊢;clear h hO hs;go_enter func119, ntmps119;go_wp2_with fail;refine (D.out _).mono ?_;rintro _ w3 ⟨ds, m, x, rfl, hM3, b3, hx⟩;have B1 := C1.below b3 C1.lt;have B4 := C4.below b3 C4.lt;have HB3 := nc CB CB.size b3;have hgd : w.heap.size + 1 < w3.heap.size := B4.lt;have hdl := hM3.len;have hd1 := Hh hM3.one;clear b3 C1 C4 CB D;go_wp2_with (refine nh (.store 50 (.tmp 6) (.tmp 11)) rfl (ab rfl w3.heap.size 0 ds (nj.ph _ _ nR _ rfl) cF cG hd1.out ?_));intro w4 B7 g4 _;replace B7 := vf B7 cH;have k4 : Below w3.heap.size w3 w4 := fA;have HB4 := nc HB3 HB3.size k4;replace B1 := B1.below k4 B1.lt;replace B4 := B4.below k4 B4.lt;have hM4 := hM3.below k4;have hgr : w.heap.size <= w.heap.size + 1 := ak;have hrl := tX;clear g4 k4 hM3 HB3;generalize w3.heap.size = gd at *;generalize w.heap.size + 1 = gr at *;rcases hx with ⟨rfl, hO⟩ | ⟨hx, hO, rfl⟩
 case inr => have hx' : (x != 0) = true := fS;have HF : Hid (pZ y O = (oh.zero, false)) := Hh (by rw [hO]; rfl);clear hx hO hM4 B1 B7 hQ;exact km
 have RC : Hid (Calls prog 180 #[.agg cs.toArray, .agg ds.toArray] w4 (nM (.bool (tv y m)) w4)) := Hh (by
  obtain ⟨_, _, _, _, _, _, _, _, h1⟩ := hM4.is;exact Ni cs ds y m A c _ _ _ _ _ _ _ _ w4 (hQ.out _ HB4) h1)
 go_wp2_with (first
  | (refine nh (.load 37 (.tmp 2)) rfl ?_; go_must (refine pS 37 (.tmp 2) rfl aS w.heap.size 0 rfl B1 23 ak _ underlying37 rfl xq cs (qj ak) ?_))
  | (refine nh (.load 50 (.tmp 6)) rfl ?_; go_must (refine pS 50 (.tmp 6) rfl aS gd 0 rfl B7 14 ak _ underlying50 rfl oy ds (qj ak) ?_)))
 refine RC.out.mono ?_;rintro _ w5 ⟨rfl, b5⟩;have HB5 := nc HB4 HB4.size b5;have B75 := B7.below b5 B7.lt;have B45 := B4.below b5 B4.lt;have hM5 := hM4.below b5;clear b5 RC B1 HB4 B7 B4 hM4 hQ;cases hr : tv y m with
 | false => have HF : Hid (pZ y O = (oh.zero, false)) := Hh cI;have HB4 := HB5;have B4 := B45;clear hr hO HB5 B45 B75 hM5;exact km
 | true =>
  have HF : Hid (pZ y O = (m, true)) := Hh cI;clear hr hO;go_wp2_with (first
   | (refine nh (.load 50 (.tmp 6)) rfl ?_; go_must (refine ni rfl _ _ rfl gd 0 rfl B75 14 ak _ underlying50 rfl oy ds (qj ak) ?_))
   | (refine nh (.store 50 (.tmp 4) (.tmp 22)) rfl (ab rfl gr 0 ds B45 ak cG hd1.out ?_)))
  intro w8 B8 g8 _;replace B8 := vf B8 cH;have HB8 := ng HB5 g8 HB5.size hgr;have hM8 := hM5.oL g8 B45;clear g8 HB5 B45 B75 hM5;go_wp2_with fail;refine oF rfl gr rfl B8 _ underlying50 rfl cG rfl (.bool true) rfl ?_;rw [HF.out];exact m6
structure Ev where
 kind : Int
 fr : oi
 fp : Int
 port : Int
 data : List UInt8
def qm (e : Ev) : List Value := .int .i64 e.kind :: (e.fr.cells ++ [.int .i64 e.fp, .int .i64 e.port, .string (bs e.data)])
theorem sR {e : Ev} (h : e.fr.ip.length = 16) : (qm e).length = 22 := by simp [qm, e.fr.nV h]
theorem UO {e : Ev} (h : e.fr.ip.length = 16) : ((qm e).drop 1).take 18 = e.fr.cells := by
 show (e.fr.cells ++ _).take 18 = _;exact List.take_left' (e.fr.nV h)
theorem vV {e : Ev} (h : e.fr.ip.length = 16) (k : Nat) : (qm e)[19 + k]? = [Value.int .i64 e.fp, .int .i64 e.port, .string (bs e.data)][k]? := by
 unfold qm;rw [show 19 + k = (18 + k) + 1 by omega, List.getElem?_cons_succ, List.getElem?_append_right (by rw [e.fr.nV h]; omega), e.fr.nV h, Nat.add_sub_cancel_left]
theorem SW {e : Ev} : ∀ v ∈ qm e, v.oneCell' = true := by
 intro v hv;rcases List.mem_cons.1 hv with rfl | hv
 ·rfl
 rcases List.mem_append.1 hv with hv | hv
 ·exact e.fr.qb v hv
 ·simp only [List.mem_cons, List.not_mem_nil, or_false] at hv;rcases hv with rfl | rfl | rfl <;> rfl
theorem yb : (prog.info? 24).map (·.size) = some 18 := by kernel_rfl
def te (y : Qy) (e : Ev) : oh × Bool := if e.kind = 2 /\ e.fr = y.sv /\ e.fp = 53 /\ e.port = y.port then pZ y (qR e.data) else (oh.zero, false)
set_option maxHeartbeats 4000000 in
theorem Bf (cs : List Value) (y : Qy) (A : Option Addr) (c : Nat) (e : Ev) (w : World) (h : CX w cs y A c) (hip : e.fr.ip.length = 16) (hs : e.data.length <= maxLen) :
  Calls prog 228 #[.agg cs.toArray, .agg (qm e).toArray] w (Qd (te y e) w) := by
 have hcl : cs.length = 23 := js;have hel := sR hip;have E0 : (qm e)[0]? = some (.int .i64 e.kind) := rfl;have E19 : (qm e)[19]? = some (.int .i64 e.fp) := vV hip 0;have E20 : (qm e)[20]? = some (.int .i64 e.port) := vV hip 1;have E21 : (qm e)[21]? = some (.string (bs e.data)) := vV hip 2;have Q18 : cs[18]? = some (.int .i64 y.port) := by rw [h.hcs]; exact tY h.ip 0
 have SE := Hh (UO hip);have SQ : Hid ((cs.drop 0).take 18 = y.sv.cells) := Hh (by rw [h.hcs]; exact Qb h.ip);have EA := zj e.fr y.sv hip h.ip;have FC := Hh (fun w' (b : Below w.heap.size w w') => yI cs y A c e.data w' (h.below b) hs);have B2 : nj (((w.alloc (.cells cs.toArray 37)).alloc (.cells (qm e).toArray 42)).alloc (.cells nR.toArray 50)) w.heap.size 37 cs := ((nj.new w 37 cs).alloc _).alloc _;have B3 : nj (((w.alloc (.cells cs.toArray 37)).alloc (.cells (qm e).toArray 42)).alloc (.cells nR.toArray 50)) (w.heap.size + 1) 42 (qm e) := (nj.ph _ 42 (qm e) _ ag).alloc _;have B4 : nj (((w.alloc (.cells cs.toArray 37)).alloc (.cells (qm e).toArray 42)).alloc (.cells nR.toArray 50)) (w.heap.size + 1 + 1) 50 nR := nj.ph _ 50 nR _ ag;have HB : Below w.heap.size w (((w.alloc (.cells cs.toArray 37)).alloc (.cells (qm e).toArray 42)).alloc (.cells nR.toArray 50)) := (((Below.refl _ _).alloc (Nat.le_refl _) _).alloc ag _).alloc al _;obtain ⟨X, hX⟩ : ∃ X, Hid (((w.alloc (.cells cs.toArray 37)).alloc (.cells (qm e).toArray 42)).alloc (.cells nR.toArray 50) = X) := eD;have c0 := qz E0;have c19 := qz E19;have c20 := qz E20;have c21 := qz E21;have d18 := qz Q18;obtain ⟨P, hP⟩ : ∃ P, Hid (te y e = P) := eD;rw [hP.out];have PP : Hid (P = if e.kind = 2 /\ e.fr = y.sv /\ e.fp = 53 /\ e.port = y.port then pZ y (qR e.data) else (oh.zero, false)) := Hh (by rw [<- hP.out]; rfl);clear h hip hs E0 E19 E20 E21 Q18 hP hX;generalize pZ y (qR e.data) = F at *;generalize e.data = dt at *;by_cases hk : e.kind = 2
 case neg => have hk' : (e.kind != 2) = true := aP;have HF : Hid (P = (oh.zero, false)) := Hh (by rw [PP.out, if_neg (fun h => hk h.1)]);clear hk PP FC EA;generalize e.kind = kd at *;generalize qm e = es at *;go_enter func228, ntmps228;go_wp2_with (refine nh (.store 50 (.tmp 4) (.tmp 28)) rfl (ab rfl (w.heap.size + 1 + 1) 0 nR B4 cH oy vP ?_));intro w8 B8 g8 _;replace B8 : nj w8 (w.heap.size + 1 + 1) 50 nR := fG;have HB8 := ng HB g8 HB.size ak;clear g8 HB B4;go_wp2_with fail;refine oF rfl (w.heap.size + 1 + 1) rfl B8 _ underlying50 rfl oy rfl (.bool false) rfl ?_;rw [HF.out];exact ⟨nR, rfl, nL.zero _, HB8⟩
 rw [hk] at c0;generalize qm e = es at *;by_cases hf : e.fr = y.sv
 case neg => have HF : Hid (P = (oh.zero, false)) := Hh (by rw [PP.out, if_neg (fun h => hf h.2.1)]);rw [decide_eq_false hf] at EA;clear hk hf PP FC;exact jK
 rw [decide_eq_true hf] at EA;by_cases hp : e.fp = 53
 case neg =>
  have hp' : (e.fp != 53) = true := by simpa using hp
  have HF : Hid (P = (oh.zero, false)) := Hh (by rw [PP.out, if_neg (fun h => hp h.2.2.1)]);clear hk hf hp PP FC;generalize e.fp = fp at *;exact jK
 rw [hp] at c19;by_cases ho : e.port = y.port
 case neg =>
  have ho' : (e.port != y.port) = true := by simpa using ho
  have HF : Hid (P = (oh.zero, false)) := Hh (by rw [PP.out, if_neg (fun h => ho h.2.2.2)]);clear hk hf hp ho PP FC;generalize e.port = ep at *;generalize y.port = yp at *;exact jK
 rw [ho] at c20;have HF : Hid (P = F) := Hh (by rw [PP.out, if_pos ⟨hk, hf, hp, ho⟩]);clear hk hf hp ho PP;generalize y.port = yp at *;generalize e.fr.cells = fc at *;generalize y.sv.cells = sc at *;go_enter func228, ntmps228;go_wp2_with (first
  | (refine nh (.load 24 (.tmp 10)) rfl ?_; go_must (refine pS 24 (.tmp 10) rfl aS (w.heap.size + 1) 1 rfl B3 18 ak _ underlying24 rfl yb _ SE.out ?_))
  | (refine nh (.load 24 (.tmp 12)) rfl ?_; go_must (refine pS 24 (.tmp 12) rfl aS w.heap.size 0 rfl B2 18 ak _ underlying24 rfl yb _ SQ.out ?_))
  | (refine nh (.load 37 (.tmp 2)) rfl ?_; go_must (refine ni rfl _ _ rfl w.heap.size 0 rfl B2 23 ak _ underlying37 rfl xq cs (qj ak) ?_)))
 refine (FC.out _ HB).mono ?_;rintro _ w5 ⟨ds, rfl, hM5, b5⟩;have HB5 := nc HB HB.size b5;have B45 := B4.below b5 B4.lt;have hdl := hM5.len;have hd1 := Hh hM5.one;clear b5 FC HB B2 B3 B4 c0 c19 c20 c21 d18 EA SE SQ;go_wp2_with (refine nh (.store 50 (.tmp 4) (.tmp 33)) rfl (ab rfl (w.heap.size + 1 + 1) 0 ds B45 cH cG hd1.out ?_));intro w8 B8 g8 _;replace B8 := vf B8 cH;have HB8 := ng HB5 g8 HB5.size ak;have hM8 := hM5.oL g8 B45;clear g8 HB5 B45 hM5;go_wp2_with fail;refine oF rfl (w.heap.size + 1 + 1) rfl B8 _ underlying50 rfl cG rfl (.bool F.2) rfl ?_;rw [HF.out];exact m6
def JP : List Value := [.int .i64 0, .int .u8 0, .int .u8 0, .int .u8 0, .int .u8 0, .int .u8 0, .int .u8 0, .int .u8 0, .int .u8 0, .int .u8 0, .int .u8 0, .int .u8 0, .int .u8 0, .int .u8 0, .int .u8 0, .int .u8 0, .int .u8 0, .int .i64 0, .int .i64 0, .int .i64 0, .slice none 0 0, .int .i64 0, .int .i64 0]
theorem tI : JP.length = 23 := rfl
theorem Nj (fam zone port id : Int) (q : Qn) (b0 b1 b2 b3 b4 b5 b6 b7 b8 b9 b10 b11 b12 b13 b14 b15 : UInt8) (A : Option Addr) (n c : Nat) (W : World) :
  (Instr.build 37 #[(0, .agg (oi.cells ⟨fam, [b0, b1, b2, b3, b4, b5, b6, b7, b8, b9, b10, b11, b12, b13, b14, b15], zone⟩).toArray), (1, .int .i64 port), (2, .int .i64 id), (3, .agg #[.slice A n c, .int .i64 q.ty, .int .i64 q.cl])]).run prog W = .ok (.agg (qY (.slice A n c) ⟨⟨fam, [b0, b1, b2, b3, b4, b5, b6, b7, b8, b9, b10, b11, b12, b13, b14, b15], zone⟩, port, id, q⟩).toArray) W := by
 kernel_rfl
theorem K0 (y : Qy) (h : y.sv.ip.length = 16) (A : Option Addr) (n c : Nat) (W : World) :
  (Instr.build 37 #[(0, .agg y.sv.cells.toArray), (1, .int .i64 y.port), (2, .int .i64 y.id), (3, .agg #[.slice A n c, .int .i64 y.q.ty, .int .i64 y.q.cl])]).run prog W = .ok (.agg (qY (.slice A n c) y).toArray) W := by
 obtain ⟨⟨fam, ip, zone⟩, port, id, q⟩ := y;have h' : ip.length = 16 := h;clear h;match ip, h' with
 | [b0, b1, b2, b3, b4, b5, b6, b7, b8, b9, b10, b11, b12, b13, b14, b15], _ => exact Nj fam zone port id q b0 b1 b2 b3 b4 b5 b6 b7 b8 b9 b10 b11 b12 b13 b14 b15 A n c W
def WG : oi := ⟨4, [1, 2, 3, 4, 0, 0, 0, 0, 0, 0, 0, 0, 0, 0, 0, 0], 0⟩
def WU : List UInt8 := [0, 7, 128, 0, 0, 1, 0, 0, 0, 0, 0, 0, 1, 97, 0, 0, 1, 0, 1]
def f25 : Ev := ⟨2, WG, 54, 5000, WU⟩
def WV : List Value := qm ⟨0, oi.zero, 0, 0, []⟩
theorem K9 : WV.length = 22 := rfl
open Go.ChangeShapes Go.WideShapes Go.ChangeAt Go.RowKit
section
variable {H : Type} {enc : TypeId × Value -> H} {w : World} {cs : List Value}
end
end Go.Proofs.YthnbcmlnpdabhaaGreat

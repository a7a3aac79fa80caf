/-
  Records as cells; what is wrong with a record, plainly.
-/
import Derived.Test.YthnbcmlnpdabhaaGreatGCq
import Derived.Test.YthnbcmlnpdabhaaGreatGJq
namespace Go.Proofs.YthnbcmlnpdabhaaGreat
open _root_.Go.Proofs.Tryz
open Go.RowKit
set_option maxRecDepth 100000
set_option linter.unusedVariables false
structure RR where
 name : List (List UInt8)
 ty : Int
 cl : Int
 ttl : Int
 ad : oi
 tg : List (List UInt8)
 ml : List (List UInt8)
 pri : Int
 we : Int
 po : Int
 nums : List Int
 raw : List UInt8
deriving DecidableEq
def n7 (l : List Int) : List Value := l.map (Value.int .i64)
def pO (vn vt vm : Value) (r : RR) : List Value := vn :: .int .i64 r.ty :: .int .i64 r.cl :: .int .i64 r.ttl :: (r.ad.cells ++ (vt :: vm :: .int .i64 r.pri :: .int .i64 r.we :: .int .i64 r.po :: (n7 r.nums ++ [.string (bs r.raw)])))
def RR.wf (r : RR) : Prop := r.ad.ip.length = 16 /\ r.nums.length = 5
section
variable {vn vt vm : Value} {r : RR}
theorem pn (h : r.wf) : (pO vn vt vm r).length = 33 := by simp [pO, r.ad.nV h.1, n7, h.2]
theorem Dt : (pO vn vt vm r)[1]? = some (.int .i64 r.ty) := rfl
theorem Du : (pO vn vt vm r)[2]? = some (.int .i64 r.cl) := rfl
theorem yv (h : r.wf) : ((pO vn vt vm r).drop 4).take 18 = r.ad.cells := by
 simp only [pO, List.drop_succ_cons, List.drop_zero];exact List.take_left' (r.ad.nV h.1)
theorem uC (h : r.wf) (k : Nat) : (pO vn vt vm r)[22 + k]? = (vt :: vm :: .int .i64 r.pri :: .int .i64 r.we :: .int .i64 r.po :: (n7 r.nums ++ [.string (bs r.raw)]))[k]? := by
 have e : pO vn vt vm r = (vn :: .int .i64 r.ty :: .int .i64 r.cl :: .int .i64 r.ttl :: r.ad.cells) ++ (vt :: vm :: .int .i64 r.pri :: .int .i64 r.we :: .int .i64 r.po :: (n7 r.nums ++ [.string (bs r.raw)])) := iE;have hl : (vn :: .int .i64 r.ty :: .int .i64 r.cl :: .int .i64 r.ttl :: r.ad.cells).length = 22 := fO;rw [e, List.getElem?_append_right ak, hl, Nat.add_sub_cancel_left]
theorem uV (h : r.wf) : (pO vn vt vm r)[22]? = some vt := uC h 0
theorem zU (h : r.wf) : (pO vn vt vm r)[23]? = some vm := uC h 1
theorem zV (h : r.wf) : (pO vn vt vm r)[24]? = some (.int .i64 r.pri) := uC h 2
theorem zW (h : r.wf) : (pO vn vt vm r)[25]? = some (.int .i64 r.we) := uC h 3
theorem zX (h : r.wf) : (pO vn vt vm r)[26]? = some (.int .i64 r.po) := uC h 4
theorem zY (h : r.wf) : (pO vn vt vm r)[32]? = some (.string (bs r.raw)) := by
 have := uC (vn := vn) (vt := vt) (vm := vm) h 10;rw [this];simp [n7, h.2]
theorem xO (h : r.wf) : ((pO vn vt vm r).drop 27).take 5 = n7 r.nums := by
 have e : pO vn vt vm r = (vn :: .int .i64 r.ty :: .int .i64 r.cl :: .int .i64 r.ttl :: (r.ad.cells ++ [vt, vm, .int .i64 r.pri, .int .i64 r.we, .int .i64 r.po])) ++ (n7 r.nums ++ [.string (bs r.raw)]) := iE;have hl : (vn :: .int .i64 r.ty :: .int .i64 r.cl :: .int .i64 r.ttl :: (r.ad.cells ++ [vt, vm, .int .i64 r.pri, .int .i64 r.we, .int .i64 r.po])).length = 27 := fO;rw [e, <- hl, List.drop_left];exact List.take_left' aN
theorem qg (hn : vn.oneCell' = true) (ht : vt.oneCell' = true) (hm : vm.oneCell' = true) : ∀ v ∈ pO vn vt vm r, v.oneCell' = true := by
 intro v hv;simp only [pO, List.mem_cons, List.mem_append] at hv;rcases hv with rfl | rfl | rfl | rfl | hv | rfl | rfl | rfl | rfl | rfl | hv | hv
 ·exact hn
 ·rfl
 ·rfl
 ·rfl
 ·exact r.ad.qb v hv
 ·exact ht
 ·exact hm
 ·rfl
 ·rfl
 ·rfl
 ·exact m8
 ·
  rcases hv with rfl | hv
  ·rfl
  ·cases hv
end
def sH (w : World) (cs : List Value) (r : RR) : Prop :=
 ∃ An cn At ct Am cm, cs = pO (.slice An r.name.length cn) (.slice At r.tg.length ct) (.slice Am r.ml.length cm) r /\ r.wf /\ rQ w An cn r.name /\ rQ w At ct r.tg /\ rQ w Am cm r.ml /\ r.raw.length <= 140737488355328
theorem sH.below {w w' : World} {cs : List Value} {r : RR} (h : sH w cs r) (hb : Below w.heap.size w w') : sH w' cs r := by
 obtain ⟨An, cn, At, ct, Am, cm, h1, h2, h3, h4, h5, h6⟩ := h;exact ⟨An, cn, At, ct, Am, cm, h1, h2, h3.below hb, h4.below hb, h5.below hb, h6⟩
theorem oG : (prog.info? 119).map (·.size) = some 33 := by kernel_rfl
theorem pN : (prog.info? 117).map (·.size) = some 5 := by kernel_rfl
def nX (ty cl : Int) : Int := if cl = 1 /\ (ty = 1 \/ ty = 28 \/ ty = 5 \/ ty = 12 \/ ty = 33 \/ ty = 6) then ty else 0
def uc (most n : Int) : Bool := decide (0 <= n) && decide (n <= most)
def tG (r : RR) : Int :=
 if nX r.ty r.cl = 1 then (if r.ad.check ≠ 0 \/ r.ad.fam ≠ 4 \/ r.ad.zone ≠ 0 then 10 else 0)
 else if nX r.ty r.cl = 28 then (if r.ad.check ≠ 0 \/ r.ad.fam ≠ 6 \/ r.ad.zone ≠ 0 then 10 else 0)
 else if nX r.ty r.cl = 5 \/ nX r.ty r.cl = 12 then nH r.tg
 else if nX r.ty r.cl = 33 then (if ([r.pri, r.we, r.po].all (uc 65535)) then nH r.tg else 4)
 else if nX r.ty r.cl = 6 then (if nH r.tg ≠ 0 then nH r.tg else if nH r.ml ≠ 0 then nH r.ml else if r.nums.all (uc 4294967295) then 0 else 4)
 else if 65535 < r.raw.length then 3 else 0
def tp (r : RR) : RR :=
 if nX r.ty r.cl = 1 \/ nX r.ty r.cl = 28 then { r with ad := oi.zero }
 else if nX r.ty r.cl = 5 \/ nX r.ty r.cl = 12 then { r with tg := [] }
 else if nX r.ty r.cl = 33 then { r with pri := 0, we := 0, po := 0, tg := [] }
 else if nX r.ty r.cl = 6 then { r with tg := [], ml := [], nums := [0, 0, 0, 0, 0] }
 else { r with raw := [] }
def zZ (r : RR) : Bool := decide (r.ad = oi.zero) && decide (r.tg = []) && decide (r.ml = []) && decide (r.pri = 0) && decide (r.we = 0) && decide (r.po = 0) && decide (r.nums = [0, 0, 0, 0, 0]) && decide (r.raw = [])
def nU (r : RR) : Int :=
 if nH r.name ≠ 0 then nH r.name
 else if ¬ ([r.ty, r.cl].all (uc 65535)) \/ ¬ uc 4294967295 r.ttl then 4
 else if tG r ≠ 0 then tG r
 else if zZ (tp r) then 0 else 5
theorem oN (ty cl : Int) (w : World) : Calls prog 237 #[.int .i64 ty, .int .i64 cl] w (rN (.int .i64 (nX ty cl)) w) := by
 by_cases h1 : cl = 1
 ·
  subst h1;by_cases hk : ty = 1 \/ ty = 28 \/ ty = 5 \/ ty = 12 \/ ty = 33 \/ ty = 6
  ·
   have hr : nX ty 1 = ty := by unfold nX; rw [if_pos ⟨rfl, hk⟩]
   rw [hr];clear hr;rcases hk with rfl | rfl | rfl | rfl | rfl | rfl;all_goals
    go_enter func237, ntmps237;go_wp2;exact j8
  ·
   have hr : nX ty 1 = 0 := by unfold nX; rw [if_neg (fun h => hk h.2)]
   rw [hr];have e1 : (ty == 1) = false := al;have e2 : (ty == 28) = false := al;have e3 : (ty == 5) = false := al;have e4 : (ty == 12) = false := al;have e5 : (ty == 33) = false := al;have e6 : (ty == 6) = false := al;clear hk hr;go_enter func237, ntmps237;go_wp2;exact j8
 ·
  have hr : nX ty cl = 0 := by unfold nX; rw [if_neg (fun h => h1 h.1)]
  rw [hr];have e1 : (cl != 1) = true := gO;clear h1 hr;go_enter func237, ntmps237;go_wp2;exact j8
theorem Sg (m n : Int) : uc m n = true ↔ 0 <= n /\ n <= m := by simp [uc]
theorem Uy {m n : Int} (h : uc m n = false) : n < 0 \/ m < n := by simp [uc] at h; omega
theorem uf (m : Int) (A : Option Addr) (c : Nat) (l : List Int) (w : World) (hA : xN w A l) (hl : l.length <= 281474976710656) : Calls prog 234 #[.int .i64 m, .slice A l.length c] w (rN (.bool (l.all (uc m))) w) := by
 go_enter func234, ntmps234;go_wp2_with fail;go_loop [9] (fun i => ∃ k : Nat, k <= l.length /\ i = .int .i64 k /\ Hid (∀ j (hj : j < l.length), j < k -> uc m l[j] = true)) (fun i => l.length - (intOf i).toNat)
 case atStart => exact ⟨0, Nat.zero_le _, rfl, Hh (fun j hj h => by omega)⟩
 case round =>
  obtain ⟨k, hk, rfl, H⟩ := hrel;by_cases hlt : k < l.length
  ·
   have hlt' : (k : Int) < l.length := ak;obtain ⟨b, off, rfl, _, xa⟩ := hA ak;have c1 := xa k hlt;clear xa;cases hb : uc m l[k] with
   | true => obtain ⟨h1, h2⟩ := (Sg _ _).1 hb;have HB := Hh hb;clear hb;obtain ⟨x, hx⟩ : ∃ x, x = l[k] := eE;rw [<- hx] at c1 h1 h2;clear hx;have d1 : decide (x < 0) = false := gv;have d2 : decide (m < x) = false := gv;exact kS
   | false =>
    have hno : l.all (uc m) = false := by rw [List.all_eq_false]; exact ⟨l[k], List.getElem_mem hlt, aC⟩
    have HN := Hh hno;have h12 := Uy hb;generalize l[k] = x at *;clear hb hno;by_cases h1 : x < 0
    ·have d1 : decide (x < 0) = true := decide_eq_true h1;exact mU
    ·have d1 : decide (x < 0) = false := decide_eq_false h1;have h2 : m < x := ak;have d2 : decide (m < x) = true := decide_eq_true h2;clear h12;exact mU
  ·
   have hlt' : ¬ (k : Int) < l.length := ak;have hyes : l.all (uc m) = true := by rw [List.all_eq_true]; intro x hx;obtain ⟨j, hj, rfl⟩ := List.getElem_of_mem hx;exact H.out j hj ak
   have HY := Hh hyes;clear hyes;go_wp2_with fail;go_ret;exact rN.mk (sd HY.out.symm) rfl
def rS : List (List (List UInt8)) -> Int
 | [] => 0
 | n :: ls => if nH n ≠ 0 then nH n else rS ls
theorem Mj {ls : List (List (List UInt8))} (h : ∀ j (hj : j < ls.length), nH ls[j] = 0) : rS ls = 0 := by
 induction ls with
 | nil => rfl
 | cons n ls ih => have h0 := h 0 ag;simp at h0;unfold rS;exact mF
theorem Jm {ls : List (List (List UInt8))} {k : Nat} (hk : k < ls.length) (h : ∀ j (hj : j < ls.length), j < k -> nH ls[j] = 0) (hb : nH ls[k] ≠ 0) : rS ls = nH ls[k] := by
 induction ls generalizing k with
 | nil => simp at hk
 | cons n ls ih =>
  cases k with
  | zero => simp only [List.getElem_cons_zero] at hb ⊢; unfold rS; rw [if_pos hb]
  | succ k => have h0 := h 0 ag ak;simp at h0;unfold rS;exact lN
theorem xh (A : Option Addr) (c : Nat) (ls : List (List (List UInt8))) (w : World) (hA : yu w A ls) (hl : ls.length <= 281474976710656) : Calls prog 247 #[.slice A ls.length c] w (rN (.int .i64 (rS ls)) w) := by
 go_enter func247, ntmps247;go_wp2_with fail;go_loop [8] (fun i => ∃ k : Nat, k <= ls.length /\ i = .int .i64 k /\ Hid (∀ j (hj : j < ls.length), j < k -> nH ls[j] = 0)) (fun i => ls.length - (intOf i).toNat)
 case atStart => exact ⟨0, Nat.zero_le _, rfl, Hh (fun j hj h => by omega)⟩
 case round =>
  obtain ⟨k, hk, rfl, H⟩ := hrel;by_cases hlt : k < ls.length
  ·
   have hlt' : (k : Int) < ls.length := ak;obtain ⟨b, off, rfl, _, xa⟩ := hA ak;obtain ⟨Ai, ci, c1, hR⟩ := xa k hlt;have C := rP Ai ci ls[k] w hR.1 (by have := hR.2.2.1; omega);clear xa;by_cases h0 : nH ls[k] = 0
   ·
    rw [h0] at C;have H0 := Hh h0;clear h0;go_wp2_with fail;refine C.mono ?_;rintro _ w1 ⟨rfl, rfl⟩;clear C;go_wp2_with fail;go_round
    case rel => exact ⟨k + 1, ak, eh, Hh (fun j hj h => by
     by_cases e : j = k
     ·subst e; exact H0.out
     ·
      exact H.out j hj ak)⟩
    case measure => simp [intOf]; omega
   ·have hb := Hh (Jm hlt H.out h0);generalize nH ls[k] = e at *;have h0' : (e != 0) = true := iC;clear h0;go_wp2_with fail;refine C.mono ?_;rintro _ w1 ⟨rfl, rfl⟩;clear C;go_wp2_with fail;go_ret;exact rN.mk (ru hb.out.symm) rfl
  ·have hlt' : ¬ (k : Int) < ls.length := ak;have hy := Hh (Mj (fun j hj => H.out j hj ak));go_wp2_with fail;go_ret;exact rN.mk (ru hy.out.symm) rfl
def Uz (a : oi) (f : Int) : Int := if a.check ≠ 0 \/ a.fam ≠ f \/ a.zone ≠ 0 then 10 else 0
theorem yQ (x : oi) (f : Int) (hx : x.ip.length = 16) (w : World) : Calls prog 246 #[.agg x.cells.toArray, .int .i64 f] w (nM (.int .i64 (Uz x f)) w) := by
 have hcl := x.nV hx;have g0 : ∀ hi : 0 < x.cells.length, x.cells[0]'hi = .int .i64 x.fam := qz rfl;have g17 : ∀ hi : 17 < x.cells.length, x.cells[17]'hi = .int .i64 x.zone := qz (x.zi hx);have C := Hh (uq x hx);have hb := nj.new w 24 x.cells;have hld : ((x.cells).drop 0).take 18 = x.cells := by rw [List.drop_zero, List.take_of_length_le ak]
 have HL := Hh hld;have c0 : x.cells[0]? = some (.int .i64 x.fam) := rfl;have c17 := x.zi hx;clear hld;have he : Uz x f = if x.check ≠ 0 \/ x.fam ≠ f \/ x.zone ≠ 0 then 10 else 0 := rfl
 generalize Uz x f = er at *;have HE := Hh he;clear he;obtain ⟨ck, hck⟩ : ∃ ck, ck = x.check := eE;rw [<- hck] at C HE;clear hck;generalize x.fam = fm at *;generalize x.zone = zn at *;generalize x.cells = L at *;go_enter func246, ntmps246;go_wp2_with (refine nh (.load 24 (.tmp 2)) rfl ?_; go_must (refine ni rfl _ _ rfl w.heap.size 0 rfl hb 18 ak _ underlying24 rfl pt L HL.out ?_));go_wp2_with fail;refine (C.out _).mono ?_;rintro _ w1 ⟨rfl, b1⟩;have hb1 := hb.below b1 ag;have hB := nc ((Below.refl _ w).alloc (Nat.le_refl _) (.cells L.toArray 24)) ag b1;have u0 := hb1.nf 0 c0;have u17 := hb1.nf 17 c17;clear b1 hb hb1 C HL g0 g17;by_cases h1 : ck = 0
 ·
  have e1 : (ck != 0) = false := gO;by_cases h2 : fm = f
  ·
   have e2 : (fm != f) = false := en;by_cases h3 : zn = 0
   ·have e3 : (zn != 0) = false := jx;have hr := HE.out;rw [if_neg (by simp [h1, h2, h3])] at hr;subst hr;clear HE;clear h1 h2 h3;exact kV
   ·have e3 : (zn != 0) = true := jx;have hr := HE.out;rw [if_pos (.inr (.inr h3))] at hr;subst hr;clear HE;clear h1 h2 h3;exact kV
  ·have e2 : (fm != f) = true := en;have hr := HE.out;rw [if_pos (.inr (.inl h2))] at hr;subst hr;clear HE;clear h1 h2;exact kV
 ·have e1 : (ck != 0) = true := gO;have hr := HE.out;rw [if_pos (.inl h1)] at hr;subst hr;clear HE;clear h1;exact kV
set_option linter.unusedSimpArgs false
def nA : Value := .slice none 0 0
def RR.zero : RR := ⟨[], 0, 0, 0, oi.zero, [], [], 0, 0, 0, [0, 0, 0, 0, 0], []⟩
def pr : List Value := pO nA nA nA RR.zero
theorem xP : pr.length = 33 := pn ⟨rfl, rfl⟩
section
variable {vn vt vm : Value} {r : RR}
theorem Dv (h : r.wf) (a : oi) : (pO vn vt vm r).take 4 ++ a.cells ++ (pO vn vt vm r).drop 22 = pO vn vt vm { r with ad := a } := by
 have e : (pO vn vt vm r).drop 22 = (vt :: vm :: .int .i64 r.pri :: .int .i64 r.we :: .int .i64 r.po :: (n7 r.nums ++ [.string (bs r.raw)])) := by have e2 : pO vn vt vm r = (vn :: .int .i64 r.ty :: .int .i64 r.cl :: .int .i64 r.ttl :: r.ad.cells) ++ (vt :: vm :: .int .i64 r.pri :: .int .i64 r.we :: .int .i64 r.po :: (n7 r.nums ++ [.string (bs r.raw)])) := iE;have hl : (vn :: .int .i64 r.ty :: .int .i64 r.cl :: .int .i64 r.ttl :: r.ad.cells).length = 22 := fO;rw [e2, <- hl, List.drop_left]
 rw [e];simp [pO]
end
theorem vJ {L sub : List Value} (h : L.length = sub.length) : L.take 0 ++ sub ++ L.drop (0 + sub.length) = sub := by
 rw [List.take_zero, List.nil_append, Nat.zero_add, List.drop_of_length_le ak, List.append_nil]
theorem oi.OT : oi.zero.cells.length = 18 := oi.zero.nV rfl
set_option maxHeartbeats 2000000 in
theorem VF (vn vt vm : Value) (r : RR) (hr : r.wf) (hn : vn.oneCell' = true) (ht : vt.oneCell' = true) (hm : vm.oneCell' = true) (w : World) (hk : nX r.ty r.cl = 1) :
  Calls prog 235 #[.agg (pO vn vt vm r).toArray] w (nM (.tuple #[.agg (pO vn vt vm { r with ad := oi.zero }).toArray, .int .i64 (Uz r.ad 4)]) w) := by
 have hl := pn (vn := vn) (vt := vt) (vm := vm) hr;have L1? := Dt (vn := vn) (vt := vt) (vm := vm) (r := r);have L2? := Du (vn := vn) (vt := vt) (vm := vm) (r := r);have LA := Hh (yv (vn := vn) (vt := vt) (vm := vm) hr);have LS := Hh (Dv (vn := vn) (vt := vt) (vm := vm) hr oi.zero);have L1c := Hh (qg (r := r) hn ht hm);have L4c := Hh (qg (r := { r with ad := oi.zero }) hn ht hm);have L4l := pn (vn := vn) (vt := vt) (vm := vm) (r := { r with ad := oi.zero }) ⟨rfl, hr.2⟩;have K := Hh (fun w => oN r.ty r.cl w);rw [hk] at K;have AD := Hh (yQ r.ad 4 hr.1);generalize pO vn vt vm { r with ad := oi.zero } = L4 at *;generalize pO vn vt vm r = L at *;generalize Uz r.ad 4 = e at *;generalize r.ad.cells = LAd at *;generalize r.ty = ty at *;generalize r.cl = cl at *;clear hk;have B0 := nj.new w 119 L;go_enter func235, ntmps235;go_wp2_with (first
  | (refine nh (.load 119 (.tmp 1)) rfl ?_; go_must (refine ni rfl _ _ rfl w.heap.size 0 rfl (nj.alloc (nj.new w 119 L) _) 33 ak _ underlying119 rfl oG L (qj ak) ?_))
  | (refine nh (.store 119 (.tmp 4) (.tmp 6)) rfl (ab rfl (w.heap.size + 1 + 1) 0 L (nj.ph _ _ pr _ ag) aQ aR L1c.out ?_)))
 intro w3 hb3 hg3 hs3;have B1 : nj w3 w.heap.size 119 L := fi;have B2 : nj w3 (w.heap.size + 1) 119 pr := eY;have B4 : nj w3 (w.heap.size + 1 + 1) 119 L := eQ;have HB : Below w.heap.size w w3 := eK;clear hb3 hg3 B0;have u1 := B1.nf 1 L1?;have u2 := B1.nf 2 L2?;clear L1? L2?;go_wp2_with fail;refine (K.out _).mono ?_;rintro _ w4 ⟨rfl, rfl⟩;clear K u1 u2;go_wp2_with (refine nh (.store 24 (.tmp 15) (.tmp 14)) rfl (ab rfl (w.heap.size + 1 + 1) 4 oi.zero.cells B4 (by rw [hl]; decide) pt (oi.qb _) ?_));intro w4 hb4 hg4 hs4;have B1' := B1.grown hg4 al;have B2' := B2.grown hg4 ag;have B4' : nj w4 (w.heap.size + 1 + 1) 119 L4 := gk;have HB' : Below w.heap.size w w4 := ng HB hg4 HB.size ak;clear hb4 hg4 B1 B2 B4 HB;go_wp2_with fail;refine wp_region_held_drew (S := fun w' => nj w' w.heap.size 119 L /\ nj w' (w.heap.size + 1 + 1) 119 L4) (by kernel_rfl) ⟨B1', B4'⟩ (fun hS => ?_);refine qf 0 (some 16) 119 (.tmp 4) ⟨w.heap.size + 1 + 1, 0, none⟩ rfl rfl rfl rfl (by kernel_rfl) (by kernel_rfl) (by kernel_rfl) (fun _ _ _ h => h) rfl (fun W hW => hW.2.pF 119 0 33 ak _ underlying119 rfl oG L4 (qj ak)) hS ?_;simp only [Act.put, nB, nC, nD]
 (refine nF 1 (some 17) rfl rfl (by kernel_rfl) (by kernel_rfl) (by kernel_rfl) (fun _ _ _ h => h) (by kernel_rfl) (fun W hW => rfl) hS ?_; simp only [Act.put, nB, nC, nD])
 refine qf 2 (some 18) 24 (.tmp 17) ⟨w.heap.size, 4, none⟩ rfl rfl rfl rfl (by kernel_rfl) (by kernel_rfl) (by kernel_rfl) (fun _ _ _ h => h) (by kernel_rfl) (fun W hW => hW.1.pF 24 4 18 ak _ underlying24 rfl pt LAd LA.out) hS ?_;simp only [Act.put, nB, nC, nD];refine oY 3 (some 19) 246 #[.agg LAd.toArray, .int .i64 4] (by kernel_rfl) rfl rfl (by kernel_rfl) aS (AD.out _) ?_;rintro _ w5 ⟨rfl, b5⟩;have B1'' := hS.1.below b5 hS.1.lt;have B4'' := hS.2.below b5 hS.2.lt;have B2'' := B2'.drew.below b5 B2'.drew.lt;have HB'' : Below w.heap.size w w5 := iA;refine ⟨_, rfl, ⟨B1'', B4''⟩, ?_⟩;clear hS B1' B4' B2' HB' b5;simp only [Act.put, nB, nC, nD];refine pG 4 none 119 (.tmp 2) (.tmp 16) (by kernel_rfl) rfl rfl rfl (by kernel_rfl) (w.heap.size + 1) 0 rfl L4 rfl B2'' aQ aT L4c.out ?_;intro w6 hb6 hg6 hs6;rw [vJ aQ] at hb6;have HB6 : Below w.heap.size w w6 := fW;have hS : nj w6 w.heap.size 119 L /\ nj w6 (w.heap.size + 1 + 1) 119 L4 := fI;refine ⟨hS, ?_⟩;clear B1'' B4'' B2'' HB'' hg6;simp only [Act.put, nB, nC, nD]
 (refine nF 5 (some 3) rfl rfl (by kernel_rfl) (by kernel_rfl) (by kernel_rfl) (fun _ _ _ h => h) (by kernel_rfl) (fun W hW => rfl) hS ?_; simp only [Act.put, nB, nC, nD])
 refine wpAnyH_done (by kernel_rfl) ?_ _;exact ka
set_option maxHeartbeats 2000000 in
theorem UA (vn vt vm : Value) (r : RR) (hr : r.wf) (hn : vn.oneCell' = true) (ht : vt.oneCell' = true) (hm : vm.oneCell' = true) (w : World) (hk : nX r.ty r.cl = 28) :
  Calls prog 235 #[.agg (pO vn vt vm r).toArray] w (nM (.tuple #[.agg (pO vn vt vm { r with ad := oi.zero }).toArray, .int .i64 (Uz r.ad 6)]) w) := by
 have hl := pn (vn := vn) (vt := vt) (vm := vm) hr;have L1? := Dt (vn := vn) (vt := vt) (vm := vm) (r := r);have L2? := Du (vn := vn) (vt := vt) (vm := vm) (r := r);have LA := Hh (yv (vn := vn) (vt := vt) (vm := vm) hr);have LS := Hh (Dv (vn := vn) (vt := vt) (vm := vm) hr oi.zero);have L1c := Hh (qg (r := r) hn ht hm);have L4c := Hh (qg (r := { r with ad := oi.zero }) hn ht hm);have L4l := pn (vn := vn) (vt := vt) (vm := vm) (r := { r with ad := oi.zero }) ⟨rfl, hr.2⟩;have K := Hh (fun w => oN r.ty r.cl w);rw [hk] at K;have AD := Hh (yQ r.ad 6 hr.1);generalize pO vn vt vm { r with ad := oi.zero } = L4 at *;generalize pO vn vt vm r = L at *;generalize Uz r.ad 6 = e at *;generalize r.ad.cells = LAd at *;generalize r.ty = ty at *;generalize r.cl = cl at *;clear hk;have B0 := nj.new w 119 L;go_enter func235, ntmps235;go_wp2_with (first
  | (refine nh (.load 119 (.tmp 1)) rfl ?_; go_must (refine ni rfl _ _ rfl w.heap.size 0 rfl (nj.alloc (nj.new w 119 L) _) 33 ak _ underlying119 rfl oG L (qj ak) ?_))
  | (refine nh (.store 119 (.tmp 4) (.tmp 6)) rfl (ab rfl (w.heap.size + 1 + 1) 0 L (nj.ph _ _ pr _ ag) aQ aR L1c.out ?_)))
 intro w3 hb3 hg3 hs3;have B1 : nj w3 w.heap.size 119 L := fi;have B2 : nj w3 (w.heap.size + 1) 119 pr := eY;have B4 : nj w3 (w.heap.size + 1 + 1) 119 L := eQ;have HB : Below w.heap.size w w3 := eK;clear hb3 hg3 B0;have u1 := B1.nf 1 L1?;have u2 := B1.nf 2 L2?;clear L1? L2?;go_wp2_with fail;refine (K.out _).mono ?_;rintro _ w4 ⟨rfl, rfl⟩;clear K u1 u2;go_wp2_with (refine nh (.store 24 (.tmp 23) (.tmp 22)) rfl (ab rfl (w.heap.size + 1 + 1) 4 oi.zero.cells B4 (by rw [hl]; decide) pt (oi.qb _) ?_));intro w4 hb4 hg4 hs4;have B1' := B1.grown hg4 al;have B2' := B2.grown hg4 ag;have B4' : nj w4 (w.heap.size + 1 + 1) 119 L4 := gk;have HB' : Below w.heap.size w w4 := ng HB hg4 HB.size ak;clear hb4 hg4 B1 B2 B4 HB;go_wp2_with fail;refine wp_region_held_drew (S := fun w' => nj w' w.heap.size 119 L /\ nj w' (w.heap.size + 1 + 1) 119 L4) (by kernel_rfl) ⟨B1', B4'⟩ (fun hS => ?_);refine qf 0 (some 24) 119 (.tmp 4) ⟨w.heap.size + 1 + 1, 0, none⟩ rfl rfl rfl rfl (by kernel_rfl) (by kernel_rfl) (by kernel_rfl) (fun _ _ _ h => h) rfl (fun W hW => hW.2.pF 119 0 33 ak _ underlying119 rfl oG L4 (qj ak)) hS ?_;simp only [Act.put, nB, nC, nD]
 (refine nF 1 (some 25) rfl rfl (by kernel_rfl) (by kernel_rfl) (by kernel_rfl) (fun _ _ _ h => h) (by kernel_rfl) (fun W hW => rfl) hS ?_; simp only [Act.put, nB, nC, nD])
 refine qf 2 (some 26) 24 (.tmp 25) ⟨w.heap.size, 4, none⟩ rfl rfl rfl rfl (by kernel_rfl) (by kernel_rfl) (by kernel_rfl) (fun _ _ _ h => h) (by kernel_rfl) (fun W hW => hW.1.pF 24 4 18 ak _ underlying24 rfl pt LAd LA.out) hS ?_;simp only [Act.put, nB, nC, nD];refine oY 3 (some 27) 246 #[.agg LAd.toArray, .int .i64 6] (by kernel_rfl) rfl rfl (by kernel_rfl) aS (AD.out _) ?_;rintro _ w5 ⟨rfl, b5⟩;have B1'' := hS.1.below b5 hS.1.lt;have B4'' := hS.2.below b5 hS.2.lt;have B2'' := B2'.drew.below b5 B2'.drew.lt;have HB'' : Below w.heap.size w w5 := iA;refine ⟨_, rfl, ⟨B1'', B4''⟩, ?_⟩;clear hS B1' B4' B2' HB' b5;simp only [Act.put, nB, nC, nD];refine pG 4 none 119 (.tmp 2) (.tmp 24) (by kernel_rfl) rfl rfl rfl (by kernel_rfl) (w.heap.size + 1) 0 rfl L4 rfl B2'' aQ aT L4c.out ?_;intro w6 hb6 hg6 hs6;rw [vJ aQ] at hb6;have HB6 : Below w.heap.size w w6 := fW;have hS : nj w6 w.heap.size 119 L /\ nj w6 (w.heap.size + 1 + 1) 119 L4 := fI;refine ⟨hS, ?_⟩;clear B1'' B4'' B2'' HB'' hg6;simp only [Act.put, nB, nC, nD]
 (refine nF 5 (some 3) rfl rfl (by kernel_rfl) (by kernel_rfl) (by kernel_rfl) (fun _ _ _ h => h) (by kernel_rfl) (fun W hW => rfl) hS ?_; simp only [Act.put, nB, nC, nD])
 refine wpAnyH_done (by kernel_rfl) ?_ _;exact ka
section
variable {vn vt vm : Value} {r : RR}
theorem uD (h : r.wf) (k : Nat) (v : Value) : (pO vn vt vm r).set (22 + k) v = (vn :: .int .i64 r.ty :: .int .i64 r.cl :: .int .i64 r.ttl :: r.ad.cells) ++ (vt :: vm :: .int .i64 r.pri :: .int .i64 r.we :: .int .i64 r.po :: (n7 r.nums ++ [.string (bs r.raw)])).set k v := by
 have e2 : pO vn vt vm r = (vn :: .int .i64 r.ty :: .int .i64 r.cl :: .int .i64 r.ttl :: r.ad.cells) ++ (vt :: vm :: .int .i64 r.pri :: .int .i64 r.we :: .int .i64 r.po :: (n7 r.nums ++ [.string (bs r.raw)])) := iE;have hl : (vn :: .int .i64 r.ty :: .int .i64 r.cl :: .int .i64 r.ttl :: r.ad.cells).length = 22 := fO;rw [e2, List.set_append_right _ _ ak, hl, Nat.add_sub_cancel_left]
theorem yw (h : r.wf) (v : Value) : (pO vn vt vm r).set 22 v = pO vn v vm r := by rw [uD h 0]; simp [pO]
theorem Mk (h : r.wf) (v : Value) : (pO vn vt vm r).set 23 v = pO vn vt v r := by rw [uD h 1]; simp [pO]
theorem Jn (h : r.wf) (x : Int) : (pO vn vt vm r).set 24 (.int .i64 x) = pO vn vt vm { r with pri := x } := by rw [uD h 2]; simp [pO]
theorem Ml (h : r.wf) (x : Int) : (pO vn vt vm r).set 25 (.int .i64 x) = pO vn vt vm { r with we := x } := by rw [uD h 3]; simp [pO]
theorem Mm (h : r.wf) (x : Int) : (pO vn vt vm r).set 26 (.int .i64 x) = pO vn vt vm { r with po := x } := by rw [uD h 4]; simp [pO]
theorem Jo (h : r.wf) (x : List UInt8) : (pO vn vt vm r).set 32 (.string (bs x)) = pO vn vt vm { r with raw := x } := by
 rw [uD h 10];have e : (n7 r.nums ++ [Value.string (bs r.raw)]).set 5 (.string (bs x)) = n7 r.nums ++ [.string (bs x)] := by rw [List.set_append_right _ _ aN]; simp [n7, h.2]
 simp [pO, e]
theorem GD (h : r.wf) (l : List Int) (hl : l.length = 5) : (pO vn vt vm r).take 27 ++ n7 l ++ (pO vn vt vm r).drop 32 = pO vn vt vm { r with nums := l } := by
 have e : pO vn vt vm r = (vn :: .int .i64 r.ty :: .int .i64 r.cl :: .int .i64 r.ttl :: (r.ad.cells ++ [vt, vm, .int .i64 r.pri, .int .i64 r.we, .int .i64 r.po])) ++ (n7 r.nums ++ [.string (bs r.raw)]) := iE;have hl : (vn :: .int .i64 r.ty :: .int .i64 r.cl :: .int .i64 r.ttl :: (r.ad.cells ++ [vt, vm, .int .i64 r.pri, .int .i64 r.we, .int .i64 r.po])).length = 27 := fO;have e1 : (pO vn vt vm r).take 27 = (vn :: .int .i64 r.ty :: .int .i64 r.cl :: .int .i64 r.ttl :: (r.ad.cells ++ [vt, vm, .int .i64 r.pri, .int .i64 r.we, .int .i64 r.po])) := by rw [e, <- hl, List.take_left]
 have e2 : (pO vn vt vm r).drop 32 = [.string (bs r.raw)] := by rw [e, show 32 = 27 + 5 from rfl, <- List.drop_drop, <- hl, List.drop_left];exact List.drop_left' aN
 rw [e1, e2];simp [pO]
end
theorem z9 (n : List (List UInt8)) : rS [n] = nH n := by simp only [rS]; split <;> simp_all
theorem yu.VG {w : World} {A : Option Addr} {c : Nat} {n : List (List UInt8)} (h : rQ w A c n) (k : Nat) (hk : k = w.heap.size) (t : TypeId) : yu (w.alloc (.cells #[.slice A n.length c] t)) (some ⟨k, 0, none⟩) [n] := by
 intro _;subst hk;refine ⟨_, 0, rfl, ag, fun i hi => ?_⟩;have hi0 : i = 0 := by simp at hi; exact hi
 subst hi0;exact ⟨A, c, (nj.new w t [.slice A n.length c]).nf 0 rfl, h.below ((Below.refl _ _).alloc (Nat.le_refl _) _)⟩
theorem yu.Wz {w : World} {A B : Option Addr} {c d : Nat} {n m : List (List UInt8)} (h : rQ w A c n) (h2 : rQ w B d m) (k : Nat) (hk : k = w.heap.size) (t : TypeId) : yu (w.alloc (.cells #[.slice A n.length c, .slice B m.length d] t)) (some ⟨k, 0, none⟩) [n, m] := by
 intro _;subst hk;refine ⟨_, 0, rfl, ag, fun i hi => ?_⟩;have hb := (Below.refl w.heap.size w).alloc (Nat.le_refl _) (.cells #[.slice A n.length c, .slice B m.length d] t);have hb1 := nj.new w t [.slice A n.length c, .slice B m.length d];have hi0 : i = 0 \/ i = 1 := by simp at hi; omega
 rcases hi0 with rfl | rfl
 ·exact ⟨A, c, hb1.nf 0 rfl, h.below hb⟩
 ·exact ⟨B, d, hb1.nf 1 rfl, h2.below hb⟩
set_option maxHeartbeats 2000000 in
theorem VI (vn vm : Value) (At : Option Addr) (ct : Nat) (r : RR) (hr : r.wf) (hn : vn.oneCell' = true) (hm : vm.oneCell' = true) (w : World) (hT : rQ w At ct r.tg) (hk : nX r.ty r.cl = 5 \/ nX r.ty r.cl = 12) :
  Calls prog 235 #[.agg (pO vn (.slice At r.tg.length ct) vm r).toArray] w (nM (.tuple #[.agg (pO vn nA vm { r with tg := [] }).toArray, .int .i64 (nH r.tg)]) w) := by
 obtain ⟨vt, hvt⟩ : ∃ v, v = Value.slice At r.tg.length ct := eE;have ht : vt.oneCell' = true := jA;rw [<- hvt];have hl := pn (vn := vn) (vt := vt) (vm := vm) hr;have L1? := Dt (vn := vn) (vt := vt) (vm := vm) (r := r);have L2? := Du (vn := vn) (vt := vt) (vm := vm) (r := r);have L22 := uV (vn := vn) (vt := vt) (vm := vm) hr;have LS := Hh (yw (vn := vn) (vt := vt) (vm := vm) hr nA);have L1c := Hh (qg (r := r) hn ht hm);have L4c := Hh (qg (vt := nA) (r := { r with tg := [] }) hn rfl hm);have L4l := pn (vn := vn) (vt := nA) (vm := vm) (r := { r with tg := [] }) hr;have K := Hh (fun w => oN r.ty r.cl w);have E := Hh (z9 r.tg);change Hid (_ = pO vn nA vm { r with tg := [] }) at LS;generalize pO vn nA vm { r with tg := [] } = L4 at *;generalize pO vn vt vm r = L at *;generalize nH r.tg = e at *;generalize nX r.ty r.cl = k at *;generalize r.ty = ty at *;generalize r.cl = cl at *;rcases hk with rfl | rfl;all_goals
  have B0 := nj.new w 119 L;go_enter func235, ntmps235;go_wp2_with (first
   | (refine nh (.load 119 (.tmp 1)) rfl ?_; go_must (refine ni rfl _ _ rfl w.heap.size 0 rfl (nj.alloc (nj.new w 119 L) _) 33 ak _ underlying119 rfl oG L (qj ak) ?_))
   | (refine nh (.store 119 (.tmp 4) (.tmp 6)) rfl (ab rfl (w.heap.size + 1 + 1) 0 L (nj.ph _ _ pr _ ag) aQ aR L1c.out ?_)))
  intro w3 hb3 hg3 hs3;have B1 : nj w3 w.heap.size 119 L := fi;have B2 : nj w3 (w.heap.size + 1) 119 pr := eY;have B4 : nj w3 (w.heap.size + 1 + 1) 119 L := eQ;have HB : Below w.heap.size w w3 := eK;clear hb3 hg3 B0;have u1 := B1.nf 1 L1?;have u2 := B1.nf 2 L2?;clear L1? L2?;go_wp2_with fail;refine (K.out _).mono ?_;rintro _ w4 ⟨rfl, rfl⟩;clear K u1 u2;have u22 := B4.nf 22 L22;have f22 := B4.frozen 22;go_wp2_with fail;have B4' := B4.set 22 nA;rw [LS.out] at B4';have B1' := B1.sF (p := ⟨w.heap.size + 1 + 1, 22, none⟩) al nA;have B2' := B2.sF (p := ⟨w.heap.size + 1 + 1, 22, none⟩) ag nA;have HB' : Below w.heap.size w (w3.setCell ⟨w.heap.size + 1 + 1, 22, none⟩ nA) := HB.setCell al _;have hs4 : (w3.setCell ⟨w.heap.size + 1 + 1, 22, none⟩ nA).heap.size = w.heap.size + 1 + 1 + 1 := gG;change Code.wp _ _ _ _ (w3.setCell ⟨w.heap.size + 1 + 1, 22, none⟩ nA);generalize w3.setCell ⟨w.heap.size + 1 + 1, 22, none⟩ nA = w4 at *;clear B1 B2 B4 HB f22 hs3 LS;refine wp_region_held_drew (S := fun w' => nj w' w.heap.size 119 L /\ nj w' (w.heap.size + 1 + 1) 119 L4) (by kernel_rfl) ⟨B1', B4'⟩ (fun hS => ?_);refine qf 0 (some 32) 119 (.tmp 4) ⟨w.heap.size + 1 + 1, 0, none⟩ rfl rfl rfl rfl (by kernel_rfl) (by kernel_rfl) (by kernel_rfl) (fun _ _ _ h => h) rfl (fun W hW => hW.2.pF 119 0 33 ak _ underlying119 rfl oG L4 (qj ak)) hS ?_;simp only [Act.put, nB, nC, nD]
  (refine nF 1 (some 33) rfl rfl (by kernel_rfl) (by kernel_rfl) (by kernel_rfl) (fun _ _ _ h => h) (by kernel_rfl) (fun W hW => rfl) hS ?_; simp only [Act.put, nB, nC, nD])
  refine qf 2 (some 34) 26 (.tmp 33) ⟨w.heap.size, 22, none⟩ rfl rfl rfl rfl (by kernel_rfl) (by kernel_rfl) (by kernel_rfl) (fun _ _ _ h => h) (by kernel_rfl) (fun W hW => nN underlying26 rfl (hW.1.nf 22 L22)) hS ?_;simp only [Act.put, nB, nC, nD];have HB5 : Below w.heap.size w w4.drew := below_drewN HB' 1;refine vH 3 (some 35) (by kernel_rfl) rfl rfl (by kernel_rfl) (v := .slice (some ⟨w4.drew.heap.size, 0, none⟩) 1 1) (w' := w4.drew.alloc (.cells #[vt] 26)) aS ⟨hS.1.alloc _, hS.2.alloc _⟩ ?_;simp only [Act.put, nB, nC, nD];have AN := xh (some ⟨w4.drew.heap.size, 0, none⟩) 1 [r.tg] _ (hvt ▸ yu.VG (hT.below HB5) w4.drew.heap.size rfl 26) ag;rw [E.out] at AN;refine oY 4 (some 36) 247 #[.slice (some ⟨w4.drew.heap.size, 0, none⟩) 1 1] (by kernel_rfl) rfl rfl (by kernel_rfl) aS AN ?_;rintro _ w5 ⟨rfl, b5⟩;have HB'' : Below w.heap.size w w5 := b5 ▸ HB5.alloc HB5.size _;have B1'' : nj w5 w.heap.size 119 L := b5 ▸ hS.1.alloc _;have B4'' : nj w5 (w.heap.size + 1 + 1) 119 L4 := b5 ▸ hS.2.alloc _;have B2'' : nj w5 (w.heap.size + 1) 119 pr := b5 ▸ B2'.drew.alloc _;refine ⟨_, rfl, ⟨B1'', B4''⟩, ?_⟩;clear hS B1' B4' B2' HB' HB5 b5 AN;simp only [Act.put, nB, nC, nD];refine pG 5 none 119 (.tmp 2) (.tmp 32) (by kernel_rfl) rfl rfl rfl (by kernel_rfl) (w.heap.size + 1) 0 rfl L4 rfl B2'' aQ aT L4c.out ?_;intro w6 hb6 hg6 hs6;rw [vJ aQ] at hb6;have HB6 : Below w.heap.size w w6 := fW;have hS : nj w6 w.heap.size 119 L /\ nj w6 (w.heap.size + 1 + 1) 119 L4 := fI;refine ⟨hS, ?_⟩;clear B1'' B4'' B2'' HB'' hg6;simp only [Act.put, nB, nC, nD]
  (refine nF 6 (some 3) rfl rfl (by kernel_rfl) (by kernel_rfl) (by kernel_rfl) (fun _ _ _ h => h) (by kernel_rfl) (fun W hW => rfl) hS ?_; simp only [Act.put, nB, nC, nD])
  refine wpAnyH_done (by kernel_rfl) ?_ _;exact ka
theorem xN.new {w : World} (l : List Int) (k : Nat) (hk : k = w.heap.size) (t : TypeId) : xN (w.alloc (.cells (n7 l).toArray t)) (some ⟨k, 0, none⟩) l := by
 intro _;subst hk;refine ⟨_, 0, rfl, ag, fun i hi => ?_⟩;rw [Nat.zero_add];exact (nj.new w t (n7 l)).nf i (by simp [n7, hi])
theorem xN.at {w : World} {g : Nat} {t : TypeId} {L : List Value} {l : List Int} (h : nj w g t L) (o : Nat) (hl : (L.drop o).take l.length = n7 l) : xN w (some ⟨g, o, none⟩) l := by
 intro _;refine ⟨_, o, rfl, h.lt, fun i hi => ?_⟩;refine h.nf (o + i) ?_;have h1 : ((L.drop o).take l.length)[i]? = some (.int .i64 l[i]) := by rw [hl]; simp [n7, hi]
 rw [List.getElem?_take_of_lt hi, List.getElem?_drop] at h1;exact h1
theorem WB {w : World} {g : Nat} {t : TypeId} {L L' : List Value} {i : Nat} {v : Value} (h : nj w g t L) (he : L.set i v = L') : nj (w.setCell ⟨g, i, none⟩ v) g t L' := he ▸ h.set i v
set_option maxHeartbeats 4000000 in
theorem UB (vn vm : Value) (At : Option Addr) (ct : Nat) (r : RR) (hr : r.wf) (hn : vn.oneCell' = true) (hm : vm.oneCell' = true) (w : World) (hT : rQ w At ct r.tg) (hk : nX r.ty r.cl = 33) :
  Calls prog 235 #[.agg (pO vn (.slice At r.tg.length ct) vm r).toArray] w (nM (.tuple #[.agg (pO vn nA vm { r with pri := 0, we := 0, po := 0, tg := [] }).toArray, .int .i64 (if [r.pri, r.we, r.po].all (uc 65535) then nH r.tg else 4)]) w) := by
 obtain ⟨vt, hvt⟩ : ∃ v, v = Value.slice At r.tg.length ct := eE;have ht : vt.oneCell' = true := jA;rw [<- hvt];have hl := pn (vn := vn) (vt := vt) (vm := vm) hr;have L1? := Dt (vn := vn) (vt := vt) (vm := vm) (r := r);have L2? := Du (vn := vn) (vt := vt) (vm := vm) (r := r);have L22 := uV (vn := vn) (vt := vt) (vm := vm) hr;have L24 := zV (vn := vn) (vt := vt) (vm := vm) hr;have L25 := zW (vn := vn) (vt := vt) (vm := vm) hr;have L26 := zX (vn := vn) (vt := vt) (vm := vm) hr;have LS : Hid (((((pO vn vt vm r).set 24 (.int .i64 0)).set 25 (.int .i64 0)).set 26 (.int .i64 0)).set 22 nA = pO vn nA vm { r with pri := 0, we := 0, po := 0, tg := [] }) := Hh (by
  rw [Jn hr, Ml (r := { r with pri := 0 }) hr, Mm (r := { r with pri := 0, we := 0 }) hr, yw (r := { r with pri := 0, we := 0, po := 0 }) hr]; rfl)
 have L1c := Hh (qg (r := r) hn ht hm);have L4c := Hh (qg (vt := nA) (r := { r with pri := 0, we := 0, po := 0, tg := [] }) hn rfl hm);have L4l := pn (vn := vn) (vt := nA) (vm := vm) (r := { r with pri := 0, we := 0, po := 0, tg := [] }) hr;have K := Hh (fun w => oN r.ty r.cl w);rw [hk] at K;have E := Hh (z9 r.tg);have WI := Hh (fun w A h => uf 65535 A 3 [r.pri, r.we, r.po] w h ag);generalize pO vn nA vm { r with pri := 0, we := 0, po := 0, tg := [] } = L4 at *;generalize pO vn vt vm r = L at *;generalize nH r.tg = e at *;generalize hB3 : [r.pri, r.we, r.po].all (uc 65535) = b3 at *;generalize r.pri = n1 at *;generalize r.we = n2 at *;generalize r.po = n3 at *;clear hB3;generalize r.ty = ty at *;generalize r.cl = cl at *;clear hk;generalize hres : (if b3 = true then e else 4) = res;have hres' := Hh hres;clear hres;have B0 := nj.new w 119 L;go_enter func235, ntmps235;go_wp2_with (first
  | (refine nh (.load 119 (.tmp 1)) rfl ?_; go_must (refine ni rfl _ _ rfl w.heap.size 0 rfl (nj.alloc (nj.new w 119 L) _) 33 ak _ underlying119 rfl oG L (qj ak) ?_))
  | (refine nh (.store 119 (.tmp 4) (.tmp 6)) rfl (ab rfl (w.heap.size + 1 + 1) 0 L (nj.ph _ _ pr _ ag) aQ aR L1c.out ?_)))
 intro w3 hb3 hg3 hs3;have B1 : nj w3 w.heap.size 119 L := fi;have B2 : nj w3 (w.heap.size + 1) 119 pr := eY;have B4 : nj w3 (w.heap.size + 1 + 1) 119 L := eQ;have HB : Below w.heap.size w w3 := eK;clear hb3 hg3 B0;have u1 := B1.nf 1 L1?;have u2 := B1.nf 2 L2?;clear L1? L2?;go_wp2_with fail;refine (K.out _).mono ?_;rintro _ w4 ⟨rfl, rfl⟩;clear K u1 u2;have u22 := B4.nf 22 L22;have u24 := B4.nf 24 L24;have u25 := B4.nf 25 L25;have u26 := B4.nf 26 L26;have v24 := B1.nf 24 L24;have v25 := B1.nf 25 L25;have v26 := B1.nf 26 L26;have f22 := B4.frozen 22;have f24 := B4.frozen 24;have f25 := B4.frozen 25;have f26 := B4.frozen 26;go_wp2_with fail;have B4s := WB (((B4.set 24 (.int .i64 0)).set 25 (.int .i64 0)).set 26 (.int .i64 0)) LS.out;have hne : w.heap.size ≠ w.heap.size + 1 + 1 := ak;have hne2 : w.heap.size + 1 ≠ w.heap.size + 1 + 1 := ak;have B1s := (((B1.sF (p := ⟨w.heap.size + 1 + 1, 24, none⟩) hne (.int .i64 0)).sF (p := ⟨w.heap.size + 1 + 1, 25, none⟩) hne (.int .i64 0)).sF (p := ⟨w.heap.size + 1 + 1, 26, none⟩) hne (.int .i64 0)).sF (p := ⟨w.heap.size + 1 + 1, 22, none⟩) hne nA;have B2s := (((B2.sF (p := ⟨w.heap.size + 1 + 1, 24, none⟩) hne2 (.int .i64 0)).sF (p := ⟨w.heap.size + 1 + 1, 25, none⟩) hne2 (.int .i64 0)).sF (p := ⟨w.heap.size + 1 + 1, 26, none⟩) hne2 (.int .i64 0)).sF (p := ⟨w.heap.size + 1 + 1, 22, none⟩) hne2 nA;have HBs := (((HB.setCell (p := ⟨w.heap.size + 1 + 1, 24, none⟩) al (.int .i64 0)).setCell (p := ⟨w.heap.size + 1 + 1, 25, none⟩) al (.int .i64 0)).setCell (p := ⟨w.heap.size + 1 + 1, 26, none⟩) al (.int .i64 0)).setCell (p := ⟨w.heap.size + 1 + 1, 22, none⟩) al nA;have hss : ((((w3.setCell ⟨w.heap.size + 1 + 1, 24, none⟩ (.int .i64 0)).setCell ⟨w.heap.size + 1 + 1, 25, none⟩ (.int .i64 0)).setCell ⟨w.heap.size + 1 + 1, 26, none⟩ (.int .i64 0)).setCell ⟨w.heap.size + 1 + 1, 22, none⟩ nA).heap.size = w.heap.size + 1 + 1 + 1 := gG;change Calls _ _ _ (World.alloc ((((w3.setCell ⟨w.heap.size + 1 + 1, 24, none⟩ (.int .i64 0)).setCell ⟨w.heap.size + 1 + 1, 25, none⟩ (.int .i64 0)).setCell ⟨w.heap.size + 1 + 1, 26, none⟩ (.int .i64 0)).setCell ⟨w.heap.size + 1 + 1, 22, none⟩ nA) _) _;generalize (((w3.setCell ⟨w.heap.size + 1 + 1, 24, none⟩ (.int .i64 0)).setCell ⟨w.heap.size + 1 + 1, 25, none⟩ (.int .i64 0)).setCell ⟨w.heap.size + 1 + 1, 26, none⟩ (.int .i64 0)).setCell ⟨w.heap.size + 1 + 1, 22, none⟩ nA = w7 at *;clear B1 B2 B4 HB f22 f24 f25 f26 v24 v25 v26 LS hs3 L24 L25 L26;refine (WI.out _ _ (xN.new [n1, n2, n3] _ hss.symm 3)).mono ?_;rintro _ w8 ⟨rfl, rfl⟩;clear WI;have B1' := B1s.alloc (.cells (n7 [n1, n2, n3]).toArray 3);have B2' := B2s.alloc (.cells (n7 [n1, n2, n3]).toArray 3);have B4' := B4s.alloc (.cells (n7 [n1, n2, n3]).toArray 3);have HB' := HBs.alloc HBs.size (.cells (n7 [n1, n2, n3]).toArray 3);have hs4 : (w7.alloc (.cells (n7 [n1, n2, n3]).toArray 3)).heap.size = w.heap.size + 1 + 1 + 1 + 1 := by simpa using hss
 generalize w7.alloc (.cells (n7 [n1, n2, n3]).toArray 3) = w4 at *;clear B1s B2s B4s HBs hss;cases b3 with
 | true =>
  have hr1 : e = res := by simpa using hres'.out
  subst hr1;clear hres';go_wp2_with fail;refine wp_region_held_drew (S := fun w' => nj w' w.heap.size 119 L /\ nj w' (w.heap.size + 1 + 1) 119 L4) (by kernel_rfl) ⟨B1', B4'⟩ (fun hS => ?_);refine qf 0 (some 53) 119 (.tmp 4) ⟨w.heap.size + 1 + 1, 0, none⟩ rfl rfl rfl rfl (by kernel_rfl) (by kernel_rfl) (by kernel_rfl) (fun _ _ _ h => h) rfl (fun W hW => hW.2.pF 119 0 33 ak _ underlying119 rfl oG L4 (qj ak)) hS ?_;simp only [Act.put, nB, nC, nD]
  (refine nF 1 (some 54) rfl rfl (by kernel_rfl) (by kernel_rfl) (by kernel_rfl) (fun _ _ _ h => h) (by kernel_rfl) (fun W hW => rfl) hS ?_; simp only [Act.put, nB, nC, nD])
  refine qf 2 (some 55) 26 (.tmp 54) ⟨w.heap.size, 22, none⟩ rfl rfl rfl rfl (by kernel_rfl) (by kernel_rfl) (by kernel_rfl) (fun _ _ _ h => h) (by kernel_rfl) (fun W hW => nN underlying26 rfl (hW.1.nf 22 L22)) hS ?_;simp only [Act.put, nB, nC, nD];have HB5 : Below w.heap.size w w4.drew := below_drewN HB' 1;refine vH 3 (some 56) (by kernel_rfl) rfl rfl (by kernel_rfl) (v := .slice (some ⟨w4.drew.heap.size, 0, none⟩) 1 1) (w' := w4.drew.alloc (.cells #[vt] 26)) aS ⟨hS.1.alloc _, hS.2.alloc _⟩ ?_;simp only [Act.put, nB, nC, nD];have AN := xh (some ⟨w4.drew.heap.size, 0, none⟩) 1 [r.tg] _ (hvt ▸ yu.VG (hT.below HB5) w4.drew.heap.size rfl 26) ag;rw [E.out] at AN;refine oY 4 (some 57) 247 #[.slice (some ⟨w4.drew.heap.size, 0, none⟩) 1 1] (by kernel_rfl) rfl rfl (by kernel_rfl) aS AN ?_;rintro _ w5 ⟨rfl, b5⟩;have HB'' : Below w.heap.size w w5 := b5 ▸ HB5.alloc HB5.size _;have B1'' : nj w5 w.heap.size 119 L := b5 ▸ hS.1.alloc _;have B4'' : nj w5 (w.heap.size + 1 + 1) 119 L4 := b5 ▸ hS.2.alloc _;have B2'' : nj w5 (w.heap.size + 1) 119 pr := b5 ▸ B2'.drew.alloc _;refine ⟨_, rfl, ⟨B1'', B4''⟩, ?_⟩;clear hS B1' B4' B2' HB' HB5 b5 AN;simp only [Act.put, nB, nC, nD];refine pG 5 none 119 (.tmp 2) (.tmp 53) (by kernel_rfl) rfl rfl rfl (by kernel_rfl) (w.heap.size + 1) 0 rfl L4 rfl B2'' aQ aT L4c.out ?_;intro w6 hb6 hg6 hs6;rw [vJ aQ] at hb6;have HB6 : Below w.heap.size w w6 := fW;have hS : nj w6 w.heap.size 119 L /\ nj w6 (w.heap.size + 1 + 1) 119 L4 := fI;refine ⟨hS, ?_⟩;clear B1'' B4'' B2'' HB'' hg6;simp only [Act.put, nB, nC, nD]
  (refine nF 6 (some 3) rfl rfl (by kernel_rfl) (by kernel_rfl) (by kernel_rfl) (fun _ _ _ h => h) (by kernel_rfl) (fun W hW => rfl) hS ?_; simp only [Act.put, nB, nC, nD])
  refine wpAnyH_done (by kernel_rfl) ?_ _;exact ka
 | false =>
  have hr1 : (4 : Int) = res := by simpa using hres'.out
  subst hr1;clear hres';have B4 := B4';have B2 := B2';have HB := HB';go_wp2_with (first
   | (refine nh (.load 119 (.tmp 4)) rfl ?_; go_must (refine ni rfl _ _ rfl (w.heap.size + 1 + 1) 0 rfl B4 33 ak _ underlying119 rfl oG L4 (qj ak) ?_))
   | (refine nh (.store 119 (.tmp 2) (.tmp 52)) rfl (ab rfl (w.heap.size + 1) 0 L4 B2 aQ aT L4c.out ?_)))
  exact jM
set_option maxHeartbeats 2000000 in
theorem VJ (vn vt vm : Value) (r : RR) (hr : r.wf) (hn : vn.oneCell' = true) (ht : vt.oneCell' = true) (hm : vm.oneCell' = true) (w : World) (hraw : r.raw.length <= 140737488355328) (hk : nX r.ty r.cl = 0) :
  Calls prog 235 #[.agg (pO vn vt vm r).toArray] w (nM (.tuple #[.agg (pO vn vt vm { r with raw := [] }).toArray, .int .i64 (if 65535 < r.raw.length then 3 else 0)]) w) := by
 have hl := pn (vn := vn) (vt := vt) (vm := vm) hr;have L1? := Dt (vn := vn) (vt := vt) (vm := vm) (r := r);have L2? := Du (vn := vn) (vt := vt) (vm := vm) (r := r);have L32 := zY (vn := vn) (vt := vt) (vm := vm) hr;have LS := Hh (Jo (vn := vn) (vt := vt) (vm := vm) hr []);have L1c := Hh (qg (r := r) hn ht hm);have L4c := Hh (qg (r := { r with raw := [] }) hn ht hm);have L4l := pn (vn := vn) (vt := vt) (vm := vm) (r := { r with raw := [] }) hr;have K := Hh (fun w => oN r.ty r.cl w);rw [hk] at K;generalize pO vn vt vm { r with raw := [] } = L4 at *;generalize pO vn vt vm r = L at *;generalize r.raw = raw at *;generalize r.ty = ty at *;generalize r.cl = cl at *;clear hk;generalize hres : (if 65535 < raw.length then (3 : Int) else 0) = res;have hres' := Hh hres;clear hres;have B0 := nj.new w 119 L;go_enter func235, ntmps235;go_wp2_with (first
  | (refine nh (.load 119 (.tmp 1)) rfl ?_; go_must (refine ni rfl _ _ rfl w.heap.size 0 rfl (nj.alloc (nj.new w 119 L) _) 33 ak _ underlying119 rfl oG L (qj ak) ?_))
  | (refine nh (.store 119 (.tmp 4) (.tmp 6)) rfl (ab rfl (w.heap.size + 1 + 1) 0 L (nj.ph _ _ pr _ ag) aQ aR L1c.out ?_)))
 intro w3 hb3 hg3 hs3;have B1 : nj w3 w.heap.size 119 L := fi;have B2 : nj w3 (w.heap.size + 1) 119 pr := eY;have B4 : nj w3 (w.heap.size + 1 + 1) 119 L := eQ;have HB : Below w.heap.size w w3 := eK;clear hb3 hg3 B0;have u1 := B1.nf 1 L1?;have u2 := B1.nf 2 L2?;clear L1? L2?;go_wp2_with fail;refine (K.out _).mono ?_;rintro _ w4 ⟨rfl, rfl⟩;clear K u1 u2;have u32 := B4.nf 32 L32;have v32 := B1.nf 32 L32;have f32 := B4.frozen 32;have B4s := WB B4 LS.out;have hne : w.heap.size ≠ w.heap.size + 1 + 1 := ak;have hne2 : w.heap.size + 1 ≠ w.heap.size + 1 + 1 := ak;have B1s := B1.sF (p := ⟨w.heap.size + 1 + 1, 32, none⟩) hne (.string (bs []));have B2s := B2.sF (p := ⟨w.heap.size + 1 + 1, 32, none⟩) hne2 (.string (bs []));have HBs := HB.setCell (p := ⟨w.heap.size + 1 + 1, 32, none⟩) al (.string (bs []));clear B1 B2 B4 HB L32 LS;have B4 := B4s;have B2 := B2s;have HB := HBs;have hs4 : (w3.setCell ⟨w.heap.size + 1 + 1, 32, none⟩ (.string (bs []))).heap.size = w.heap.size + 1 + 1 + 1 := gG;clear B4s B2s HBs B1s;by_cases hlong : 65535 < raw.length
 ·
  have hr1 : (3 : Int) = res := by rw [<- hres'.out, if_pos hlong]
  have hd : decide (65535 < (raw.length : Int)) = true := decide_eq_true ak;subst hr1;clear hres';go_wp2_with (first
   | (refine nh (.load 119 (.tmp 4)) rfl ?_; go_must (refine ni rfl _ _ rfl (w.heap.size + 1 + 1) 0 rfl B4 33 ak _ underlying119 rfl oG L4 (qj ak) ?_))
   | (refine nh (.store 119 (.tmp 2) (.tmp 85)) rfl (ab rfl (w.heap.size + 1) 0 L4 B2 aQ aT L4c.out ?_)))
  exact jM
 ·
  have hr1 : (0 : Int) = res := by rw [<- hres'.out, if_neg hlong]
  have hd : decide (65535 < (raw.length : Int)) = false := gv;subst hr1;clear hres';go_wp2_with (first
   | (refine nh (.load 119 (.tmp 4)) rfl ?_; go_must (refine ni rfl _ _ rfl (w.heap.size + 1 + 1) 0 rfl B4 33 ak _ underlying119 rfl oG L4 (qj ak) ?_))
   | (refine nh (.store 119 (.tmp 2) (.tmp 86)) rfl (ab rfl (w.heap.size + 1) 0 L4 B2 aQ aT L4c.out ?_)))
  exact jM
end Go.Proofs.YthnbcmlnpdabhaaGreat

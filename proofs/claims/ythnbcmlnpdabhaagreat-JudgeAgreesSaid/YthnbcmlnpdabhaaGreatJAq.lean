/-
  Layer 30 (judge), plain: what an event is to a leg; events up to the one that ends a leg; all tries.
-/
import Derived.Test.YthnbcmlnpdabhaaGreatIFq
namespace Go.Proofs.YthnbcmlnpdabhaaGreat
open _root_.Go.Proofs.Tryz
open Go.RowKit
set_option linter.unusedVariables false
set_option linter.unusedSimpArgs false
structure uy where
 mat : Bool
 ends : Bool
 told : Bool
 msg : oh
def uy.no : uy := ⟨false, false, false, oh.zero⟩
def Fz (x : Xc) (e : Ev) : Bool := decide (e.port = x.y.port /\ (e.kind = 3 \/ e.kind = 4 \/ e.kind = 5))
def ou (x : Xc) (e : Ev) : uy × Xc :=
 if e.kind = 1 then (⟨true, decide (x.left <= 1), false, oh.zero⟩, if x.left <= 1 /\ x.lg = 2 then { x with left := x.left - 1, d := (qI x.d).1 } else { x with left := x.left - 1 })
 else if x.lg = 2 then (⟨Fz x e, decide ((n6 x.d e).1.st ≠ 0), decide ((n6 x.d e).1.st = 1), if (n6 x.d e).1.st = 1 then (n6 x.d e).1.msg else oh.zero⟩, { x with d := (n6 x.d e).1 })
 else (⟨(te x.y e).2, (te x.y e).2, (te x.y e).2, (te x.y e).1⟩, x)
structure yl (x : Xc) : Prop where
 dn : x.done = false
 lf : 1 <= x.left
 cn : x.lg = 2 -> x.d.st = 0 /\ x.d.y = x.y
 vd : x.vd = 0
 ms : x.msg = oh.zero
def Cb (x : Xc) (L : Lt) (h : uy) : XR := if h.told then ti x L h.msg else qJ x L
def Kj (x : Xc) (e : Ev) : List Ou :=
 if e.kind = 1 then (if x.left <= 1 /\ x.lg = 2 then (qI x.d).2 else []) else if x.lg = 2 then (n6 x.d e).2 else []
theorem NP (d : Dl) (e : Ev) (h : d.st = 0) : (n6 d e).1.st = 0 \/ (n6 d e).1.st = 1 \/ (n6 d e).1.st = 2 := by
 unfold n6
 (repeat' split) <;> first | exact .inl h | exact .inr (.inl rfl) | exact .inr (.inr rfl)
theorem IF {x : Xc} (h : yl x) (L : Lt) (e : Ev) : oI x L e = if (ou x e).1.ends then qH (Kj x e) (Cb (ou x e).2 L (ou x e).1) else ((ou x e).2, L, Kj x e) := by
 have hd := h.dn;unfold oI ou Kj Cb;rw [if_neg (by rw [hd]; decide)];by_cases hk : e.kind = 1
 ·
  simp only [if_pos hk];by_cases hl : x.left <= 1
  ·
   by_cases h2 : x.lg = 2
   ·simp [hl, h2]
   ·simp [hl, h2, qH]
  ·
   by_cases h2 : x.lg = 2
   ·simp [hl, h2]
   ·simp [hl, h2]
 ·
  simp only [if_neg hk];by_cases h2 : x.lg = 2
  ·
   simp only [if_pos h2];rcases NP x.d e (h.cn h2).1 with h0 | h0 | h0
   ·simp [h0]
   ·simp [h0]
   ·simp [h0]
  ·
   simp only [if_neg h2];by_cases hp : (te x.y e).2 = true
   ·simp [hp, qH]
   ·simp [hp]
theorem Kk {x : Xc} (h : yl x) (e : Ev) (he : (ou x e).1.ends = false) : yl (ou x e).2 := by
 obtain ⟨h1, h2, h3, h4, h5⟩ := h;unfold ou at he ⊢;by_cases hk : e.kind = 1
 ·simp only [if_pos hk] at he ⊢;have hl : ¬ x.left <= 1 := of_decide_eq_false he;rw [if_neg (fun c => hl c.1)];exact ⟨h1, eo, h3, h4, h5⟩
 ·
  simp only [if_neg hk] at he ⊢;by_cases hl : x.lg = 2
  ·simp only [if_pos hl] at he ⊢;have hs : ¬ (n6 x.d e).1.st ≠ 0 := of_decide_eq_false he;exact ⟨h1, h2, fun _ => ⟨Decidable.not_not.1 hs, (Lb x.d e).trans (h3 hl).2⟩, h4, h5⟩
  ·simp only [if_neg hl];exact ⟨h1, h2, h3, h4, h5⟩
theorem Kl {x : Xc} (h : yl x) (e : Ev) (hm : (ou x e).1.mat = false) : (ou x e).1.ends = false /\ (ou x e).2 = x /\ Kj x e = [] := by
 unfold ou Kj at *;by_cases hk : e.kind = 1
 ·simp [hk] at hm
 ·
  simp only [if_neg hk] at hm ⊢;by_cases hl : x.lg = 2
  ·
   simp only [if_pos hl] at hm ⊢;have hm' : ¬ (e.port = x.y.port /\ (e.kind = 3 \/ e.kind = 4 \/ e.kind = 5)) := of_decide_eq_false hm;have hD : n6 x.d e = (x.d, []) := by
    unfold n6;split
    ·rfl
    ·
     rename_i hn;have hp : e.port = x.y.port := by rw [<- (h.cn hl).2];exact Decidable.byContradiction (fun c => hn (.inr c))
     have h3 : e.kind ≠ 3 := fun c => hm' ⟨hp, .inl c⟩
     have h4 : e.kind ≠ 4 := fun c => hm' ⟨hp, .inr (.inl c)⟩
     have h5 : e.kind ≠ 5 := fun c => hm' ⟨hp, .inr (.inr c)⟩
     rw [if_neg h3, if_neg h4, if_neg h5]
   rw [hD];exact ⟨by simp [(h.cn hl).1], rfl, rfl⟩
  ·simp only [if_neg hl] at hm ⊢;exact ⟨hm, trivial, trivial⟩
def rf (x : Xc) (L : Lt) : List Ev -> XR
 | [] => (x, L, [])
 | e :: l => qH (oI x L e).2.2 (rf (oI x L e).1 (oI x L e).2.1 l)
theorem QT (r : XR) : qH [] r = r := rfl
theorem wj (a b : List Ou) (r : XR) : qH a (qH b r) = qH (a ++ b) r := by unfold qH; simp [List.append_assoc]
theorem uR {x : Xc} (h : x.done = true) (L : Lt) : ∀ l, rf x L l = (x, L, [])
 | [] => rfl
 | e :: l => by
  have hh : oI x L e = (x, L, []) := by unfold oI; rw [if_pos h]
  show qH (oI x L e).2.2 (rf (oI x L e).1 (oI x L e).2.1 l) = _;rw [hh];exact (QT _).trans (uR h L l)
def nK (x : Xc) : List Ev -> uy × Xc × List Ev × List Ev
 | [] => (uy.no, x, [], [])
 | e :: l => if (ou x e).1.ends then ((ou x e).1, (ou x e).2, l, if (ou x e).1.mat then [e] else [])
  else ((nK (ou x e).2 l).1, (nK (ou x e).2 l).2.1, (nK (ou x e).2 l).2.2.1, (if (ou x e).1.mat then [e] else []) ++ (nK (ou x e).2 l).2.2.2)
theorem Cc {x : Xc} (L : Lt) : ∀ (l : List Ev) (x : Xc), yl x -> (nK x l).1.ends = false -> yl (nK x l).2.1 /\ ∃ o, rf x L l = ((nK x l).2.1, L, o) /\ rf x L (nK x l).2.2.2 = ((nK x l).2.1, L, o)
 | [], x, h, _ => ⟨h, [], rfl, rfl⟩
 | e :: l, x, h, he => by
  unfold nK at he ⊢;cases hE : (ou x e).1.ends with
  | true => rw [hE] at he; simp only [if_true] at he; rw [hE] at he; cases he
  | false =>
   rw [hE] at he;simp only [Bool.false_eq_true, if_false] at he ⊢;have hi := Kk h e hE;obtain ⟨k1, o, k2, k3⟩ := Cc (x := x) L l (ou x e).2 hi he;have hh := IF h L e;rw [hE] at hh;simp only [Bool.false_eq_true, if_false] at hh;refine ⟨k1, Kj x e ++ o, ?_, ?_⟩
   ·show qH (oI x L e).2.2 (rf (oI x L e).1 (oI x L e).2.1 l) = _;rw [hh];simp only;rw [k2]; rfl
   ·
    cases hm : (ou x e).1.mat with
    | true => simp only [if_true, List.singleton_append];show qH (oI x L e).2.2 (rf (oI x L e).1 (oI x L e).2.1 _) = _;rw [hh];simp only;rw [k3]; rfl
    | false => obtain ⟨_, q2, q3⟩ := Kl h e hm;simp only [Bool.false_eq_true, if_false, List.nil_append];rw [q2] at k3 ⊢;rw [q3, List.nil_append];exact k3
theorem Cd {x : Xc} (L : Lt) : ∀ (l : List Ev) (x : Xc), yl x -> (nK x l).1.ends = true -> ∃ o, (∀ l', (nK x l).2.2.1 = l' -> rf x L l = qH o (rf (Cb (nK x l).2.1 L (nK x l).1).1 (Cb (nK x l).2.1 L (nK x l).1).2.1 l')) /\ ∀ K, rf x L ((nK x l).2.2.2 ++ K) = qH o (rf (Cb (nK x l).2.1 L (nK x l).1).1 (Cb (nK x l).2.1 L (nK x l).1).2.1 K)
 | [], x, h, he => by cases he
 | e :: l, x, h, he => by
  unfold nK at he ⊢;have hh := IF h L e;cases hE : (ou x e).1.ends with
  | true =>
   rw [hE] at hh;simp only [if_true] at hh ⊢;have hm : (ou x e).1.mat = true := by
    cases hm : (ou x e).1.mat with
    | true => rfl
    | false => obtain ⟨q1, _⟩ := Kl h e hm; rw [q1] at hE; cases hE
   refine ⟨(oI x L e).2.2, fun l' hl' => ?_, fun K => ?_⟩
   ·subst hl';show qH (oI x L e).2.2 (rf (oI x L e).1 (oI x L e).2.1 l) = _;rw [hh]; rfl
   ·rw [hm];simp only [if_true, List.singleton_append];show qH (oI x L e).2.2 (rf (oI x L e).1 (oI x L e).2.1 K) = _;rw [hh]; rfl
  | false =>
   rw [hE] at he hh;simp only [Bool.false_eq_true, if_false] at he hh ⊢;have hi := Kk h e hE;obtain ⟨o, k2, k3⟩ := Cd (x := x) L l (ou x e).2 hi he;refine ⟨Kj x e ++ o, fun l' hl' => ?_, fun K => ?_⟩
   ·show qH (oI x L e).2.2 (rf (oI x L e).1 (oI x L e).2.1 l) = _;rw [hh];simp only;rw [k2 l' hl', wj]
   ·
    cases hm : (ou x e).1.mat with
    | true => simp only [if_true, List.singleton_append, List.cons_append];show qH (oI x L e).2.2 (rf (oI x L e).1 (oI x L e).2.1 _) = _;rw [hh];simp only [List.nil_append];rw [k3 K, wj]
    | false => obtain ⟨_, q2, q3⟩ := Kl h e hm;simp only [Bool.false_eq_true, if_false, List.nil_append];rw [q2] at k3 ⊢;rw [q3, List.nil_append];exact k3 K
structure TJ where
 x : Xc
 L : Lt
 rest : List Ev
 kept : List Ev
 means : Int
 ended : Bool
 qs : List Qy
def sN : Nat -> Xc -> Nat -> Lt -> List Ev -> TJ
 | 0, x, lg, L, l => ⟨x, L, l, [], 0, false, []⟩
 | f + 1, x, lg, L, l =>
  let u := nK (oq x L lg).1 l
  if u.1.ends = false then ⟨u.2.1, oV L, [], u.2.2.2, 0, false, [od x L]⟩
  else if u.1.told = false then ⟨u.2.1, oV L, u.2.2.1, u.2.2.2, 0, true, [od x L]⟩
  else if oJ u.1.msg.hd (decide (u.2.1.lg = 2)) u.2.1.oX = 1 then ⟨{ u.2.1 with done := true, vd := qd u.2.1.q u.1.msg, msg := u.1.msg }, oV L, u.2.2.1, u.2.2.2, 1, true, [od x L]⟩
  else if oJ u.1.msg.hd (decide (u.2.1.lg = 2)) u.2.1.oX = 2 then
   let r := sN f u.2.1 2 (oV L) u.2.2.1
   ⟨r.x, r.L, r.rest, u.2.2.2 ++ r.kept, r.means, r.ended, od x L :: r.qs⟩
  else if oJ u.1.msg.hd (decide (u.2.1.lg = 2)) u.2.1.oX = 3 then
   let r := sN f u.2.1 1 (oV L) u.2.2.1
   ⟨r.x, r.L, r.rest, u.2.2.2 ++ r.kept, r.means, r.ended, od x L :: r.qs⟩
  else ⟨u.2.1, oV L, u.2.2.1, u.2.2.2, oJ u.1.msg.hd (decide (u.2.1.lg = 2)) u.2.1.oX, true, [od x L]⟩
def qG (r : TJ) : Xc := { r.x with k := r.x.k + 1, hard := r.x.hard || decide (r.means = 5) }
abbrev JR := Xc × List Ev × List Qy
def rk : Nat -> Xc -> Lt -> List Ev -> JR
 | 0, x, L, l => ({ x with done := true, vd := if x.hard then 5 else 4, msg := oh.zero }, [], [])
 | f + 1, x, L, l =>
  let r := sN 3 x (if x.vc then 2 else 0) L l
  if r.ended = false \/ r.x.done = true then (r.x, r.kept, r.qs)
  else
   let s := rk f (qG r) r.L r.rest
   (s.1, r.kept ++ s.2.1, r.qs ++ s.2.2)
def rG (tmo : Int) (vc ed : Bool) (q : Qn) (tr : List oi) (L : Lt) (l : List Ev) : JR :=
 if (oT (pf q 0 ed) false).2 ≠ 0 then ({ sy tmo vc ed q tr with done := true, vd := 3 }, [], []) else rk tr.length (sy tmo vc ed q tr) L l
structure rq (x : Xc) : Prop where
 st : x.st
 dn : x.done = false
 vd : x.vd = 0
 ms : x.msg = oh.zero
theorem Ce {x : Xc} (h : rq x) (L : Lt) (lg : Nat) : yl (oq x L lg).1 /\ rq (oq x L lg).1 /\ (oq x L lg).1.lg = lg /\ (oq x L lg).2.1 = oV L := by
 obtain ⟨f1, f2, f3, f4, f5, f6, f7, f8, f9⟩ := uw x L lg;have e0 := BN h.st L;have hv : (oq x L lg).1.vd = x.vd /\ (oq x L lg).1.msg = x.msg := iD;refine ⟨⟨f1.trans h.dn, by rw [f5]; exact h.st.to1, fun hl => ?_, hv.1.trans h.vd, hv.2.trans h.ms⟩, ⟨⟨by rw [f2]; exact h.st.ips, by rw [f4]; exact h.st.to1, by rw [f4]; exact h.st.to2, by rw [f2]; exact h.st.trl, by rw [f8]; exact h.st.err⟩, f1.trans h.dn, hv.1.trans h.vd, hv.2.trans h.ms⟩, f6, f9⟩;rw [f6] at hl;unfold oq;rw [if_pos hl];unfold tf;rw [if_pos e0];exact ⟨rfl, rfl⟩
theorem wk (x : Xc) (e : Ev) : (ou x e).2.tmo = x.tmo /\ (ou x e).2.vc = x.vc /\ (ou x e).2.ed = x.ed /\ (ou x e).2.q = x.q /\ (ou x e).2.tr = x.tr /\ (ou x e).2.k = x.k /\ (ou x e).2.lg = x.lg /\ (ou x e).2.hard = x.hard /\ (ou x e).2.done = x.done /\ (ou x e).2.vd = x.vd /\ (ou x e).2.msg = x.msg := by
 unfold ou
 (repeat' split) <;> exact ⟨rfl, rfl, rfl, rfl, rfl, rfl, rfl, rfl, rfl, rfl, rfl⟩
theorem sO : ∀ (l : List Ev) (x : Xc), (nK x l).2.1.tmo = x.tmo /\ (nK x l).2.1.vc = x.vc /\ (nK x l).2.1.ed = x.ed /\ (nK x l).2.1.q = x.q /\ (nK x l).2.1.tr = x.tr /\ (nK x l).2.1.k = x.k /\ (nK x l).2.1.lg = x.lg /\ (nK x l).2.1.hard = x.hard /\ (nK x l).2.1.done = x.done /\ (nK x l).2.1.vd = x.vd /\ (nK x l).2.1.msg = x.msg
 | [], x => ⟨rfl, rfl, rfl, rfl, rfl, rfl, rfl, rfl, rfl, rfl, rfl⟩
 | e :: l, x => by
  unfold nK;split
  ·exact wk x e
  ·obtain ⟨a1, a2, a3, a4, a5, a6, a7, a8, a9, a10, a11⟩ := wk x e;obtain ⟨b1, b2, b3, b4, b5, b6, b7, b8, b9, b10, b11⟩ := sO l (ou x e).2;exact ⟨b1.trans a1, b2.trans a2, b3.trans a3, b4.trans a4, b5.trans a5, b6.trans a6, b7.trans a7, b8.trans a8, b9.trans a9, b10.trans a10, b11.trans a11⟩
theorem wS {x : Xc} (h : rq x) (l : List Ev) : rq (nK x l).2.1 := by
 obtain ⟨a1, a2, a3, a4, a5, a6, a7, a8, a9, a10, a11⟩ := sO l x;exact ⟨⟨by rw [a5]; exact h.st.ips, by rw [a1]; exact h.st.to1, by rw [a1]; exact h.st.to2, by rw [a5]; exact h.st.trl, by rw [a4]; exact h.st.err⟩, a9.trans h.dn, a10.trans h.vd, a11.trans h.ms⟩
structure Lx (x1 : Xc) (L1 : Lt) (l : List Ev) (r : TJ) : Prop where
 op : r.ended = false -> rq r.x /\ ∃ o, rf x1 L1 l = (r.x, r.L, o) /\ rf x1 L1 r.kept = (r.x, r.L, o)
 dn : r.ended = true -> r.x.done = true -> ∃ o, rf x1 L1 l = (r.x, r.L, o) /\ rf x1 L1 r.kept = (r.x, r.L, o)
 nx : r.ended = true -> r.x.done = false -> rq r.x /\ ∃ o, rf x1 L1 l = qH o (rf (th (qG r) r.L).1 (th (qG r) r.L).2.1 r.rest) /\ ∀ K, rf x1 L1 (r.kept ++ K) = qH o (rf (th (qG r) r.L).1 (th (qG r) r.L).2.1 K)
 kp : r.x.tr = x1.tr /\ r.x.k = x1.k /\ r.x.vc = x1.vc
theorem Lx.more {qs : List Qy} {x1 x2 : Xc} {L1 L2 : Lt} {l l2 k : List Ev} {r : TJ} {o : List Ou} (h : Lx x2 L2 l2 r) (e1 : rf x1 L1 l = qH o (rf x2 L2 l2)) (e2 : ∀ K, rf x1 L1 (k ++ K) = qH o (rf x2 L2 K)) (hk : x2.tr = x1.tr /\ x2.k = x1.k /\ x2.vc = x1.vc) : Lx x1 L1 l ⟨r.x, r.L, r.rest, k ++ r.kept, r.means, r.ended, qs⟩ := by
 obtain ⟨h1, h2, h3, h4⟩ := h;refine ⟨fun he => ?_, fun he hd => ?_, fun he hd => ?_, ⟨h4.1.trans hk.1, h4.2.1.trans hk.2.1, h4.2.2.trans hk.2.2⟩⟩
 ·obtain ⟨q1, o', q2, q3⟩ := h1 he;exact ⟨q1, o ++ o', by rw [e1, q2]; rfl, by rw [e2, q3]; rfl⟩
 ·obtain ⟨o', q2, q3⟩ := h2 he hd;exact ⟨o ++ o', by rw [e1, q2]; rfl, by rw [e2, q3]; rfl⟩
 ·obtain ⟨q1, o', q2, q3⟩ := h3 he hd;refine ⟨q1, o ++ o', by rw [e1, q2, wj]; rfl, fun K => ?_⟩;rw [List.append_assoc, e2, q3, wj]; rfl
theorem FH : ∀ (f : Nat) (x : Xc) (lg : Nat) (L : Lt) (l : List Ev), rq x -> lg <= 2 -> 3 <= f + lg -> Lx (oq x L lg).1 (oV L) l (sN f x lg L l)
 | 0, x, lg, L, l, _, h2, h3 => by omega
 | f + 1, x, lg, L, l, hp, h2, h3 => by
  obtain ⟨hi, hq, hlg, _⟩ := Ce hp L lg;obtain ⟨f1, f2, f3, f4, f5, f6, f7, f8, f9⟩ := uw x L lg;obtain ⟨x1, hx1⟩ : ∃ x1, (oq x L lg).1 = x1 := eE;have hT : sN (f + 1) x lg L l = (let u := nK x1 l
   if u.1.ends = false then ⟨u.2.1, oV L, [], u.2.2.2, 0, false, [od x L]⟩
   else if u.1.told = false then ⟨u.2.1, oV L, u.2.2.1, u.2.2.2, 0, true, [od x L]⟩
   else if oJ u.1.msg.hd (decide (u.2.1.lg = 2)) u.2.1.oX = 1 then ⟨{ u.2.1 with done := true, vd := qd u.2.1.q u.1.msg, msg := u.1.msg }, oV L, u.2.2.1, u.2.2.2, 1, true, [od x L]⟩
   else if oJ u.1.msg.hd (decide (u.2.1.lg = 2)) u.2.1.oX = 2 then
    let r := sN f u.2.1 2 (oV L) u.2.2.1
    ⟨r.x, r.L, r.rest, u.2.2.2 ++ r.kept, r.means, r.ended, od x L :: r.qs⟩
   else if oJ u.1.msg.hd (decide (u.2.1.lg = 2)) u.2.1.oX = 3 then
    let r := sN f u.2.1 1 (oV L) u.2.2.1
    ⟨r.x, r.L, r.rest, u.2.2.2 ++ r.kept, r.means, r.ended, od x L :: r.qs⟩
   else ⟨u.2.1, oV L, u.2.2.1, u.2.2.2, oJ u.1.msg.hd (decide (u.2.1.lg = 2)) u.2.1.oX, true, [od x L]⟩) := by rw [<- hx1]; rfl
  rw [hT];rw [hx1] at hi hq hlg f2 f3 ⊢;clear hT hx1 f1 f4 f5 f6 f7 f8 f9;dsimp only;obtain ⟨a1, a2, a3, a4, a5, a6, a7, a8, a9, a10, a11⟩ := sO l x1;have hup := wS hq l;have hkp : (nK x1 l).2.1.tr = x1.tr /\ (nK x1 l).2.1.k = x1.k /\ (nK x1 l).2.1.vc = x1.vc := ⟨a5, a6, a2⟩;have hulg : (nK x1 l).2.1.lg = lg := a7.trans hlg;cases he : (nK x1 l).1.ends with
  | false => rw [if_pos rfl];obtain ⟨_, o, k2, k3⟩ := Cc (x := x1) (oV L) l x1 hi he;exact ⟨fun _ => ⟨hup, o, k2, k3⟩, fun c => dg, fun c => dg, hkp⟩
  | true =>
   rw [if_neg aj];obtain ⟨o, k2, k3⟩ := Cd (x := x1) (oV L) l x1 hi he;have k2 := k2 _ rfl;unfold Cb at k2 k3;obtain ⟨u, hu⟩ : ∃ u, nK x1 l = u := eE;rw [hu] at k2 k3 hup hkp hulg ⊢;clear hu he a1 a2 a3 a4 a5 a6 a7 a8 a9 a10 a11;obtain ⟨h, ux, ur, uk⟩ := u;simp only at k2 k3 hup hkp hulg ⊢;have hnx : ∀ v : Int, v ≠ 5 -> qG ⟨ux, oV L, ur, uk, v, true, [od x L]⟩ = { ux with k := ux.k + 1 } := fun v hv => by
    unfold qG;rw [decide_eq_false hv, Bool.or_false]
   cases ht : h.told with
   | false =>
    rw [if_pos rfl];rw [ht] at k2 k3;simp only [Bool.false_eq_true, if_false] at k2 k3;refine ⟨fun c => dg, fun _ c => dh, fun _ _ => ⟨hup, o, ?_, fun K => ?_⟩, hkp⟩
    ·rw [hnx 0 aj]; exact k2
    ·rw [hnx 0 aj]; exact k3 K
   | true =>
    rw [if_neg aj];rw [ht] at k2 k3;simp only [if_true] at k2 k3;unfold ti at k2 k3;by_cases v1 : oJ h.msg.hd (decide (ux.lg = 2)) ux.oX = 1
    ·
     rw [if_pos v1];simp only [if_pos v1] at k2 k3;refine ⟨fun c => dg, fun _ _ => ⟨o ++ [], ?_, ?_⟩, fun _ c => dg, hkp⟩
     ·rw [k2, uR rfl]; rfl
     ·have := k3 [];rw [List.append_nil] at this;rw [this, uR rfl]; rfl
    ·
     rw [if_neg v1];simp only [if_neg v1] at k2 k3;by_cases v2 : oJ h.msg.hd (decide (ux.lg = 2)) ux.oX = 2
     ·
      rw [if_pos v2];simp only [if_pos v2] at k2 k3;have hl2 : ux.lg ≠ 2 := by have := Kb v2; simpa using this
      have IH := FH f ux 2 (oV L) ur hup ak ak;obtain ⟨_, g2, g3, g4, _, _, _, _, g9⟩ := uw ux (oV L) 2;have hvc : (oq ux (oV L) 2).1.vc = ux.vc := gZ;exact l8
     ·
      rw [if_neg v2];simp only [if_neg v2] at k2 k3;by_cases v3 : oJ h.msg.hd (decide (ux.lg = 2)) ux.oX = 3
      ·
       rw [if_pos v3];simp only [if_pos v3] at k2 k3;have hl0 : ux.lg = 0 := by have := Kc v3;unfold Xc.oX at this;simp at this;exact this.1
       have IH := FH f ux 1 (oV L) ur hup ak ak;obtain ⟨_, g2, g3, g4, _, _, _, _, g9⟩ := uw ux (oV L) 1;have hvc : (oq ux (oV L) 1).1.vc = ux.vc := gZ;exact l8
      ·
       rw [if_neg v3];simp only [if_neg v3] at k2 k3;by_cases v5 : oJ h.msg.hd (decide (ux.lg = 2)) ux.oX = 5
       ·
        simp only [if_pos v5] at k2 k3;have hn5 : qG ⟨ux, oV L, ur, uk, oJ h.msg.hd (decide (ux.lg = 2)) ux.oX, true, [od x L]⟩ = { ux with k := ux.k + 1, hard := true } := by unfold qG;rw [v5];simp
        refine ⟨fun c => dg, fun _ c => dh, fun _ _ => ⟨hup, o, ?_, fun K => ?_⟩, hkp⟩
        ·rw [hn5]; exact k2
        ·rw [hn5]; exact k3 K
       ·
        simp only [if_neg v5] at k2 k3;refine ⟨fun c => dg, fun _ c => dh, fun _ _ => ⟨hup, o, ?_, fun K => ?_⟩, hkp⟩
        ·rw [hnx _ v5]; exact k2
        ·rw [hnx _ v5]; exact k3 K
theorem Ly : ∀ (f : Nat) (x : Xc) (L : Lt) (l : List Ev), rq x -> x.k + f = x.tr.length -> ∃ R : XR, rf (th x L).1 (th x L).2.1 l = R /\ rf (th x L).1 (th x L).2.1 (rk f x L l).2.1 = R /\ R.1.done = (rk f x L l).1.done /\ R.1.vd = (rk f x L l).1.vd /\ R.1.msg = (rk f x L l).1.msg
 | 0, x, L, l, hp, hk => by
  have ht : th x L = ({ x with done := true, vd := if x.hard then 5 else 4, msg := oh.zero }, L, []) := by unfold th; rw [if_neg ak]
  rw [ht];exact mR
 | f + 1, x, L, l, hp, hk => by
  have ht : th x L = oq x L (if x.vc then 2 else 0) := by unfold th; rw [if_pos ak]
  have hT : rk (f + 1) x L l = (let r := sN 3 x (if x.vc then 2 else 0) L l
   if r.ended = false \/ r.x.done = true then (r.x, r.kept, r.qs)
   else ((rk f (qG r) r.L r.rest).1, r.kept ++ (rk f (qG r) r.L r.rest).2.1, r.qs ++ (rk f (qG r) r.L r.rest).2.2)) := rfl
  have hlg : (if x.vc then 2 else 0) <= 2 := by split <;> omega
  rw [ht, hT];clear ht hT;obtain ⟨lg, hl⟩ : ∃ lg, (if x.vc then 2 else 0) = lg := eE;rw [hl] at hlg ⊢;clear hl;have T := FH 3 x lg L l hp hlg ak;obtain ⟨_, g2, g3, g4, _, _, _, _, g9⟩ := uw x L lg;rw [g9];dsimp only;obtain ⟨r, hr⟩ : ∃ r, sN 3 x lg L l = r := eE;rw [hr] at T ⊢;by_cases he : r.ended = false
  ·rw [if_pos (.inl he)];obtain ⟨_, o, k2, k3⟩ := T.op he;exact ⟨_, k2, k3, rfl, rfl, rfl⟩
  ·
   have he1 : r.ended = true := fD;by_cases hd : r.x.done = true
   ·rw [if_pos (.inr hd)];obtain ⟨o, k2, k3⟩ := T.dn he1 hd;exact ⟨_, k2, k3, rfl, rfl, rfl⟩
   ·
    rw [if_neg (by rintro (c | c); exact he c; exact hd c)];have hd0 : r.x.done = false := by simpa using hd
    obtain ⟨q1, o, k2, k3⟩ := T.nx he1 hd0;obtain ⟨kp1, kp2, kp3⟩ := T.kp;have hpn : rq (qG r) := ⟨⟨q1.st.ips, q1.st.to1, q1.st.to2, q1.st.trl, q1.st.err⟩, q1.dn, q1.vd, q1.ms⟩;have hkn : (qG r).k + f = (qG r).tr.length := by show r.x.k + 1 + f = r.x.tr.length;rw [kp1, kp2, g2, g3]; omega
    obtain ⟨R, i1, i2, i3, i4, i5⟩ := Ly f (qG r) r.L r.rest hpn hkn;refine ⟨qH o R, by rw [k2, i1], ?_, i3, i4, i5⟩;rw [k3, i2]
theorem QU (tmo : Int) (vc ed : Bool) (q : Qn) (tr : List oi) (L : Lt) (l : List Ev) (hst : (oT (pf q 0 ed) false).2 = 0 -> (sy tmo vc ed q tr).st) : ∃ R : XR, rf (rF tmo vc ed q tr L).1 (rF tmo vc ed q tr L).2.1 l = R /\ rf (rF tmo vc ed q tr L).1 (rF tmo vc ed q tr L).2.1 (rG tmo vc ed q tr L l).2.1 = R /\ R.1.done = (rG tmo vc ed q tr L l).1.done /\ R.1.vd = (rG tmo vc ed q tr L l).1.vd /\ R.1.msg = (rG tmo vc ed q tr L l).1.msg := by
 unfold rF rG;split
 ·exact mR
 ·rename_i he;exact Ly tr.length (sy tmo vc ed q tr) L l ⟨hst (Decidable.not_not.1 he), rfl, rfl, rfl⟩ (Nat.zero_add _)
end Go.Proofs.YthnbcmlnpdabhaaGreat

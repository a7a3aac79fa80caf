/-
  Layers 26, 27 and 29 (chain, verdict, xchg), plain: what a chain leads to, what a reply means, what an exchange does.
-/
import Derived.Test.YthnbcmlnpdabhaaGreatIEq
import Derived.Test.YthnbcmlnpdabhaaGreatICq
namespace Go.Proofs.YthnbcmlnpdabhaaGreat
open _root_.Go.Proofs.Tryz
open Go.RowKit
set_option linter.unusedVariables false
structure Xc where
 tmo : Int
 vc : Bool
 ed : Bool
 q : Qn
 tr : List oi
 k : Nat
 lg : Nat
 left : Int
 sent : Nat
 y : Qy
 d : Dl
 hard : Bool
 done : Bool
 vd : Int
 msg : oh
abbrev XR := Xc × Lt × List Ou
def Xc.oX (x : Xc) : Bool := decide (x.lg = 0) && x.ed
def od (x : Xc) (L : Lt) : Qy := ⟨x.tr.getD x.k oi.zero, 1024 + (qk L 64512).1, (qk (qk L 64512).2 65536).1, x.q⟩
def oV (L : Lt) : Lt := (qk (qk L 64512).2 65536).2
def oq (x : Xc) (L : Lt) (lg : Nat) : XR :=
 if lg = 2 then ({ x with y := od x L, lg := 2, left := x.tmo, sent := x.sent + 1, d := (tf (od x L)).1 }, oV L, (tf (od x L)).2)
 else ({ x with y := od x L, lg := lg, left := x.tmo, sent := x.sent + 1 }, oV L, [⟨1, (od x L).sv, (od x L).port, (oT (pf x.q (od x L).id (decide (lg = 0) && x.ed)) false).1⟩])
def th (x : Xc) (L : Lt) : XR := if x.k < x.tr.length then oq x L (if x.vc then 2 else 0) else ({ x with done := true, vd := if x.hard then 5 else 4, msg := oh.zero }, L, [])
def qJ (x : Xc) (L : Lt) : XR := th { x with k := x.k + 1 } L
def ti (x : Xc) (L : Lt) (m : oh) : XR :=
 if oJ m.hd (decide (x.lg = 2)) x.oX = 1 then ({ x with done := true, vd := qd x.q m, msg := m }, L, [])
 else if oJ m.hd (decide (x.lg = 2)) x.oX = 2 then oq x L 2
 else if oJ m.hd (decide (x.lg = 2)) x.oX = 3 then oq x L 1
 else if oJ m.hd (decide (x.lg = 2)) x.oX = 5 then qJ { x with hard := true } L
 else qJ x L
def qH (o : List Ou) (r : XR) : XR := (r.1, r.2.1, o ++ r.2.2)
def oI (x : Xc) (L : Lt) (e : Ev) : XR :=
 if x.done then (x, L, [])
 else if x.lg = 2 then
  if e.kind = 1 then (if x.left <= 1 then qH (qI x.d).2 (qJ { x with left := x.left - 1, d := (qI x.d).1 } L) else ({ x with left := x.left - 1 }, L, []))
  else if (n6 x.d e).1.st = 1 then qH (n6 x.d e).2 (ti { x with d := (n6 x.d e).1 } L (n6 x.d e).1.msg)
  else if (n6 x.d e).1.st = 2 then qH (n6 x.d e).2 (qJ { x with d := (n6 x.d e).1 } L)
  else ({ x with d := (n6 x.d e).1 }, L, (n6 x.d e).2)
 else if e.kind = 1 then (if x.left <= 1 then qJ { x with left := x.left - 1 } L else ({ x with left := x.left - 1 }, L, []))
 else if (te x.y e).2 then ti x L (te x.y e).1 else (x, L, [])
def sy (tmo : Int) (vc ed : Bool) (q : Qn) (tr : List oi) : Xc := ⟨tmo, vc, ed, q, tr, 0, 0, 0, 0, ⟨oi.zero, 0, 0, ⟨[], 0, 0⟩⟩, ⟨⟨oi.zero, 0, 0, ⟨[], 0, 0⟩⟩, [], 2, false, [], oh.zero⟩, false, false, 0, oh.zero⟩
def rF (tmo : Int) (vc ed : Bool) (q : Qn) (tr : List oi) (L : Lt) : XR :=
 if (oT (pf q 0 ed) false).2 ≠ 0 then ({ sy tmo vc ed q tr with done := true, vd := 3 }, L, []) else th (sy tmo vc ed q tr) L
structure Xc.st (x : Xc) : Prop where
 ips : ∀ a ∈ x.tr, a.ip.length = 16
 to1 : 1 <= x.tmo
 to2 : x.tmo <= 30
 trl : x.tr.length <= 1000
 err : ∀ id e, 0 <= id -> id <= 65535 -> (oT (pf x.q id e) false).2 = 0
structure Xc.ok (x : Xc) : Prop where
 st : x.done = false -> x.st
 go : x.done = false -> x.k < x.tr.length /\ 1 <= x.left /\ x.left <= x.tmo /\ x.y.q = x.q /\ x.y.sv = x.tr.getD x.k oi.zero /\ (x.lg = 2 -> x.d.st = 0 /\ x.d.y = x.y /\ x.d.ok)
set_option maxRecDepth 100000
set_option linter.unusedSimpArgs false
def BI (D : Option Nat) : Value := .pointer (D.map fun g => ⟨g, 0, none⟩)
def sa (T : List Value) (vn : Value) (q : Qn) (vt : Value) (gl : Nat) (k : Nat) (hs : Value) (qs : List Value) (eb : Bool) (dp : Option Nat) (left : Int) (sent : Nat) (hard done : Bool) (vd : Int) (ds : List Value) : List Value :=
 T ++ (qC vn q ++ (vt :: .pointer (some ⟨gl, 0, none⟩) :: .int .i64 k :: hs :: (qs ++ (.bool eb :: BI dp :: .int .i64 left :: .int .i64 sent :: .bool hard :: .bool done :: .int .i64 vd :: ds))))
section
variable {T qs ds : List Value} {vn vt hs : Value} {q : Qn} {gl k : Nat} {eb hard done : Bool} {dp : Option Nat} {left vd : Int} {sent : Nat}
theorem yi (hT : T.length = 10) (hq : qs.length = 23) (i : Nat) (hi : i < 10) : (sa T vn q vt gl k hs qs eb dp left sent hard done vd ds)[i]? = T[i]? := by
 unfold sa; rw [List.getElem?_append_left ak]
theorem UY (hT : T.length = 10) (hq : qs.length = 23) : ((sa T vn q vt gl k hs qs eb dp left sent hard done vd ds).drop 10).take 3 = qC vn q := by
 unfold sa; rw [show (10 : Nat) = T.length by omega, List.drop_left]; exact List.take_left' rfl
theorem wh (hT : T.length = 10) (hq : qs.length = 23) (i : Nat) (hi : i < 4) : (sa T vn q vt gl k hs qs eb dp left sent hard done vd ds)[13 + i]? = [vt, .pointer (some ⟨gl, 0, none⟩), .int .i64 k, hs][i]? := by
 unfold sa;rw [List.getElem?_append_right ak, hT, List.getElem?_append_right (by simp [qC]; omega), show 13 + i - 10 - (qC vn q).length = i by simp [qC]; omega];match i, hi with
 | 0, _ => rfl
 | 1, _ => rfl
 | 2, _ => rfl
 | 3, _ => rfl
theorem uN (hT : T.length = 10) (hq : qs.length = 23) : (sa T vn q vt gl k hs qs eb dp left sent hard done vd ds).drop 17 = qs ++ (.bool eb :: BI dp :: .int .i64 left :: .int .i64 sent :: .bool hard :: .bool done :: .int .i64 vd :: ds) := by
 unfold sa;rw [show (17 : Nat) = T.length + 7 by omega, List.drop_append];rw [List.drop_of_length_le ak, List.nil_append];simp [qC]
theorem V4 (hT : T.length = 10) (hq : qs.length = 23) : ((sa T vn q vt gl k hs qs eb dp left sent hard done vd ds).drop 17).take 23 = qs := by
 rw [uN hT hq]; exact List.take_left' hq
theorem vh (hT : T.length = 10) (hq : qs.length = 23) (i : Nat) (hi : i < 7) : (sa T vn q vt gl k hs qs eb dp left sent hard done vd ds)[40 + i]? = [Value.bool eb, BI dp, .int .i64 left, .int .i64 sent, .bool hard, .bool done, .int .i64 vd][i]? := by
 have e : (sa T vn q vt gl k hs qs eb dp left sent hard done vd ds)[40 + i]? = ((sa T vn q vt gl k hs qs eb dp left sent hard done vd ds).drop 17)[23 + i]? := by rw [List.getElem?_drop]; congr 1; omega
 rw [e, uN hT hq, List.getElem?_append_right ak, hq, Nat.add_sub_cancel_left];match i, hi with
 | 0, _ => rfl
 | 1, _ => rfl
 | 2, _ => rfl
 | 3, _ => rfl
 | 4, _ => rfl
 | 5, _ => rfl
 | 6, _ => rfl
theorem UZ (hT : T.length = 10) (hq : qs.length = 23) : ((sa T vn q vt gl k hs qs eb dp left sent hard done vd ds).drop 46).take 15 = .int .i64 vd :: ds.take 14 := by
 have e : (sa T vn q vt gl k hs qs eb dp left sent hard done vd ds).drop 46 = .int .i64 vd :: ds := by rw [show (46 : Nat) = 17 + 29 from rfl, <- List.drop_drop, uN hT hq, show (29 : Nat) = qs.length + 6 by omega, List.drop_append];simp
 rw [e]; rfl
theorem tw (hT : T.length = 10) (hq : qs.length = 23) : (sa T vn q vt gl k hs qs eb dp left sent hard done vd ds).length = 47 + ds.length := by
 simp [sa, hT, hq, qC]; omega
theorem Tc (hT : T.length = 10) (hq : qs.length = 23) (k' : Nat) : (sa T vn q vt gl k hs qs eb dp left sent hard done vd ds).set 15 (.int .i64 k') = sa T vn q vt gl k' hs qs eb dp left sent hard done vd ds := by
 exact kF
theorem BJ (hT : T.length = 10) (hq : qs.length = 23) (h' : Value) : (sa T vn q vt gl k hs qs eb dp left sent hard done vd ds).set 16 h' = sa T vn q vt gl k h' qs eb dp left sent hard done vd ds := by
 exact kF
theorem Qz (hT : T.length = 10) (hq : qs.length = 23) (b : Bool) : (sa T vn q vt gl k hs qs eb dp left sent hard done vd ds).set 40 (.bool b) = sa T vn q vt gl k hs qs b dp left sent hard done vd ds := by
 exact kF
theorem BK (hT : T.length = 10) (hq : qs.length = 23) (d : Option Nat) : (sa T vn q vt gl k hs qs eb dp left sent hard done vd ds).set 41 (BI d) = sa T vn q vt gl k hs qs eb d left sent hard done vd ds := by
 exact kF
theorem BL (hT : T.length = 10) (hq : qs.length = 23) (n : Int) : (sa T vn q vt gl k hs qs eb dp left sent hard done vd ds).set 42 (.int .i64 n) = sa T vn q vt gl k hs qs eb dp n sent hard done vd ds := by
 exact kF
theorem J7 (hT : T.length = 10) (hq : qs.length = 23) (n : Nat) : (sa T vn q vt gl k hs qs eb dp left sent hard done vd ds).set 43 (.int .i64 n) = sa T vn q vt gl k hs qs eb dp left n hard done vd ds := by
 exact kF
theorem J8 (hT : T.length = 10) (hq : qs.length = 23) (b : Bool) : (sa T vn q vt gl k hs qs eb dp left sent hard done vd ds).set 44 (.bool b) = sa T vn q vt gl k hs qs eb dp left sent b done vd ds := by
 exact kF
theorem J9 (hT : T.length = 10) (hq : qs.length = 23) (b : Bool) : (sa T vn q vt gl k hs qs eb dp left sent hard done vd ds).set 45 (.bool b) = sa T vn q vt gl k hs qs eb dp left sent hard b vd ds := by
 exact kF
theorem Eg (hT : T.length = 10) (hq : qs.length = 23) : (sa T vn q vt gl k hs qs eb dp left sent hard done vd ds).take 17 = T ++ (qC vn q ++ [vt, .pointer (some ⟨gl, 0, none⟩), .int .i64 k, hs]) := by
 unfold sa;rw [show (17 : Nat) = T.length + 7 by omega, List.take_append, List.take_of_length_le ak];simp [qC]
theorem Lr (hT : T.length = 10) (hq : qs.length = 23) (qs' : List Value) (hq' : qs'.length = 23) : (sa T vn q vt gl k hs qs eb dp left sent hard done vd ds).take 17 ++ qs' ++ (sa T vn q vt gl k hs qs eb dp left sent hard done vd ds).drop (17 + qs'.length) = sa T vn q vt gl k hs qs' eb dp left sent hard done vd ds := by
 rw [Eg hT hq, hq', <- List.drop_drop, uN hT hq, List.drop_left' hq];simp [sa]
theorem Nx (hT : T.length = 10) (hq : qs.length = 23) (vd' : Int) (ds' : List Value) (hd : ds.length = 14) (hd' : ds'.length = 14) : (sa T vn q vt gl k hs qs eb dp left sent hard done vd ds).take 46 ++ (.int .i64 vd' :: ds') ++ (sa T vn q vt gl k hs qs eb dp left sent hard done vd ds).drop (46 + (.int .i64 vd' :: ds' : List Value).length) = sa T vn q vt gl k hs qs eb dp left sent hard done vd' ds' := by
 rw [List.drop_of_length_le (by rw [tw hT hq]; simp; omega), List.append_nil];have e : (sa T vn q vt gl k hs qs eb dp left sent hard done vd ds).take 46 = T ++ (qC vn q ++ [vt, .pointer (some ⟨gl, 0, none⟩), .int .i64 k, hs]) ++ (qs ++ [.bool eb, BI dp, .int .i64 left, .int .i64 sent, .bool hard, .bool done]) := by rw [show (46 : Nat) = 17 + 29 from rfl, List.take_add, Eg hT hq, uN hT hq, show (29 : Nat) = qs.length + 6 by omega, List.take_append, List.take_of_length_le (show qs.length <= qs.length + 6 by omega)];simp
 rw [e];simp [sa]
end
structure pH (w : World) (g gl : Nat) (vn : Value) (x : Xc) (hs : Value) (eb : Bool) (qs : List Value) (dp : Option Nat) : Prop where
 b : ∃ T vt ds, nj w g 177 (sa T vn x.q vt gl x.k hs qs eb dp x.left x.sent x.hard x.done x.vd ds) /\ T.length = 10 /\ T[4]? = some (.int .i64 x.tmo) /\ T[7]? = some (.bool x.vc) /\ T[9]? = some (.bool x.ed) /\ ye w 0 vt x.tr /\ nL w ds x.msg
 nm : y9 w vn x.q.name
 ql : qs.length = 23
theorem Fr.stays {S : Nat -> Prop} {w w' : World} (h : Fr S w w') : nQ w w' := fun v n x => h.own x bJ
theorem Fr.yj {α : Type} {S : Nat -> Prop} {w w' : World} {B : Nat} {e : TypeId} {k : Nat} {R : List Value -> α -> Prop} {v : Value} {l : List α} (h : Fr S w w') (ho : nZ w B e k R v l) (he : ¬ Hj e) : nZ w' B e k R v l := ho.stays (fun _ x => h.own x he) (fun _ _ x => x)
theorem Fr.msg {S : Nat -> Prop} {w w' : World} {cs : List Value} {m : oh} (h : Fr S w w') (hm : nL w cs m) : nL w' cs m := by
 obtain ⟨vq, va, vu, ve, h1, h2, h3, h4, h5, l⟩ := hm;have hq : ¬ Hj 28 := bJ;have hr : ¬ Hj 119 := bJ;exact ⟨vq, va, vu, ve, h1, h2.stays (fun _ x => h.own x hq) (fun _ _ x => x.stays h.stays), h3.stays (fun _ x => h.own x hr) (fun _ _ x => x.stays h.stays), h4.stays (fun _ x => h.own x hr) (fun _ _ x => x.stays h.stays), h5.stays (fun _ x => h.own x hr) (fun _ _ x => x.stays h.stays), l⟩
theorem pH.lt {w : World} {g gl : Nat} {vn : Value} {x : Xc} {hs : Value} {eb : Bool} {qs : List Value} {dp : Option Nat} (h : pH w g gl vn x hs eb qs dp) : g < w.heap.size := by obtain ⟨T, vt, ds, hb, _⟩ := h.b; exact hb.lt
theorem pH.fr {S : Nat -> Prop} {w w' : World} {g gl : Nat} {vn : Value} {x : Xc} {hs : Value} {eb : Bool} {qs : List Value} {dp : Option Nat} (h : pH w g gl vn x hs eb qs dp) (k : Fr S w w') (hg : ¬ S g) : pH w' g gl vn x hs eb qs dp := by
 obtain ⟨T, vt, ds, hb, h1, h2, h3, h4, h5, h6⟩ := h.b;exact ⟨⟨T, vt, ds, k.oL hb hg, h1, h2, h3, h4, k.yj h5 bJ, k.msg h6⟩, h.nm.stays k.stays, h.ql⟩
theorem pH.below {w w' : World} {g gl : Nat} {vn : Value} {x : Xc} {hs : Value} {eb : Bool} {qs : List Value} {dp : Option Nat} (h : pH w g gl vn x hs eb qs dp) (k : Below w.heap.size w w') : pH w' g gl vn x hs eb qs dp := h.fr (S := fun _ => False) (Fr.below k) (fun h => h)
theorem pH.put {w w' : World} {g gl : Nat} {vn : Value} {x x' : Xc} {hs hs' : Value} {eb eb' : Bool} {qs qs' : List Value} {dp dp' : Option Nat} (h : pH w g gl vn x hs eb qs dp) (hg : w.grownBy w' (some g)) (e1 : x'.q = x.q) (e2 : x'.tr = x.tr) (e3 : x'.tmo = x.tmo) (e4 : x'.vc = x.vc) (e5 : x'.ed = x.ed) (e6 : x'.msg = x.msg) (hq : qs'.length = 23)
  (hb : ∀ T vt ds, T.length = 10 -> ds.length = 14 -> nj w g 177 (sa T vn x.q vt gl x.k hs qs eb dp x.left x.sent x.hard x.done x.vd ds) -> nj w' g 177 (sa T vn x.q vt gl x'.k hs' qs' eb' dp' x'.left x'.sent x'.hard x'.done x'.vd ds)) : pH w' g gl vn x' hs' eb' qs' dp' := by
 obtain ⟨T, vt, ds, hb0, h1, h2, h3, h4, h5, h6⟩ := h.b;have fr : Fr (fun i => i = g) w w' := Fr.grown hg hb0 (.inr (.inl rfl)) rfl;refine ⟨⟨T, vt, ds, ?_, h1, ?_, ?_, ?_, ?_, ?_⟩, ?_, hq⟩
 ·rw [e1]; exact hb T vt ds h1 h6.len hb0
 ·rw [e3]; exact h2
 ·rw [e4]; exact h3
 ·rw [e5]; exact h4
 ·rw [e2]; exact fr.yj h5 bJ
 ·rw [e6]; exact fr.msg h6
 ·rw [e1]; exact h.nm.stays fr.stays
def qT : List Ou -> Nat
 | [] => 0
 | o :: l => (if o.kind = 1 \/ o.kind = 2 then 1 else 0) + qT l
theorem xw : ∀ (a b : List Ou), qT (a ++ b) = qT a + qT b
 | [], b => by simp [qT]
 | o :: a, b => by simp only [List.cons_append, qT, xw a b]; omega
def Xc.rest (x : Xc) : Nat := if x.done then 0 else (2 - x.lg) + 3 * (x.tr.length - x.k - 1)
def Xc.Iu (x : Xc) : Nat := if x.done then 0 else x.left.toNat + x.tmo.toNat * x.rest
theorem wQ {x : Xc} (h : x.done = false) : x.rest = (2 - x.lg) + 3 * (x.tr.length - x.k - 1) := by unfold Xc.rest; rw [h]; rfl
theorem Ka {x : Xc} (h : x.done = false) : x.Iu = x.left.toNat + x.tmo.toNat * x.rest := by unfold Xc.Iu; rw [h]; rfl
theorem Fq {x : Xc} (h : x.done = true) : x.rest = 0 := by unfold Xc.rest; rw [h]; rfl
theorem Fs {x : Xc} (h : x.done = true) : x.Iu = 0 := by unfold Xc.Iu; rw [h]; rfl
structure sM (x : Xc) (L : Lt) (r : XR) (t n h : Nat) : Prop where
 tr : r.1.tr = x.tr
 tmo : r.1.tmo = x.tmo
 q : r.1.q = x.q
 snt : r.1.sent = x.sent + qT r.2.2
 rst : qT r.2.2 + r.1.rest <= n
 Iu : r.1.Iu <= t
 lg : r.1.lg <= 2
 vd : r.1.done = true -> r.1.vd ≠ 0
 us : r.2.1.us <= L.us + 2
 ds : r.2.1.ds = L.ds
 hd : r.1.d.heard.length <= h
theorem sM.mono {x : Xc} {L : Lt} {r : XR} {t n h t' n' h' : Nat} (e : sM x L r t n h) (ht : t <= t') (hn : n <= n') (hh : h <= h') : sM x L r t' n' h' :=
 ⟨e.tr, e.tmo, e.q, e.snt, Nat.le_trans e.rst hn, Nat.le_trans e.Iu ht, e.lg, e.vd, e.us, e.ds, Nat.le_trans e.hd hh⟩
theorem sM.of {x y : Xc} {L : Lt} {r : XR} {t n h : Nat} (e : sM x L r t n h) (h1 : x.tr = y.tr) (h2 : x.tmo = y.tmo) (h3 : x.q = y.q) (h4 : x.sent = y.sent) : sM y L r t n h :=
 ⟨h1 ▸ e.tr, h2 ▸ e.tmo, h3 ▸ e.q, h4 ▸ e.snt, e.rst, e.Iu, e.lg, e.vd, e.us, e.ds, e.hd⟩
theorem BN {x : Xc} (h : x.st) (L : Lt) : Bg (od x L) = 0 := by
 obtain ⟨h1, h2⟩ := wL (qk L 64512).2 (show (0 : Int) < 65536 by decide);exact h.err (qk (qk L 64512).2 65536).1 false h1 ak
theorem uw (x : Xc) (L : Lt) (lg : Nat) : (oq x L lg).1.done = x.done /\ (oq x L lg).1.tr = x.tr /\ (oq x L lg).1.k = x.k /\ (oq x L lg).1.tmo = x.tmo /\ (oq x L lg).1.left = x.tmo /\ (oq x L lg).1.lg = lg /\ (oq x L lg).1.sent = x.sent + 1 /\ (oq x L lg).1.q = x.q /\ (oq x L lg).2.1 = oV L := by
 unfold oq;split
 ·rename_i h; subst h; exact ⟨rfl, rfl, rfl, rfl, rfl, rfl, rfl, rfl, rfl⟩
 ·exact ⟨rfl, rfl, rfl, rfl, rfl, rfl, rfl, rfl, rfl⟩
theorem BP {x : Xc} (h : x.st) (hd : x.done = false) (L : Lt) (lg : Nat) (hlg : lg <= 2) : sM x L (oq x L lg) (x.tmo.toNat * (1 + (2 - lg) + 3 * (x.tr.length - x.k - 1))) (1 + (2 - lg) + 3 * (x.tr.length - x.k - 1)) x.d.heard.length := by
 have e0 := BN h L;have eN : tf (od x L) = (⟨od x L, ny 2 (Ih (od x L)).length ++ Ih (od x L), 0, false, [], oh.zero⟩, [⟨2, (od x L).sv, (od x L).port, []⟩]) := by unfold tf; rw [if_pos e0]
 have hm : x.tmo.toNat * (1 + (2 - lg) + 3 * (x.tr.length - x.k - 1)) = x.tmo.toNat + x.tmo.toNat * ((2 - lg) + 3 * (x.tr.length - x.k - 1)) := by rw [Nat.add_assoc, Nat.mul_add, Nat.mul_one]
 have hb : qT (oq x L lg).2.2 = 1 := by
  unfold oq;split
  ·rw [eN]; rfl
  ·rfl
 have hh : (oq x L lg).1.d.heard.length <= x.d.heard.length := by
  unfold oq;split
  ·rw [eN]; exact Nat.zero_le _
  ·exact Nat.le_refl _
 obtain ⟨f1, f2, f3, f4, f5, f6, f7, f8, f9⟩ := uw x L lg;have hdn := f1.trans hd;refine ⟨f2, f4, f8, by rw [f7, hb], ?_, ?_, by rw [f6]; exact hlg, fun hh => ?_, by rw [f9]; exact Nat.le_refl _, by rw [f9]; rfl, hh⟩
 ·rw [hb, wQ hdn, f2, f3, f6]; omega
 ·rw [Ka hdn, wQ hdn, f2, f3, f4, f5, f6, hm]; exact Nat.le_refl _
 ·rw [hdn] at hh; cases hh
theorem Iv {x : Xc} (h : x.st) (hd : x.done = false) (hlg : x.lg <= 2) (L : Lt) : sM x L (th x L) (x.tmo.toNat * (3 * (x.tr.length - x.k))) (3 * (x.tr.length - x.k)) x.d.heard.length := by
 unfold th;split
 ·
  rename_i hk;refine (BP h hd L _ (by split <;> omega)).mono (Nat.mul_le_mul_left _ ?_) ?_ (Nat.le_refl _)
  ·split <;> omega
  ·split <;> omega
 ·exact ⟨rfl, rfl, rfl, rfl, by rw [Fq rfl]; exact Nat.zero_le _, by rw [Fs rfl]; exact Nat.zero_le _, hlg, fun _ => by show (if x.hard then (5 : Int) else 4) ≠ 0; split <;> decide, Nat.le_add_right _ _, rfl, Nat.le_refl _⟩
theorem uO {x : Xc} (h : x.st) (hd : x.done = false) (hlg : x.lg <= 2) (L : Lt) : sM x L (qJ x L) (x.tmo.toNat * (3 * (x.tr.length - x.k - 1))) (3 * (x.tr.length - x.k - 1)) x.d.heard.length := by
 have := Iv (x := { x with k := x.k + 1 }) ⟨h.ips, h.to1, h.to2, h.trl, h.err⟩ hd hlg L;refine sM.of (y := x) (this.mono ?_ ?_ (Nat.le_refl _)) rfl rfl rfl rfl
 ·exact Nat.mul_le_mul_left _ (by show 3 * (x.tr.length - (x.k + 1)) <= _; omega)
 ·show 3 * (x.tr.length - (x.k + 1)) <= _; omega
theorem Ny (q : Qn) (m : oh) : qd q m ≠ 0 := by
 unfold qd;split
 ·decide
 ·
  split
  ·decide
  ·split <;> decide
theorem Kb {h : Hd} {c e : Bool} (hv : oJ h c e = 2) : c = false := by
 unfold oJ at hv;split at hv
 ·rename_i h; exact h.2
 ·
  (repeat' split at hv) <;> simp at hv
theorem Kc {h : Hd} {c e : Bool} (hv : oJ h c e = 3) : e = true := by
 unfold oJ at hv;split at hv
 ·simp at hv
 ·
  split at hv
  ·simp at hv
  ·
   split at hv
   ·simp at hv
   ·
    split at hv
    ·rename_i h; exact h.1
    ·simp at hv
theorem Eh {x : Xc} (h : x.st) (hd : x.done = false) (hlg : x.lg <= 2) (L : Lt) (m : oh) : sM x L (ti x L m) (x.tmo.toNat * x.rest) x.rest x.d.heard.length := by
 have hr := wQ hd;unfold ti;split
 ·exact ⟨rfl, rfl, rfl, rfl, by rw [Fq rfl]; exact Nat.zero_le _, by rw [Fs rfl]; exact Nat.zero_le _, hlg, fun _ => Ny _ _, Nat.le_add_right _ _, rfl, Nat.le_refl _⟩
 ·
  split
  ·rename_i hv;have hc := Kb hv;have hl : x.lg ≠ 2 := gN;refine (BP h hd L 2 (Nat.le_refl _)).mono (Nat.mul_le_mul_left _ ?_) ?_ (Nat.le_refl _);all_goals omega
  ·
   split
   ·
    rename_i hv;have hc := Kc hv;have hl : x.lg = 0 := by unfold Xc.oX at hc;simp at hc;exact hc.1
    refine (BP h hd L 1 ak).mono (Nat.mul_le_mul_left _ ?_) ?_ (Nat.le_refl _);all_goals omega
   ·
    split
    ·refine (sM.of (y := x) (uO (x := { x with hard := true }) ⟨h.ips, h.to1, h.to2, h.trl, h.err⟩ hd hlg L) rfl rfl rfl rfl).mono (Nat.mul_le_mul_left _ ?_) ?_ (Nat.le_refl _);all_goals show 3 * (x.tr.length - x.k - 1) <= _; omega
    ·refine (uO h hd hlg L).mono (Nat.mul_le_mul_left _ ?_) ?_ (Nat.le_refl _);all_goals omega
theorem xx (d : Dl) (e : Ev) : qT (n6 d e).2 = 0 := by
 unfold n6
 (repeat' split) <;> rfl
theorem Kd (d : Dl) : qT (qI d).2 = 0 := by
 unfold qI;split <;> rfl
theorem sM.app {x : Xc} {L : Lt} {r : XR} {t n h : Nat} (e : sM x L r t n h) {o : List Ou} (ho : qT o = 0) : sM x L (qH o r) t n h :=
 ⟨e.tr, e.tmo, e.q, by show r.1.sent = x.sent + qT (o ++ r.2.2); rw [xw, ho, Nat.zero_add]; exact e.snt, by show qT (o ++ r.2.2) + r.1.rest <= n; rw [xw, ho, Nat.zero_add]; exact e.rst, e.Iu, e.lg, e.vd, e.us, e.ds, e.hd⟩
theorem sM.same {x y : Xc} {L : Lt} {o : List Ou} {t h : Nat} (h1 : y.tr = x.tr) (h2 : y.tmo = x.tmo) (h3 : y.q = x.q) (h4 : y.sent = x.sent) (h5 : y.rest = x.rest) (h6 : y.Iu <= t) (h7 : y.lg <= 2) (h8 : y.done = true -> y.vd ≠ 0) (h9 : y.d.heard.length <= h) (ho : qT o = 0) : sM x L (y, L, o) t x.rest h :=
 ⟨h1, h2, h3, by show y.sent = x.sent + qT o; omega, by show qT o + y.rest <= x.rest; omega, h6, h7, h8, Nat.le_add_right _ _, rfl, h9⟩
theorem Nz {x : Xc} (h : x.done = false -> x.st) (hl : x.done = false -> 1 <= x.left) (hlg : x.lg <= 2) (hv : x.done = true -> x.vd ≠ 0) (L : Lt) (e : Ev) : sM x L (oI x L e) (x.Iu - (if e.kind = 1 then 1 else 0)) x.rest (x.d.heard.length + e.data.length) := by
 cases hd : x.done with
 | true => unfold oI;rw [if_pos hd];exact sM.same rfl rfl rfl rfl rfl (by rw [Fs hd]; exact Nat.zero_le _) hlg hv (Nat.le_add_right _ _) rfl
 | false =>
 have h := h hd;have hr := wQ hd;have hp := Ka hd;have hl1 := hl hd;have hx := yY x.d e;have hN := uO (x := { x with left := x.left - 1 }) ⟨h.ips, h.to1, h.to2, h.trl, h.err⟩ hd hlg L;have hM : x.tmo.toNat * (3 * (x.tr.length - x.k - 1)) <= x.tmo.toNat * x.rest := Nat.mul_le_mul_left _ ak;unfold oI;rw [if_neg (by rw [hd]; decide)];split
 ·
  split
  ·
   rename_i hk;split
   ·
    have hN := uO (x := { x with left := x.left - 1, d := (qI x.d).1 }) ⟨h.ips, h.to1, h.to2, h.trl, h.err⟩ hd hlg L;refine (sM.of (y := x) (hN.app (Kd x.d)) rfl rfl rfl rfl).mono ?_ ?_ ?_
    ·exact lT
    ·exact mx
    ·show (qI x.d).1.heard.length <= _;unfold qI; split <;> exact Nat.le_add_right _ _
   ·exact ko
  ·
   rename_i hk;split
   ·
    refine (sM.of (y := x) ((Eh (x := { x with d := (n6 x.d e).1 }) ⟨h.ips, h.to1, h.to2, h.trl, h.err⟩ hd hlg L _).app (xx x.d e)) rfl rfl rfl rfl).mono ?_ ?_ hx
    ·show x.tmo.toNat * x.rest <= _; omega
    ·exact Nat.le_refl _
   ·
    split
    ·
     refine (sM.of (y := x) ((uO (x := { x with d := (n6 x.d e).1 }) ⟨h.ips, h.to1, h.to2, h.trl, h.err⟩ hd hlg L).app (xx x.d e)) rfl rfl rfl rfl).mono ?_ ?_ hx
     ·exact lT
     ·exact mx
    ·exact sM.same rfl rfl rfl rfl rfl cT hlg hv hx (xx x.d e)
 ·
  split
  ·
   rename_i hk;split
   ·
    refine (sM.of (y := x) hN rfl rfl rfl rfl).mono ?_ ?_ (Nat.le_add_right _ _)
    ·exact lT
    ·exact mx
   ·exact ko
  ·
   rename_i hk;split
   ·refine (Eh h hd hlg L _).mono ?_ (Nat.le_refl _) (Nat.le_add_right _ _);omega
   ·exact sM.same rfl rfl rfl rfl rfl cT hlg hv (Nat.le_add_right _ _) rfl
theorem QA (tmo : Int) (vc ed : Bool) (q : Qn) (tr : List oi) (L : Lt) (h : (oT (pf q 0 ed) false).2 = 0 -> (sy tmo vc ed q tr).st) : sM (sy tmo vc ed q tr) L (rF tmo vc ed q tr L) (tmo.toNat * (3 * tr.length)) (3 * tr.length) 0 := by
 unfold rF;split
 ·exact ⟨rfl, rfl, rfl, rfl, by rw [Fq rfl]; exact Nat.zero_le _, by rw [Fs rfl]; exact Nat.zero_le _, Nat.zero_le _, fun _ => by show (3 : Int) ≠ 0; decide, Nat.le_add_right _ _, rfl, Nat.le_refl _⟩
 ·rename_i he;exact Iv (h (Decidable.not_not.1 he)) rfl (Nat.zero_le _) L
theorem Iw (x : Xc) (L : Lt) (lg : Nat) : (oq x L lg).2.2.length <= 1 := by
 unfold oq;split
 ·exact Qj _
 ·exact Nat.le_refl _
theorem uP (x : Xc) (L : Lt) : (th x L).2.2.length <= 1 := by
 unfold th;split
 ·exact Iw _ _ _
 ·exact Nat.zero_le _
theorem yL (x : Xc) (L : Lt) (m : oh) : (ti x L m).2.2.length <= 1 := by
 unfold ti
 (repeat' split) <;> first | exact Iw _ _ _ | exact uP _ _ | exact Nat.zero_le _
theorem NA (x : Xc) (L : Lt) (e : Ev) : (oI x L e).2.2.length <= 2 := by
 have h1 := D8 x.d e;have h2 := Ea x.d;unfold oI
 (repeat' split) <;> first
  | exact Nat.zero_le _
  | (show (_ ++ (qJ _ L).2.2).length <= 2; rw [List.length_append]; have : ∀ y, (qJ y L).2.2.length <= 1 := fun y => uP _ _; exact Nat.add_le_add aG (this _))
  | (show (_ ++ (ti _ L _).2.2).length <= 2; rw [List.length_append]; exact Nat.add_le_add h1 (yL _ _ _))
  | exact Nat.le_succ_of_le h1
  | exact Nat.le_succ_of_le (uP _ _)
  | exact Nat.le_succ_of_le (yL _ _ _)
end Go.Proofs.YthnbcmlnpdabhaaGreat

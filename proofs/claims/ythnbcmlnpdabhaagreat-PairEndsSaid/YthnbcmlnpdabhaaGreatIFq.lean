/-
  Layers 26, 27 and 29 (chain, verdict, xchg), plain: what a chain leads to, what a reply means, what an exchange does.
-/
import Derived.Test.YthnbcmlnpdabhaaGreatIEq
import Derived.Test.YthnbcmlnpdabhaaGreatICq
namespace Go.Proofs.YthnbcmlnpdabhaaGreat
open _root_.Go.Proofs.Tryz
open Go.RowKit
set_option linter.unusedVariables false
structure Xc where
 tmo : Int
 vc : Bool
 ed : Bool
 q : Qn
 tr : List Adr
 k : Nat
 lg : Nat
 left : Int
 sent : Nat
 y : Qy
 d : Dl
 hard : Bool
 done : Bool
 vd : Int
 msg : Msg
abbrev XR := Xc × Lt × List Ou
def Xc.ednsB (x : Xc) : Bool := decide (x.lg = 0) && x.ed
def legY (x : Xc) (L : Lt) : Qy := ⟨x.tr.getD x.k Adr.zero, 1024 + (drawL L 64512).1, (drawL (drawL L 64512).2 65536).1, x.q⟩
def legL (L : Lt) : Lt := (drawL (drawL L 64512).2 65536).2
def legX (x : Xc) (L : Lt) (lg : Nat) : XR :=
 if lg = 2 then ({ x with y := legY x L, lg := 2, left := x.tmo, sent := x.sent + 1, d := (newD (legY x L)).1 }, legL L, (newD (legY x L)).2)
 else ({ x with y := legY x L, lg := lg, left := x.tmo, sent := x.sent + 1 }, legL L, [⟨1, (legY x L).sv, (legY x L).port, (encM (askM x.q (legY x L).id (decide (lg = 0) && x.ed)) false).1⟩])
def tryX (x : Xc) (L : Lt) : XR := if x.k < x.tr.length then legX x L (if x.vc then 2 else 0) else ({ x with done := true, vd := if x.hard then 5 else 4, msg := Msg.zero }, L, [])
def nextX (x : Xc) (L : Lt) : XR := tryX { x with k := x.k + 1 } L
def toldX (x : Xc) (L : Lt) (m : Msg) : XR :=
 if verdOf m.hd (decide (x.lg = 2)) x.ednsB = 1 then ({ x with done := true, vd := finalV x.q m, msg := m }, L, [])
 else if verdOf m.hd (decide (x.lg = 2)) x.ednsB = 2 then legX x L 2
 else if verdOf m.hd (decide (x.lg = 2)) x.ednsB = 3 then legX x L 1
 else if verdOf m.hd (decide (x.lg = 2)) x.ednsB = 5 then nextX { x with hard := true } L
 else nextX x L
def appX (o : List Ou) (r : XR) : XR := (r.1, r.2.1, o ++ r.2.2)
def hearX (x : Xc) (L : Lt) (e : Ev) : XR :=
 if x.done then (x, L, [])
 else if x.lg = 2 then
  if e.kind = 1 then (if x.left ≤ 1 then appX (hangD x.d).2 (nextX { x with left := x.left - 1, d := (hangD x.d).1 } L) else ({ x with left := x.left - 1 }, L, []))
  else if (hearD x.d e).1.st = 1 then appX (hearD x.d e).2 (toldX { x with d := (hearD x.d e).1 } L (hearD x.d e).1.msg)
  else if (hearD x.d e).1.st = 2 then appX (hearD x.d e).2 (nextX { x with d := (hearD x.d e).1 } L)
  else ({ x with d := (hearD x.d e).1 }, L, (hearD x.d e).2)
 else if e.kind = 1 then (if x.left ≤ 1 then nextX { x with left := x.left - 1 } L else ({ x with left := x.left - 1 }, L, []))
 else if (packP x.y e).2 then toldX x L (packP x.y e).1 else (x, L, [])
def startX (tmo : Int) (vc ed : Bool) (q : Qn) (tr : List Adr) : Xc := ⟨tmo, vc, ed, q, tr, 0, 0, 0, 0, ⟨Adr.zero, 0, 0, ⟨[], 0, 0⟩⟩, ⟨⟨Adr.zero, 0, 0, ⟨[], 0, 0⟩⟩, [], 2, false, [], Msg.zero⟩, false, false, 0, Msg.zero⟩
def newX (tmo : Int) (vc ed : Bool) (q : Qn) (tr : List Adr) (L : Lt) : XR :=
 if (encM (askM q 0 ed) false).2 ≠ 0 then ({ startX tmo vc ed q tr with done := true, vd := 3 }, L, []) else tryX (startX tmo vc ed q tr) L
structure Xc.st (x : Xc) : Prop where
 ips : ∀ a ∈ x.tr, a.ip.length = 16
 to1 : 1 ≤ x.tmo
 to2 : x.tmo ≤ 30
 trl : x.tr.length ≤ 1000
 err : ∀ id e, 0 ≤ id → id ≤ 65535 → (encM (askM x.q id e) false).2 = 0
structure Xc.ok (x : Xc) : Prop where
 st : x.done = false → x.st
 go : x.done = false → x.k < x.tr.length ∧ 1 ≤ x.left ∧ x.left ≤ x.tmo ∧ x.y.q = x.q ∧ x.y.sv = x.tr.getD x.k Adr.zero ∧ (x.lg = 2 → x.d.st = 0 ∧ x.d.y = x.y ∧ x.d.ok)
set_option maxRecDepth 100000
set_option linter.unusedSimpArgs false
def ptrV (D : Option Nat) : Value := .pointer (D.map fun g => ⟨g, 0, none⟩)
def xcC (T : List Value) (vn : Value) (q : Qn) (vt : Value) (gl : Nat) (k : Nat) (hs : Value) (qs : List Value) (eb : Bool) (dp : Option Nat) (left : Int) (sent : Nat) (hard done : Bool) (vd : Int) (ds : List Value) : List Value :=
 T ++ (qC vn q ++ (vt :: .pointer (some ⟨gl, 0, none⟩) :: .int .i64 k :: hs :: (qs ++ (.bool eb :: ptrV dp :: .int .i64 left :: .int .i64 sent :: .bool hard :: .bool done :: .int .i64 vd :: ds))))
section
variable {T qs ds : List Value} {vn vt hs : Value} {q : Qn} {gl k : Nat} {eb hard done : Bool} {dp : Option Nat} {left vd : Int} {sent : Nat}
theorem xc_told (hT : T.length = 10) (hq : qs.length = 23) (i : Nat) (hi : i < 10) : (xcC T vn q vt gl k hs qs eb dp left sent hard done vd ds)[i]? = T[i]? := by
 unfold xcC; rw [List.getElem?_append_left (by omega)]
theorem xc_q (hT : T.length = 10) (hq : qs.length = 23) : ((xcC T vn q vt gl k hs qs eb dp left sent hard done vd ds).drop 10).take 3 = qC vn q := by
 unfold xcC; rw [show (10 : Nat) = T.length by omega, List.drop_left]; exact List.take_left' rfl
theorem xc_mid (hT : T.length = 10) (hq : qs.length = 23) (i : Nat) (hi : i < 4) : (xcC T vn q vt gl k hs qs eb dp left sent hard done vd ds)[13 + i]? = [vt, .pointer (some ⟨gl, 0, none⟩), .int .i64 k, hs][i]? := by
 unfold xcC
 rw [List.getElem?_append_right (by omega), hT, List.getElem?_append_right (by simp [qC]; omega), show 13 + i - 10 - (qC vn q).length = i by simp [qC]; omega]
 match i, hi with
 | 0, _ => rfl
 | 1, _ => rfl
 | 2, _ => rfl
 | 3, _ => rfl
theorem xc_drop17 (hT : T.length = 10) (hq : qs.length = 23) : (xcC T vn q vt gl k hs qs eb dp left sent hard done vd ds).drop 17 = qs ++ (.bool eb :: ptrV dp :: .int .i64 left :: .int .i64 sent :: .bool hard :: .bool done :: .int .i64 vd :: ds) := by
 unfold xcC
 rw [show (17 : Nat) = T.length + 7 by omega, List.drop_append]
 rw [List.drop_of_length_le (by omega), List.nil_append]
 simp [qC]
theorem xc_y (hT : T.length = 10) (hq : qs.length = 23) : ((xcC T vn q vt gl k hs qs eb dp left sent hard done vd ds).drop 17).take 23 = qs := by
 rw [xc_drop17 hT hq]; exact List.take_left' hq
theorem xc_end (hT : T.length = 10) (hq : qs.length = 23) (i : Nat) (hi : i < 7) : (xcC T vn q vt gl k hs qs eb dp left sent hard done vd ds)[40 + i]? = [Value.bool eb, ptrV dp, .int .i64 left, .int .i64 sent, .bool hard, .bool done, .int .i64 vd][i]? := by
 have e : (xcC T vn q vt gl k hs qs eb dp left sent hard done vd ds)[40 + i]? = ((xcC T vn q vt gl k hs qs eb dp left sent hard done vd ds).drop 17)[23 + i]? := by rw [List.getElem?_drop]; congr 1; omega
 rw [e, xc_drop17 hT hq, List.getElem?_append_right (by omega), hq, Nat.add_sub_cancel_left]
 match i, hi with
 | 0, _ => rfl
 | 1, _ => rfl
 | 2, _ => rfl
 | 3, _ => rfl
 | 4, _ => rfl
 | 5, _ => rfl
 | 6, _ => rfl
theorem xc_out (hT : T.length = 10) (hq : qs.length = 23) : ((xcC T vn q vt gl k hs qs eb dp left sent hard done vd ds).drop 46).take 15 = .int .i64 vd :: ds.take 14 := by
 have e : (xcC T vn q vt gl k hs qs eb dp left sent hard done vd ds).drop 46 = .int .i64 vd :: ds := by
  rw [show (46 : Nat) = 17 + 29 from rfl, ← List.drop_drop, xc_drop17 hT hq, show (29 : Nat) = qs.length + 6 by omega, List.drop_append]
  simp
 rw [e]; rfl
theorem xc_len (hT : T.length = 10) (hq : qs.length = 23) : (xcC T vn q vt gl k hs qs eb dp left sent hard done vd ds).length = 47 + ds.length := by
 simp [xcC, hT, hq, qC]; omega
theorem xc_setk (hT : T.length = 10) (hq : qs.length = 23) (k' : Nat) : (xcC T vn q vt gl k hs qs eb dp left sent hard done vd ds).set 15 (.int .i64 k') = xcC T vn q vt gl k' hs qs eb dp left sent hard done vd ds := by
 simp [xcC, List.set_append, hT, hq, qC]
theorem xc_seths (hT : T.length = 10) (hq : qs.length = 23) (h' : Value) : (xcC T vn q vt gl k hs qs eb dp left sent hard done vd ds).set 16 h' = xcC T vn q vt gl k h' qs eb dp left sent hard done vd ds := by
 simp [xcC, List.set_append, hT, hq, qC]
theorem xc_seteb (hT : T.length = 10) (hq : qs.length = 23) (b : Bool) : (xcC T vn q vt gl k hs qs eb dp left sent hard done vd ds).set 40 (.bool b) = xcC T vn q vt gl k hs qs b dp left sent hard done vd ds := by
 simp [xcC, List.set_append, hT, hq, qC]
theorem xc_setdp (hT : T.length = 10) (hq : qs.length = 23) (d : Option Nat) : (xcC T vn q vt gl k hs qs eb dp left sent hard done vd ds).set 41 (ptrV d) = xcC T vn q vt gl k hs qs eb d left sent hard done vd ds := by
 simp [xcC, List.set_append, hT, hq, qC]
theorem xc_setleft (hT : T.length = 10) (hq : qs.length = 23) (n : Int) : (xcC T vn q vt gl k hs qs eb dp left sent hard done vd ds).set 42 (.int .i64 n) = xcC T vn q vt gl k hs qs eb dp n sent hard done vd ds := by
 simp [xcC, List.set_append, hT, hq, qC]
theorem xc_setsent (hT : T.length = 10) (hq : qs.length = 23) (n : Nat) : (xcC T vn q vt gl k hs qs eb dp left sent hard done vd ds).set 43 (.int .i64 n) = xcC T vn q vt gl k hs qs eb dp left n hard done vd ds := by
 simp [xcC, List.set_append, hT, hq, qC]
theorem xc_sethard (hT : T.length = 10) (hq : qs.length = 23) (b : Bool) : (xcC T vn q vt gl k hs qs eb dp left sent hard done vd ds).set 44 (.bool b) = xcC T vn q vt gl k hs qs eb dp left sent b done vd ds := by
 simp [xcC, List.set_append, hT, hq, qC]
theorem xc_setdone (hT : T.length = 10) (hq : qs.length = 23) (b : Bool) : (xcC T vn q vt gl k hs qs eb dp left sent hard done vd ds).set 45 (.bool b) = xcC T vn q vt gl k hs qs eb dp left sent hard b vd ds := by
 simp [xcC, List.set_append, hT, hq, qC]
theorem xc_take17 (hT : T.length = 10) (hq : qs.length = 23) : (xcC T vn q vt gl k hs qs eb dp left sent hard done vd ds).take 17 = T ++ (qC vn q ++ [vt, .pointer (some ⟨gl, 0, none⟩), .int .i64 k, hs]) := by
 unfold xcC
 rw [show (17 : Nat) = T.length + 7 by omega, List.take_append, List.take_of_length_le (by omega)]
 simp [qC]
theorem xc_puty (hT : T.length = 10) (hq : qs.length = 23) (qs' : List Value) (hq' : qs'.length = 23) : (xcC T vn q vt gl k hs qs eb dp left sent hard done vd ds).take 17 ++ qs' ++ (xcC T vn q vt gl k hs qs eb dp left sent hard done vd ds).drop (17 + qs'.length) = xcC T vn q vt gl k hs qs' eb dp left sent hard done vd ds := by
 rw [xc_take17 hT hq, hq', ← List.drop_drop, xc_drop17 hT hq, List.drop_left' hq]
 simp [xcC]
theorem xc_putout (hT : T.length = 10) (hq : qs.length = 23) (vd' : Int) (ds' : List Value) (hd : ds.length = 14) (hd' : ds'.length = 14) : (xcC T vn q vt gl k hs qs eb dp left sent hard done vd ds).take 46 ++ (.int .i64 vd' :: ds') ++ (xcC T vn q vt gl k hs qs eb dp left sent hard done vd ds).drop (46 + (.int .i64 vd' :: ds' : List Value).length) = xcC T vn q vt gl k hs qs eb dp left sent hard done vd' ds' := by
 rw [List.drop_of_length_le (by rw [xc_len hT hq]; simp; omega), List.append_nil]
 have e : (xcC T vn q vt gl k hs qs eb dp left sent hard done vd ds).take 46 = T ++ (qC vn q ++ [vt, .pointer (some ⟨gl, 0, none⟩), .int .i64 k, hs]) ++ (qs ++ [.bool eb, ptrV dp, .int .i64 left, .int .i64 sent, .bool hard, .bool done]) := by
  rw [show (46 : Nat) = 17 + 29 from rfl, List.take_add, xc_take17 hT hq, xc_drop17 hT hq, show (29 : Nat) = qs.length + 6 by omega, List.take_append, List.take_of_length_le (show qs.length ≤ qs.length + 6 by omega)]
  simp
 rw [e]
 simp [xcC]
end
structure XchgB (w : World) (g gl : Nat) (vn : Value) (x : Xc) (hs : Value) (eb : Bool) (qs : List Value) (dp : Option Nat) : Prop where
 b : ∃ T vt ds, Blk w g 177 (xcC T vn x.q vt gl x.k hs qs eb dp x.left x.sent x.hard x.done x.vd ds) ∧ T.length = 10 ∧ T[4]? = some (.int .i64 x.tmo) ∧ T[7]? = some (.bool x.vc) ∧ T[9]? = some (.bool x.ed) ∧ TrysO w 0 vt x.tr ∧ MsgOwn w ds x.msg
 nm : NmL w vn x.q.name
 ql : qs.length = 23
theorem Fr.stays {S : Nat → Prop} {w w' : World} (h : Fr S w w') : Stays w w' := fun v n x => h.own x (by unfold StTy; decide)
theorem Fr.lown {α : Type} {S : Nat → Prop} {w w' : World} {B : Nat} {e : TypeId} {k : Nat} {R : List Value → α → Prop} {v : Value} {l : List α} (h : Fr S w w') (ho : LOwn w B e k R v l) (he : ¬ StTy e) : LOwn w' B e k R v l := ho.stays (fun _ x => h.own x he) (fun _ _ x => x)
theorem Fr.msg {S : Nat → Prop} {w w' : World} {cs : List Value} {m : Msg} (h : Fr S w w') (hm : MsgOwn w cs m) : MsgOwn w' cs m := by
 obtain ⟨vq, va, vu, ve, h1, h2, h3, h4, h5, l⟩ := hm
 have hq : ¬ StTy 28 := by unfold StTy; decide
 have hr : ¬ StTy 119 := by unfold StTy; decide
 exact ⟨vq, va, vu, ve, h1, h2.stays (fun _ x => h.own x hq) (fun _ _ x => x.stays h.stays), h3.stays (fun _ x => h.own x hr) (fun _ _ x => x.stays h.stays), h4.stays (fun _ x => h.own x hr) (fun _ _ x => x.stays h.stays), h5.stays (fun _ x => h.own x hr) (fun _ _ x => x.stays h.stays), l⟩
theorem XchgB.lt {w : World} {g gl : Nat} {vn : Value} {x : Xc} {hs : Value} {eb : Bool} {qs : List Value} {dp : Option Nat} (h : XchgB w g gl vn x hs eb qs dp) : g < w.heap.size := by obtain ⟨T, vt, ds, hb, _⟩ := h.b; exact hb.lt
theorem XchgB.fr {S : Nat → Prop} {w w' : World} {g gl : Nat} {vn : Value} {x : Xc} {hs : Value} {eb : Bool} {qs : List Value} {dp : Option Nat} (h : XchgB w g gl vn x hs eb qs dp) (k : Fr S w w') (hg : ¬ S g) : XchgB w' g gl vn x hs eb qs dp := by
 obtain ⟨T, vt, ds, hb, h1, h2, h3, h4, h5, h6⟩ := h.b
 exact ⟨⟨T, vt, ds, k.blk hb hg, h1, h2, h3, h4, k.lown h5 (by unfold StTy; decide), k.msg h6⟩, h.nm.stays k.stays, h.ql⟩
theorem XchgB.below {w w' : World} {g gl : Nat} {vn : Value} {x : Xc} {hs : Value} {eb : Bool} {qs : List Value} {dp : Option Nat} (h : XchgB w g gl vn x hs eb qs dp) (k : Below w.heap.size w w') : XchgB w' g gl vn x hs eb qs dp := h.fr (S := fun _ => False) (Fr.below k) (fun h => h)
theorem XchgB.put {w w' : World} {g gl : Nat} {vn : Value} {x x' : Xc} {hs hs' : Value} {eb eb' : Bool} {qs qs' : List Value} {dp dp' : Option Nat} (h : XchgB w g gl vn x hs eb qs dp) (hg : w.grownBy w' (some g)) (e1 : x'.q = x.q) (e2 : x'.tr = x.tr) (e3 : x'.tmo = x.tmo) (e4 : x'.vc = x.vc) (e5 : x'.ed = x.ed) (e6 : x'.msg = x.msg) (hq : qs'.length = 23)
  (hb : ∀ T vt ds, T.length = 10 → ds.length = 14 → Blk w g 177 (xcC T vn x.q vt gl x.k hs qs eb dp x.left x.sent x.hard x.done x.vd ds) → Blk w' g 177 (xcC T vn x.q vt gl x'.k hs' qs' eb' dp' x'.left x'.sent x'.hard x'.done x'.vd ds)) : XchgB w' g gl vn x' hs' eb' qs' dp' := by
 obtain ⟨T, vt, ds, hb0, h1, h2, h3, h4, h5, h6⟩ := h.b
 have fr : Fr (fun i => i = g) w w' := Fr.grown hg hb0 (.inr (.inl rfl)) rfl
 refine ⟨⟨T, vt, ds, ?_, h1, ?_, ?_, ?_, ?_, ?_⟩, ?_, hq⟩
 ·
  rw [e1]; exact hb T vt ds h1 h6.len hb0
 ·
  rw [e3]; exact h2
 ·
  rw [e4]; exact h3
 ·
  rw [e5]; exact h4
 ·
  rw [e2]; exact fr.lown h5 (by unfold StTy; decide)
 ·
  rw [e6]; exact fr.msg h6
 ·
  rw [e1]; exact h.nm.stays fr.stays
def begunL : List Ou → Nat
 | [] => 0
 | o :: l => (if o.kind = 1 ∨ o.kind = 2 then 1 else 0) + begunL l
theorem begunL_app : ∀ (a b : List Ou), begunL (a ++ b) = begunL a + begunL b
 | [], b => by simp [begunL]
 | o :: a, b => by simp only [List.cons_append, begunL, begunL_app a b]; omega
def Xc.rest (x : Xc) : Nat := if x.done then 0 else (2 - x.lg) + 3 * (x.tr.length - x.k - 1)
def Xc.phi (x : Xc) : Nat := if x.done then 0 else x.left.toNat + x.tmo.toNat * x.rest
theorem rest_no {x : Xc} (h : x.done = false) : x.rest = (2 - x.lg) + 3 * (x.tr.length - x.k - 1) := by unfold Xc.rest; rw [h]; rfl
theorem phi_no {x : Xc} (h : x.done = false) : x.phi = x.left.toNat + x.tmo.toNat * x.rest := by unfold Xc.phi; rw [h]; rfl
theorem rest_dn {x : Xc} (h : x.done = true) : x.rest = 0 := by unfold Xc.rest; rw [h]; rfl
theorem phi_dn {x : Xc} (h : x.done = true) : x.phi = 0 := by unfold Xc.phi; rw [h]; rfl
structure EndX (x : Xc) (L : Lt) (r : XR) (t n h : Nat) : Prop where
 tr : r.1.tr = x.tr
 tmo : r.1.tmo = x.tmo
 q : r.1.q = x.q
 snt : r.1.sent = x.sent + begunL r.2.2
 rst : begunL r.2.2 + r.1.rest ≤ n
 phi : r.1.phi ≤ t
 lg : r.1.lg ≤ 2
 vd : r.1.done = true → r.1.vd ≠ 0
 us : r.2.1.us ≤ L.us + 2
 ds : r.2.1.ds = L.ds
 hd : r.1.d.heard.length ≤ h
theorem EndX.mono {x : Xc} {L : Lt} {r : XR} {t n h t' n' h' : Nat} (e : EndX x L r t n h) (ht : t ≤ t') (hn : n ≤ n') (hh : h ≤ h') : EndX x L r t' n' h' :=
 ⟨e.tr, e.tmo, e.q, e.snt, Nat.le_trans e.rst hn, Nat.le_trans e.phi ht, e.lg, e.vd, e.us, e.ds, Nat.le_trans e.hd hh⟩
theorem EndX.of {x y : Xc} {L : Lt} {r : XR} {t n h : Nat} (e : EndX x L r t n h) (h1 : x.tr = y.tr) (h2 : x.tmo = y.tmo) (h3 : x.q = y.q) (h4 : x.sent = y.sent) : EndX y L r t n h :=
 ⟨h1 ▸ e.tr, h2 ▸ e.tmo, h3 ▸ e.q, h4 ▸ e.snt, e.rst, e.phi, e.lg, e.vd, e.us, e.ds, e.hd⟩
theorem errP_leg {x : Xc} (h : x.st) (L : Lt) : errP (legY x L) = 0 := by
 obtain ⟨h1, h2⟩ := draw_lt (drawL L 64512).2 (show (0 : Int) < 65536 by decide)
 exact h.err (drawL (drawL L 64512).2 65536).1 false h1 (by omega)
theorem legX_f (x : Xc) (L : Lt) (lg : Nat) : (legX x L lg).1.done = x.done ∧ (legX x L lg).1.tr = x.tr ∧ (legX x L lg).1.k = x.k ∧ (legX x L lg).1.tmo = x.tmo ∧ (legX x L lg).1.left = x.tmo ∧ (legX x L lg).1.lg = lg ∧ (legX x L lg).1.sent = x.sent + 1 ∧ (legX x L lg).1.q = x.q ∧ (legX x L lg).2.1 = legL L := by
 unfold legX
 split
 ·
  rename_i h; subst h; exact ⟨rfl, rfl, rfl, rfl, rfl, rfl, rfl, rfl, rfl⟩
 ·
  exact ⟨rfl, rfl, rfl, rfl, rfl, rfl, rfl, rfl, rfl⟩
theorem legX_end {x : Xc} (h : x.st) (hd : x.done = false) (L : Lt) (lg : Nat) (hlg : lg ≤ 2) : EndX x L (legX x L lg) (x.tmo.toNat * (1 + (2 - lg) + 3 * (x.tr.length - x.k - 1))) (1 + (2 - lg) + 3 * (x.tr.length - x.k - 1)) x.d.heard.length := by
 have e0 := errP_leg h L
 have eN : newD (legY x L) = (⟨legY x L, putB 2 (octP (legY x L)).length ++ octP (legY x L), 0, false, [], Msg.zero⟩, [⟨2, (legY x L).sv, (legY x L).port, []⟩]) := by unfold newD; rw [if_pos e0]
 have hm : x.tmo.toNat * (1 + (2 - lg) + 3 * (x.tr.length - x.k - 1)) = x.tmo.toNat + x.tmo.toNat * ((2 - lg) + 3 * (x.tr.length - x.k - 1)) := by
  rw [Nat.add_assoc, Nat.mul_add, Nat.mul_one]
 have hb : begunL (legX x L lg).2.2 = 1 := by
  unfold legX
  split
  ·
   rw [eN]; rfl
  ·
   rfl
 have hh : (legX x L lg).1.d.heard.length ≤ x.d.heard.length := by
  unfold legX
  split
  ·
   rw [eN]; exact Nat.zero_le _
  ·
   exact Nat.le_refl _
 obtain ⟨f1, f2, f3, f4, f5, f6, f7, f8, f9⟩ := legX_f x L lg
 have hdn := f1.trans hd
 refine ⟨f2, f4, f8, by rw [f7, hb], ?_, ?_, by rw [f6]; exact hlg, fun hh => ?_, by rw [f9]; exact Nat.le_refl _, by rw [f9]; rfl, hh⟩
 ·
  rw [hb, rest_no hdn, f2, f3, f6]; omega
 ·
  rw [phi_no hdn, rest_no hdn, f2, f3, f4, f5, f6, hm]; exact Nat.le_refl _
 ·
  rw [hdn] at hh; cases hh
theorem tryX_end {x : Xc} (h : x.st) (hd : x.done = false) (hlg : x.lg ≤ 2) (L : Lt) : EndX x L (tryX x L) (x.tmo.toNat * (3 * (x.tr.length - x.k))) (3 * (x.tr.length - x.k)) x.d.heard.length := by
 unfold tryX
 split
 ·
  rename_i hk
  refine (legX_end h hd L _ (by split <;> omega)).mono (Nat.mul_le_mul_left _ ?_) ?_ (Nat.le_refl _)
  ·
   split <;> omega
  ·
   split <;> omega
 ·
  exact ⟨rfl, rfl, rfl, rfl, by rw [rest_dn rfl]; exact Nat.zero_le _, by rw [phi_dn rfl]; exact Nat.zero_le _, hlg, fun _ => by show (if x.hard then (5 : Int) else 4) ≠ 0; split <;> decide, Nat.le_add_right _ _, rfl, Nat.le_refl _⟩
theorem nextX_end {x : Xc} (h : x.st) (hd : x.done = false) (hlg : x.lg ≤ 2) (L : Lt) : EndX x L (nextX x L) (x.tmo.toNat * (3 * (x.tr.length - x.k - 1))) (3 * (x.tr.length - x.k - 1)) x.d.heard.length := by
 have := tryX_end (x := { x with k := x.k + 1 }) ⟨h.ips, h.to1, h.to2, h.trl, h.err⟩ hd hlg L
 refine EndX.of (y := x) (this.mono ?_ ?_ (Nat.le_refl _)) rfl rfl rfl rfl
 ·
  exact Nat.mul_le_mul_left _ (by show 3 * (x.tr.length - (x.k + 1)) ≤ _; omega)
 ·
  show 3 * (x.tr.length - (x.k + 1)) ≤ _; omega
theorem finalV_ne (q : Qn) (m : Msg) : finalV q m ≠ 0 := by
 unfold finalV
 split
 ·
  decide
 ·
  split
  ·
   decide
  ·
   split <;> decide
theorem verd_2 {h : Hd} {c e : Bool} (hv : verdOf h c e = 2) : c = false := by
 unfold verdOf at hv
 split at hv
 ·
  rename_i h; exact h.2
 ·
  (repeat' split at hv) <;> simp at hv
theorem verd_3 {h : Hd} {c e : Bool} (hv : verdOf h c e = 3) : e = true := by
 unfold verdOf at hv
 split at hv
 ·
  simp at hv
 ·
  split at hv
  ·
   simp at hv
  ·
   split at hv
   ·
    simp at hv
   ·
    split at hv
    ·
     rename_i h; exact h.1
    ·
     simp at hv
theorem toldX_end {x : Xc} (h : x.st) (hd : x.done = false) (hlg : x.lg ≤ 2) (L : Lt) (m : Msg) : EndX x L (toldX x L m) (x.tmo.toNat * x.rest) x.rest x.d.heard.length := by
 have hr := rest_no hd
 unfold toldX
 split
 ·
  exact ⟨rfl, rfl, rfl, rfl, by rw [rest_dn rfl]; exact Nat.zero_le _, by rw [phi_dn rfl]; exact Nat.zero_le _, hlg, fun _ => finalV_ne _ _, Nat.le_add_right _ _, rfl, Nat.le_refl _⟩
 ·
  split
  ·
   rename_i hv
   have hc := verd_2 hv
   have hl : x.lg ≠ 2 := by simpa using hc
   refine (legX_end h hd L 2 (Nat.le_refl _)).mono (Nat.mul_le_mul_left _ ?_) ?_ (Nat.le_refl _)
   all_goals omega
  ·
   split
   ·
    rename_i hv
    have hc := verd_3 hv
    have hl : x.lg = 0 := by
     unfold Xc.ednsB at hc
     simp at hc
     exact hc.1
    refine (legX_end h hd L 1 (by omega)).mono (Nat.mul_le_mul_left _ ?_) ?_ (Nat.le_refl _)
    all_goals omega
   ·
    split
    ·
     refine (EndX.of (y := x) (nextX_end (x := { x with hard := true }) ⟨h.ips, h.to1, h.to2, h.trl, h.err⟩ hd hlg L) rfl rfl rfl rfl).mono (Nat.mul_le_mul_left _ ?_) ?_ (Nat.le_refl _)
     all_goals show 3 * (x.tr.length - x.k - 1) ≤ _; omega
    ·
     refine (nextX_end h hd hlg L).mono (Nat.mul_le_mul_left _ ?_) ?_ (Nat.le_refl _)
     all_goals omega
theorem begun_hear (d : Dl) (e : Ev) : begunL (hearD d e).2 = 0 := by
 unfold hearD
 (repeat' split) <;> rfl
theorem begun_hang (d : Dl) : begunL (hangD d).2 = 0 := by
 unfold hangD
 split <;> rfl
theorem EndX.app {x : Xc} {L : Lt} {r : XR} {t n h : Nat} (e : EndX x L r t n h) {o : List Ou} (ho : begunL o = 0) : EndX x L (appX o r) t n h :=
 ⟨e.tr, e.tmo, e.q, by show r.1.sent = x.sent + begunL (o ++ r.2.2); rw [begunL_app, ho, Nat.zero_add]; exact e.snt, by show begunL (o ++ r.2.2) + r.1.rest ≤ n; rw [begunL_app, ho, Nat.zero_add]; exact e.rst, e.phi, e.lg, e.vd, e.us, e.ds, e.hd⟩
theorem EndX.same {x y : Xc} {L : Lt} {o : List Ou} {t h : Nat} (h1 : y.tr = x.tr) (h2 : y.tmo = x.tmo) (h3 : y.q = x.q) (h4 : y.sent = x.sent) (h5 : y.rest = x.rest) (h6 : y.phi ≤ t) (h7 : y.lg ≤ 2) (h8 : y.done = true → y.vd ≠ 0) (h9 : y.d.heard.length ≤ h) (ho : begunL o = 0) : EndX x L (y, L, o) t x.rest h :=
 ⟨h1, h2, h3, by show y.sent = x.sent + begunL o; omega, by show begunL o + y.rest ≤ x.rest; omega, h6, h7, h8, Nat.le_add_right _ _, rfl, h9⟩
theorem hearX_end {x : Xc} (h : x.done = false → x.st) (hl : x.done = false → 1 ≤ x.left) (hlg : x.lg ≤ 2) (hv : x.done = true → x.vd ≠ 0) (L : Lt) (e : Ev) : EndX x L (hearX x L e) (x.phi - (if e.kind = 1 then 1 else 0)) x.rest (x.d.heard.length + e.data.length) := by
 cases hd : x.done with
 | true =>
  unfold hearX
  rw [if_pos hd]
  exact EndX.same rfl rfl rfl rfl rfl (by rw [phi_dn hd]; exact Nat.zero_le _) hlg hv (Nat.le_add_right _ _) rfl
 | false =>
 have h := h hd
 have hr := rest_no hd
 have hp := phi_no hd
 have hl1 := hl hd
 have hx := hearD_heard x.d e
 have hN := nextX_end (x := { x with left := x.left - 1 }) ⟨h.ips, h.to1, h.to2, h.trl, h.err⟩ hd hlg L
 have hM : x.tmo.toNat * (3 * (x.tr.length - x.k - 1)) ≤ x.tmo.toNat * x.rest := Nat.mul_le_mul_left _ (by omega)
 unfold hearX
 rw [if_neg (by rw [hd]; decide)]
 split
 ·
  split
  ·
   rename_i hk
   split
   ·
    have hN := nextX_end (x := { x with left := x.left - 1, d := (hangD x.d).1 }) ⟨h.ips, h.to1, h.to2, h.trl, h.err⟩ hd hlg L
    refine (EndX.of (y := x) (hN.app (begun_hang x.d)) rfl rfl rfl rfl).mono ?_ ?_ ?_
    ·
     show x.tmo.toNat * (3 * (x.tr.length - x.k - 1)) ≤ _; omega
    ·
     show 3 * (x.tr.length - x.k - 1) ≤ _; omega
    ·
     show (hangD x.d).1.heard.length ≤ _
     unfold hangD; split <;> exact Nat.le_add_right _ _
   ·
    refine EndX.same rfl rfl rfl rfl ?_ ?_ hlg hv (Nat.le_add_right _ _) rfl
    ·
     exact ((rest_no (x := { x with left := x.left - 1 }) hd).trans hr.symm)
    ·
     have e := (phi_no (x := { x with left := x.left - 1 }) hd)
     have e2 : Xc.rest { x with left := x.left - 1 } = x.rest := (rest_no (x := { x with left := x.left - 1 }) hd).trans hr.symm
     rw [e, e2, hp]
     show (x.left - 1).toNat + x.tmo.toNat * x.rest ≤ _
     omega
  ·
   rename_i hk
   split
   ·
    refine (EndX.of (y := x) ((toldX_end (x := { x with d := (hearD x.d e).1 }) ⟨h.ips, h.to1, h.to2, h.trl, h.err⟩ hd hlg L _).app (begun_hear x.d e)) rfl rfl rfl rfl).mono ?_ ?_ hx
    ·
     show x.tmo.toNat * x.rest ≤ _; omega
    ·
     exact Nat.le_refl _
   ·
    split
    ·
     refine (EndX.of (y := x) ((nextX_end (x := { x with d := (hearD x.d e).1 }) ⟨h.ips, h.to1, h.to2, h.trl, h.err⟩ hd hlg L).app (begun_hear x.d e)) rfl rfl rfl rfl).mono ?_ ?_ hx
     ·
      show x.tmo.toNat * (3 * (x.tr.length - x.k - 1)) ≤ _; omega
     ·
      show 3 * (x.tr.length - x.k - 1) ≤ _; omega
    ·
     exact EndX.same rfl rfl rfl rfl rfl (by show x.phi ≤ _; omega) hlg hv hx (begun_hear x.d e)
 ·
  split
  ·
   rename_i hk
   split
   ·
    refine (EndX.of (y := x) hN rfl rfl rfl rfl).mono ?_ ?_ (Nat.le_add_right _ _)
    ·
     show x.tmo.toNat * (3 * (x.tr.length - x.k - 1)) ≤ _; omega
    ·
     show 3 * (x.tr.length - x.k - 1) ≤ _; omega
   ·
    refine EndX.same rfl rfl rfl rfl ?_ ?_ hlg hv (Nat.le_add_right _ _) rfl
    ·
     exact ((rest_no (x := { x with left := x.left - 1 }) hd).trans hr.symm)
    ·
     have e := (phi_no (x := { x with left := x.left - 1 }) hd)
     have e2 : Xc.rest { x with left := x.left - 1 } = x.rest := (rest_no (x := { x with left := x.left - 1 }) hd).trans hr.symm
     rw [e, e2, hp]
     show (x.left - 1).toNat + x.tmo.toNat * x.rest ≤ _
     omega
  ·
   rename_i hk
   split
   ·
    refine (toldX_end h hd hlg L _).mono ?_ (Nat.le_refl _) (Nat.le_add_right _ _)
    omega
   ·
    exact EndX.same rfl rfl rfl rfl rfl (by show x.phi ≤ _; omega) hlg hv (Nat.le_add_right _ _) rfl
theorem newX_end (tmo : Int) (vc ed : Bool) (q : Qn) (tr : List Adr) (L : Lt) (h : (encM (askM q 0 ed) false).2 = 0 → (startX tmo vc ed q tr).st) : EndX (startX tmo vc ed q tr) L (newX tmo vc ed q tr L) (tmo.toNat * (3 * tr.length)) (3 * tr.length) 0 := by
 unfold newX
 split
 ·
  exact ⟨rfl, rfl, rfl, rfl, by rw [rest_dn rfl]; exact Nat.zero_le _, by rw [phi_dn rfl]; exact Nat.zero_le _, Nat.zero_le _, fun _ => by show (3 : Int) ≠ 0; decide, Nat.le_add_right _ _, rfl, Nat.le_refl _⟩
 ·
  rename_i he
  exact tryX_end (h (Decidable.not_not.1 he)) rfl (Nat.zero_le _) L
theorem legX_len (x : Xc) (L : Lt) (lg : Nat) : (legX x L lg).2.2.length ≤ 1 := by
 unfold legX
 split
 ·
  exact newD_len _
 ·
  exact Nat.le_refl _
theorem tryX_len (x : Xc) (L : Lt) : (tryX x L).2.2.length ≤ 1 := by
 unfold tryX
 split
 ·
  exact legX_len _ _ _
 ·
  exact Nat.zero_le _
theorem toldX_len (x : Xc) (L : Lt) (m : Msg) : (toldX x L m).2.2.length ≤ 1 := by
 unfold toldX
 (repeat' split) <;> first | exact legX_len _ _ _ | exact tryX_len _ _ | exact Nat.zero_le _
theorem hearX_len (x : Xc) (L : Lt) (e : Ev) : (hearX x L e).2.2.length ≤ 2 := by
 have h1 := hearD_len x.d e
 have h2 := hangD_len x.d
 unfold hearX
 (repeat' split) <;> first
  | exact Nat.zero_le _
  | (show (_ ++ (nextX _ L).2.2).length ≤ 2; rw [List.length_append]; have : ∀ y, (nextX y L).2.2.length ≤ 1 := fun y => tryX_len _ _; exact Nat.add_le_add (by assumption) (this _))
  | (show (_ ++ (toldX _ L _).2.2).length ≤ 2; rw [List.length_append]; exact Nat.add_le_add h1 (toldX_len _ _ _))
  | exact Nat.le_succ_of_le h1
  | exact Nat.le_succ_of_le (tryX_len _ _)
  | exact Nat.le_succ_of_le (toldX_len _ _ _)
end Go.Proofs.YthnbcmlnpdabhaaGreat

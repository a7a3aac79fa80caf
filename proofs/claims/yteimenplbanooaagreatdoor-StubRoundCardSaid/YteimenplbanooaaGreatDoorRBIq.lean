/-
  Layer 32 (pair), plain: one question or two, put side by side or one behind the other.
-/
import Derived.Test.YteimenplbanooaaGreatDoorRBHq
namespace Go.Proofs.YteimenplbanooaaGreatDoor
open _root_.Go.Proofs.Tryz
open Go.RowKit
set_option linter.unusedVariables false
set_option linter.unusedSimpArgs false
def FamR (r : RR) : Prop := r.wf ∧ (r.ty = 1 → r.cl = 1 → r.ad.fam = 4 ∧ r.ad.zone = 0) ∧ (r.ty = 28 → r.cl = 1 → r.ad.fam = 6 ∧ r.ad.zone = 0)
def FamM (m : Msg) : Prop := ∀ r ∈ m.an, FamR r
theorem FamM.zero : FamM Msg.zero := fun r hr => by cases hr
theorem newD_fam (y : Qy) : FamM (newD y).1.msg := by unfold newD; split <;> exact FamM.zero
def FamX (x : Xc) : Prop := FamM x.msg ∧ FamM x.d.msg
theorem legX_fam {x : Xc} (h : FamX x) (L : Lt) (lg : Nat) : FamX (legX x L lg).1 := by
 unfold legX
 split
 ·
  exact ⟨h.1, newD_fam _⟩
 ·
  exact h
theorem tryX_fam {x : Xc} (h : FamX x) (L : Lt) : FamX (tryX x L).1 := by
 unfold tryX
 split
 ·
  exact legX_fam h _ _
 ·
  exact ⟨FamM.zero, h.2⟩
theorem newX_fam (tmo : Int) (vc ed : Bool) (q : Qn) (tr : List Adr) (L : Lt) : FamX (newX tmo vc ed q tr L).1 := by
 have h0 : FamX (startX tmo vc ed q tr) := ⟨FamM.zero, FamM.zero⟩
 unfold newX
 split
 ·
  exact h0
 ·
  exact tryX_fam h0 L
structure Pr where
 r : Rs
 nm : List (List UInt8)
 tys : List Int
 turn : Int
 bg : List Xc
abbrev PR := Pr × Lt × List Ou
def qnP (p : Pr) (k : Nat) : Qn := ⟨p.nm, p.tys.getD k 0, 1⟩
def exP (p : Pr) (L : Lt) : XR := newX (heldR p.r).tmo (heldR p.r).vc (heldR p.r).ed (qnP p p.bg.length) (triesR p.r (IntKind.i64.wrap (p.turn + p.bg.length))) L
def waitP (p : Pr) : Bool := p.r.si && (match p.bg.getLast? with
 | none => false
 | some x => !x.done)
def oneP (p : Pr) (L : Lt) : Pr := { p with bg := p.bg ++ [(exP p L).1] }
def beginP : Nat → Pr → Lt → List Ou → PR
 | 0, p, L, o => (p, L, o)
 | f + 1, p, L, o => if p.bg.length < p.tys.length ∧ waitP p = false then beginP f (oneP p L) (exP p L).2.1 (o ++ (exP p L).2.2) else (p, L, o)
def startP (r : Rs) (nm : List (List UInt8)) (tys : List Int) (turn : Int) : Pr := ⟨r, nm, tys, turn, []⟩
def newP (r : Rs) (nm : List (List UInt8)) (tys : List Int) (turn : Int) (L : Lt) : PR := beginP 3 (startP (heldR r) nm tys turn) L []
def doneP (p : Pr) : Bool := p.bg.all (·.done) && decide (p.bg.length = p.tys.length)
def sentP (p : Pr) : Nat := (p.bg.map (·.sent)).sum
def phiP (p : Pr) : Nat := (p.bg.map Xc.phi).sum + ticksR p.r * (p.tys.length - p.bg.length)
structure XP (p : Pr) (i : Nat) (x : Xc) (H : Nat) : Prop where
 inv : ∃ t, InvX (triesR p.r 0).length (ticksR p.r) x t
 vd : VdX x
 q : x.q = qnP p i
 fm : FamX x
 hd : x.d.heard.length ≤ H
structure PI (p : Pr) (L : Lt) (tk k H : Nat) : Prop where
 tl : p.tys.length ≤ 2
 bl : p.bg.length ≤ p.tys.length
 ea : ∀ i x, p.bg[i]? = some x → XP p i x H
 ph : phiP p ≤ ticksR p.r * p.tys.length - tk
 us : L.us ≤ 4 * k + 2 * p.bg.length
 ds : L.ds.length ≤ 17592186044416
theorem XP.sent {p : Pr} {i : Nat} {x : Xc} {H : Nat} (h : XP p i x H) : x.sent ≤ mostR p.r := by
 obtain ⟨t, h1⟩ := h.inv
 have := h1.rst
 unfold mostR
 omega
theorem XP.s45 {p : Pr} {i : Nat} {x : Xc} {H : Nat} (h : XP p i x H) : x.sent ≤ 45 := Nat.le_trans h.sent (ticks_le p.r).2
theorem PI.one {p : Pr} {L : Lt} {tk k H : Nat} (h : PI p L tk k H) (hl : p.bg.length < p.tys.length) (ok : (exP p L).1.ok) : PI (oneP p L) (exP p L).2.1 tk k H := by
 have ht : (triesR p.r (IntKind.i64.wrap (p.turn + p.bg.length))).length = (triesR p.r 0).length := by rw [tries_len, tries_len]
 have E : EndX _ L (exP p L) _ _ _ := newX_end (heldR p.r).tmo (heldR p.r).vc (heldR p.r).ed (qnP p p.bg.length) (triesR p.r (IntKind.i64.wrap (p.turn + p.bg.length))) L (newX_st p.r (qnP p p.bg.length) _ L ok)
 have h3 := E.snt
 have h4 := E.rst
 have h5 := E.phi
 have h7 := E.hd
 have h8 := E.us
 have h0 : (startX (heldR p.r).tmo (heldR p.r).vc (heldR p.r).ed (qnP p p.bg.length) (triesR p.r (IntKind.i64.wrap (p.turn + p.bg.length)))).sent = 0 := rfl
 have hT : ticksR p.r = (heldR p.r).tmo.toNat * (3 * (triesR p.r 0).length) := rfl
 rw [ht] at h4 h5
 rw [← hT] at h5
 have hm : ticksR p.r * (p.tys.length - p.bg.length) = ticksR p.r + ticksR p.r * (p.tys.length - (p.bg.length + 1)) := by
  rw [show p.tys.length - p.bg.length = (p.tys.length - (p.bg.length + 1)) + 1 by omega, Nat.mul_add, Nat.mul_one, Nat.add_comm]
 have hph := h.ph
 have hus := h.us
 unfold phiP at hph
 have hbl : (oneP p L).bg.length = p.bg.length + 1 := by simp [oneP]
 refine ⟨h.tl, by rw [hbl]; exact hl, fun i x c => ?_, ?_, by rw [hbl]; omega, by rw [E.ds]; exact h.ds⟩
 ·
  have c' : (p.bg ++ [(exP p L).1])[i]? = some x := c
  by_cases hi : i < p.bg.length
  ·
   rw [List.getElem?_append_left hi] at c'
   obtain ⟨a1, a2, a3, a4, a5⟩ := h.ea i x c'
   exact ⟨a1, a2, a3, a4, a5⟩
  ·
   rw [List.getElem?_append_right (by omega)] at c'
   have hi0 : i - p.bg.length = 0 := by
    by_cases c0 : i - p.bg.length = 0
    ·
     exact c0
    ·
     rw [List.getElem?_eq_none (by simp; omega)] at c'; cases c'
   rw [hi0] at c'
   injection c' with c'
   subst c'
   have hie : i = p.bg.length := by omega
   subst hie
   exact ⟨⟨0, ⟨by rw [E.tr]; exact ht, by show _ ≤ 3 * (triesR p.r 0).length; omega, by show _ ≤ ticksR p.r - 0; omega, E.lg, E.vd⟩⟩, newX_vd _ _ _ _ _ _, E.q, newX_fam _ _ _ _ _ _, by omega⟩
 ·
  unfold phiP
  rw [hbl]
  show ((p.bg ++ [(exP p L).1]).map Xc.phi).sum + ticksR p.r * (p.tys.length - (p.bg.length + 1)) ≤ ticksR p.r * p.tys.length - tk
  rw [List.map_append, List.sum_append]
  simp only [List.map_cons, List.map_nil, List.sum_cons, List.sum_nil]
  omega
theorem begin_no {f : Nat} {p : Pr} (L : Lt) (o : List Ou) (h : ¬ (p.bg.length < p.tys.length ∧ waitP p = false)) : beginP f p L o = (p, L, o) := by
 cases f with
 | zero => rfl
 | succ f => unfold beginP; rw [if_neg h]
theorem begin_yes {f : Nat} {p : Pr} (L : Lt) (o : List Ou) (h : p.bg.length < p.tys.length) (hw : waitP p = false) : beginP (f + 1) p L o = beginP f (oneP p L) (exP p L).2.1 (o ++ (exP p L).2.2) := by
 conv => lhs; unfold beginP
 rw [if_pos ⟨h, hw⟩]
theorem PI.sent {p : Pr} {L : Lt} {tk k H : Nat} (h : PI p L tk k H) : sentP p ≤ p.bg.length * mostR p.r := by
 unfold sentP
 have key : ∀ (l : List Xc) (m : Nat), (∀ x ∈ l, x.sent ≤ m) → (l.map (·.sent)).sum ≤ l.length * m := by
  intro l m
  induction l with
  | nil => intro _; simp
  | cons x l ih =>
   intro hx
   have h1 := hx x (by simp)
   have h2 := ih (fun y hy => hx y (by simp [hy]))
   simp only [List.map_cons, List.sum_cons, List.length_cons, Nat.succ_mul]
   omega
 refine key _ _ (fun x hx => ?_)
 obtain ⟨i, hi⟩ := List.getElem?_of_mem hx
 exact (h.ea i x hi).sent
set_option maxRecDepth 100000
def prC (T : List Value) (vq : Value) (turn : Int) (gl : Nat) (vb : Value) : List Value := T ++ [vq, .int .i64 turn, .pointer (some ⟨gl, 0, none⟩), vb]
theorem prC_len {T : List Value} (h : T.length = 10) (vq : Value) (turn : Int) (gl : Nat) (vb : Value) : (prC T vq turn gl vb).length = 14 := by
 unfold prC; rw [List.length_append, h]; rfl
def PrK (w : World) (g : Nat) (T : List Value) (vq : Value) (turn : Int) (gl : Nat) (vb : Value) : Prop := Blk w g 352 (prC T vq turn gl vb) ∧ T.length = 10
section
variable {w w' : World} {g : Nat} {T : List Value} {vq vb : Value} {turn : Int} {gl : Nat}
theorem PrK.c (h : PrK w g T vq turn gl vb) {u : Value} (i : Nat) (hu : [vq, .int .i64 turn, .pointer (some ⟨gl, 0, none⟩), vb][i]? = some u) : w.cell? ⟨g, 10 + i, none⟩ = some u := h.1.cell_ (10 + i) ((t10_get h.2 _ i).trans hu)
theorem PrK.below (h : PrK w g T vq turn gl vb) (k : Below w.heap.size w w') : PrK w' g T vq turn gl vb := ⟨h.1.below k h.1.lt, h.2⟩
end
def QI (w : World) (cs : List Value) (q : Qn) : Prop := ∃ v, cs = qC v q ∧ NmL w v q.name
theorem QI.len {w : World} {cs : List Value} {q : Qn} (h : QI w cs q) : cs.length = 3 := by obtain ⟨v, rfl, _⟩ := h; rfl
def qsP (p : Pr) : List Qn := p.tys.map (fun t => ⟨p.nm, t, 1⟩)
theorem qsP_len (p : Pr) : (qsP p).length = p.tys.length := by simp [qsP]
theorem qsP_get (p : Pr) (k : Nat) (h : k < (qsP p).length) : (qsP p)[k] = qnP p k := by
 have h' : k < p.tys.length := by rwa [qsP_len] at h
 unfold qnP
 rw [List.getD_eq_getElem?_getD, List.getElem?_eq_getElem h']
 simp [qsP]
abbrev QsC (w : World) (v : Value) (l : List Qn) : Prop := LOwn w 0 218 3 (QI w) v l
theorem QsC.fr {S : Nat → Prop} {w w' : World} {v : Value} {l : List Qn} (h : QsC w v l) (k : Fr S w w') : QsC w' v l :=
 h.stays (fun _ x => k.own x (by unfold StTy; decide)) (fun _ _ ⟨v, e, n⟩ => ⟨v, e, n.stays k.stays⟩)
def PtI (cs : List Value) (g : Nat) : Prop := cs = [.pointer (some ⟨g, 0, none⟩)]
abbrev PtL (w : World) (b : Nat) (v : Value) (l : List Nat) : Prop := LOwn w b 216 1 PtI v l
structure XsAt (w : World) (b gl : Nat) (X : List (Nat × Option Nat)) (l : List Xc) : Prop where
 ln : X.length = l.length
 at_ : ∀ (i g : Nat) (D : Option Nat) (x : Xc), X[i]? = some (g, D) → l[i]? = some x → XchgAt w g gl D x ∧ b ≤ g ∧ ∀ d, D = some d → b ≤ d
 ap : ∀ (i j g : Nat) (D : Option Nat) (g' : Nat) (D' : Option Nat), i ≠ j → X[i]? = some (g, D) → X[j]? = some (g', D') → g ≠ g' ∧ ∀ d, D = some d → D' ≠ some d
theorem XsAt.nil (w : World) (b gl : Nat) : XsAt w b gl [] [] := ⟨rfl, fun i g D x h => by simp at h, fun i j g D g' D' _ h => by simp at h⟩
theorem XsAt.x {w : World} {b gl : Nat} {X : List (Nat × Option Nat)} {l : List Xc} (h : XsAt w b gl X l) (i : Nat) (hi : i < l.length) : ∃ g D, X[i]? = some (g, D) ∧ XchgAt w g gl D l[i] ∧ b ≤ g ∧ ∀ d, D = some d → b ≤ d := by
 have hX : i < X.length := by rw [h.ln]; exact hi
 refine ⟨X[i].1, X[i].2, List.getElem?_eq_getElem hX, h.at_ i _ _ _ (List.getElem?_eq_getElem hX) (List.getElem?_eq_getElem hi)⟩
theorem XsAt.frT {w w' : World} {b b' gl : Nat} {X : List (Nat × Option Nat)} {l : List Xc} {p : TypeId → Prop} (h : XsAt w b gl X l) (k : Fr (TyS w p b') w w') (h1 : ¬ p 331) (h2 : ¬ p 437) : XsAt w' b gl X l :=
 ⟨h.ln, fun i g D x c c' => by obtain ⟨a1, a2⟩ := h.at_ i g D x c c'; exact ⟨a1.frT k h1 h2, a2⟩, h.ap⟩
theorem XsAt.below {w w' : World} {b gl : Nat} {X : List (Nat × Option Nat)} {l : List Xc} (h : XsAt w b gl X l) (k : Below w.heap.size w w') : XsAt w' b gl X l :=
 ⟨h.ln, fun i g D x c c' => by obtain ⟨a1, a2⟩ := h.at_ i g D x c c'; exact ⟨a1.below k, a2⟩, h.ap⟩
theorem XsAt.app {w w' : World} {b gl : Nat} {X : List (Nat × Option Nat)} {l : List Xc} (h : XsAt w b gl X l) {g : Nat} {D : Option Nat} {x : Xc} {L : Lt} (hl : LotAt w gl L) (k : Fr (fun i => i = gl) w w') (hat : XchgAt w' g gl D x) (hg : w.heap.size ≤ g) (hD : ∀ d, D = some d → w.heap.size ≤ d) (hbw : b ≤ w.heap.size) : XsAt w' b gl (X ++ [(g, D)]) (l ++ [x]) := by
 obtain ⟨BL, hBL⟩ := lot_blk hl
 have old : ∀ (j g1 : Nat) (D1 : Option Nat) (y : Xc), X[j]? = some (g1, D1) → l[j]? = some y → XchgAt w' g1 gl D1 y ∧ g1 < w.heap.size ∧ ∀ d, D1 = some d → d < w.heap.size := by
  intro j g1 D1 y c c'
  obtain ⟨a1, a2, a3⟩ := h.at_ j g1 D1 y c c'
  obtain ⟨B1, hB1⟩ := a1.blk
  refine ⟨a1.fr k (fun q => blk_ne hB1 hBL (by decide) q) (fun d LD q hLD s => blk_ne hLD hBL (by decide) s), hB1.lt, fun d hd => ?_⟩
  obtain ⟨LD, hLD⟩ := a1.dl d hd
  exact hLD.lt
 have last : ∀ (j g1 : Nat) (D1 : Option Nat), ¬ j < X.length → (X ++ [(g, D)])[j]? = some (g1, D1) → j = X.length ∧ g1 = g ∧ D1 = D := by
  intro j g1 D1 hj c
  have hj2 := (List.getElem?_eq_some_iff.1 c).1
  rw [List.length_append, List.length_singleton] at hj2
  have e : j = X.length := by omega
  subst e
  rw [List.getElem?_append_right (Nat.le_refl _), Nat.sub_self] at c
  injection c with c
  injection c with c1 c2
  exact ⟨rfl, c1.symm, c2.symm⟩
 refine ⟨by simp [h.ln], fun j g1 D1 y c c' => ?_, fun j1 j2 g1 D1 g2 D2 hne c c' => ?_⟩
 ·
  by_cases e : j < X.length
  ·
   rw [List.getElem?_append_left e] at c
   rw [List.getElem?_append_left (by rw [← h.ln]; exact e)] at c'
   obtain ⟨_, a2, a3⟩ := h.at_ j g1 D1 y c c'
   exact ⟨(old j g1 D1 y c c').1, a2, a3⟩
  ·
   obtain ⟨e1, rfl, rfl⟩ := last j g1 D1 e c
   rw [List.getElem?_append_right (by rw [← h.ln]; omega), show j - l.length = 0 by rw [← h.ln]; omega] at c'
   injection c' with c'
   subst c'
   exact ⟨hat, by omega, fun d hd => by have := hD d hd; omega⟩
 ·
  have key : ∀ (j g1 : Nat) (D1 : Option Nat), j < X.length → (X ++ [(g, D)])[j]? = some (g1, D1) → g1 < w.heap.size ∧ ∀ d, D1 = some d → d < w.heap.size := by
   intro j g1 D1 e c
   rw [List.getElem?_append_left e] at c
   obtain ⟨_, k1, k2⟩ := old j g1 D1 _ c (List.getElem?_eq_getElem (by rw [← h.ln]; exact e))
   exact ⟨k1, k2⟩
  by_cases e1 : j1 < X.length
  ·
   by_cases e2 : j2 < X.length
   ·
    rw [List.getElem?_append_left e1] at c
    rw [List.getElem?_append_left e2] at c'
    exact h.ap j1 j2 g1 D1 g2 D2 hne c c'
   ·
    obtain ⟨_, rfl, rfl⟩ := last j2 g2 D2 e2 c'
    obtain ⟨k1, k2⟩ := key j1 g1 D1 e1 c
    exact ⟨by omega, fun d hd q => by have := k2 d hd; have := hD d q; omega⟩
  ·
   obtain ⟨x1, rfl, rfl⟩ := last j1 g1 D1 e1 c
   by_cases e2 : j2 < X.length
   ·
    obtain ⟨k1, k2⟩ := key j2 g2 D2 e2 c'
    exact ⟨by omega, fun d hd q => by have := k2 d q; have := hD d hd; omega⟩
   ·
    obtain ⟨x2, _, _⟩ := last j2 g2 D2 e2 c'
    omega
structure PrAt (w0 w : World) (b g gl : Nat) (X : List (Nat × Option Nat)) (p : Pr) : Prop where
 c : ∃ T vq vb, PrK w g T vq p.turn gl vb ∧ RsO w0 w T p.r ∧ QsC w vq (qsP p) ∧ PtL w b vb (X.map (·.1))
 xs : XsAt w b gl X p.bg
 ba : Below w0.heap.size w0 w
 wb : w0.heap.size ≤ b
 bg : b ≤ g
 bl : b ≤ gl
 rs : p.r.sv.length ≤ 100 ∧ p.r.se.length ≤ 100 ∧ p.r.so.length ≤ 100
def PrTy (t : TypeId) : Prop := t = 352 ∨ t = 216 ∨ t = 331 ∨ t = 135 ∨ t = 437
theorem x_pr : ∀ t, XTy t → PrTy t := by
 intro t h
 rcases h with rfl | rfl | rfl <;> (unfold PrTy; decide)
theorem PrAt.frT {w0 w w' : World} {b g gl b' : Nat} {X : List (Nat × Option Nat)} {p : Pr} {q : TypeId → Prop} (h : PrAt w0 w b g gl X p) (k : Fr (TyS w q b') w w') (hb : b ≤ b') (hlt : b ≤ w.heap.size) (h1 : ¬ q 331) (h2 : ¬ q 437) (h3 : ¬ q 352) (h4 : ¬ q 216) : PrAt w0 w' b g gl X p := by
 obtain ⟨⟨T, vq, vb, a1, a2, a3, a4⟩, h5, h6, h7, h8, h9, h10⟩ := h
 exact ⟨⟨T, vq, vb, ⟨k.blk a1.1 (TyS.not a1.1 h3), a1.2⟩, a2.fr k, a3.fr k, a4.stays (fun _ x => k.ownT x h4) (fun _ _ x => x)⟩, h5.frT k h1 h2, k.toBelowT h6 h6.size (by omega), h7, h8, h9, h10⟩
theorem PrAt.below {w0 w w' : World} {b g gl : Nat} {X : List (Nat × Option Nat)} {p : Pr} (h : PrAt w0 w b g gl X p) (hlt : b ≤ w.heap.size) (k : Below w.heap.size w w') : PrAt w0 w' b g gl X p :=
 h.frT (q := fun _ => False) (b' := b) (Fr.below k) (Nat.le_refl _) hlt id id id id
def PrRet (w0 : World) (b g gl : Nat) (R : PR) (w : World) (e : Ending) (w' : World) : Prop := ∃ v X', e = .returned v ∧ OusN w.heap.size w' v R.2.2 ∧ PrAt w0 w' b g gl X' R.1 ∧ LotAt w' gl R.2.1 ∧ Fr (TyS w PrTy b) w w'
def goP (p : Pr) : Prop := p.bg.length < p.tys.length → waitP p = true
def PrRetI (w0 : World) (b g gl : Nat) (R : PR) (tk k H : Nat) (w : World) (e : Ending) (w' : World) : Prop := PrRet w0 b g gl R w e w' ∧ PI R.1 R.2.1 tk k H ∧ goP R.1
theorem xs_row {w : World} {b gl : Nat} {A : Option Addr} {c : Nat} {X : List (Nat × Option Nat)} {l : List Xc} (h : PtL w b (.slice A (X.map (·.1)).length c) (X.map (·.1))) (h5 : XsAt w b gl X l) (i : Nat) (hi : i < l.length) : ∃ gs off gx D, A = some ⟨gs, off, none⟩ ∧ gs < w.heap.size ∧ w.cell? ⟨gs, off + i, none⟩ = some (.pointer (some ⟨gx, 0, none⟩)) ∧ X[i]? = some (gx, D) ∧ XchgAt w gx gl D l[i] ∧ b ≤ gx ∧ ∀ d, D = some d → b ≤ d := by
 obtain ⟨gx, D, k1, k2, k3, k4⟩ := h5.x i hi
 have hX : i < (X.map (·.1)).length := by rw [List.length_map, h5.ln]; exact hi
 obtain ⟨gs, h1, h2, h3⟩ := LOwn.at_ (R := PtI) (k := 1) (fun cs x h => by unfold PtI at h; rw [h]; rfl) h (by omega)
 obtain ⟨cx, hcx, hp⟩ := h3 i hX
 unfold PtI at hp
 subst hp
 have h4 := hcx 0 _ rfl
 have e : (X.map (·.1))[i] = gx := by
  have : X[i]? = some (gx, D) := k1
  obtain ⟨_, e⟩ := List.getElem?_eq_some_iff.1 this
  rw [List.getElem_map, e]
 rw [e] at h4
 exact ⟨gs, 0, gx, D, h1, h2, by simpa using h4, k1, k2, k3, k4⟩
theorem done_no {p : Pr} (i : Nat) (hi : i < p.bg.length) (hd : p.bg[i].done = false) : doneP p = false := by
 unfold doneP
 have : p.bg.all (·.done) = false := by
  rw [List.all_eq_false]
  exact ⟨_, List.getElem_mem hi, by rw [hd]; decide⟩
 rw [this]; rfl
theorem done_all {p : Pr} (h : ∀ i (hi : i < p.bg.length), p.bg[i].done = true) : doneP p = decide (p.bg.length = p.tys.length) := by
 unfold doneP
 have : p.bg.all (·.done) = true := by
  rw [List.all_eq_true]
  intro x hx
  obtain ⟨i, hi, rfl⟩ := List.mem_iff_getElem.1 hx
  exact h i hi
 rw [this]; rfl
section
variable {w0 w : World} {b g gl : Nat} {X : List (Nat × Option Nat)} {p : Pr}
set_option maxHeartbeats 1000000 in
theorem pdone_any (h : PrAt w0 w b g gl X p) (hl : p.bg.length ≤ 2) : Calls prog 203 #[.pointer (some ⟨g, 0, none⟩)] w (RetB (.bool (doneP p)) w) := by
 obtain ⟨⟨T, vq, vb, a1, a2, a3, a4⟩, h5, h6, h7, h8, h9, h10⟩ := h
 obtain ⟨Ab, cb, hvb⟩ := a4.form
 obtain ⟨Aq, cq, hvq⟩ := a3.form
 subst hvb hvq
 have ROW := Hh (fun i hi => xs_row a4 h5 i hi)
 have d13 : w.cell? ⟨g, 13, none⟩ = some (.slice Ab (X.map (·.1)).length cb) := a1.c 3 rfl
 have d10 : w.cell? ⟨g, 10, none⟩ = some (.slice Aq (qsP p).length cq) := a1.c 0 rfl
 have hXl : (X.map (·.1)).length = p.bg.length := by rw [List.length_map, h5.ln]
 obtain ⟨n, hn⟩ : ∃ n, Hid (p.bg.length = n) := ⟨_, Hh rfl⟩
 obtain ⟨m, hm⟩ : ∃ m, Hid (p.tys.length = m) := ⟨_, Hh rfl⟩
 rw [hXl, hn.out] at d13
 rw [hn.out] at hl
 rw [qsP_len, hm.out] at d10
 obtain ⟨R, hR⟩ : ∃ R, Hid (doneP p = R) := ⟨_, Hh rfl⟩
 rw [hR.out]
 have DF := Hh (fun i hi hd => (done_no (p := p) i hi hd).symm.trans hR.out)
 have DA := Hh (fun h => (done_all (p := p) h).symm.trans hR.out)
 clear a1 a2 a3 a4 h5 h6 h7 h8 h9 h10 hXl hR
 go_enter func203, ntmps203
 go_wp2_with fail
 go_loopw [12] (fun iv wr => ∃ k : Nat, k ≤ n ∧ iv = .int .i64 k ∧ Hid (∀ i (hi : i < p.bg.length), i < k → p.bg[i].done = true) ∧ wr = w) (fun iv _ => n - (intOf iv).toNat)
 case atStart => exact ⟨0, Nat.zero_le _, rfl, Hh (fun i hi c => absurd c (by omega)), rfl⟩
 obtain ⟨k, hk, rfl, HS, rfl⟩ := hrel
 by_cases hlt : k < n
 case pos =>
  have hlt' : (k : Int) < n := by omega
  have hlp : k < p.bg.length := by rw [hn.out]; exact hlt
  obtain ⟨gs, off, gx, D, e1, e2, e3, e4, e5, e6, e7⟩ := ROW.out k hlp
  have DN := Hh (xdone_any e5)
  have DF1 := Hh (fun hd => DF.out k hlp hd)
  have HY : Hid (p.bg[k].done = true → ∀ i (hi : i < p.bg.length), i < k + 1 → p.bg[i].done = true) := Hh (fun h i hi c => by
   by_cases e : i = k
   ·
    subst e; exact h
   ·
    exact HS.out i hi (by omega))
  subst e1
  obtain ⟨x, hx⟩ : ∃ x, p.bg[k] = x := ⟨_, rfl⟩
  rw [hx] at DN DF1 HY
  clear hx e4 e5 e6 e7 HS hlp
  cases hd : x.done with
  | false =>
   rw [hd] at DN
   have hRf := Hh (DF1.out hd)
   clear HY hd DF1
   go_wp2_with fail
   refine DN.out.mono ?_
   rintro _ w2 ⟨rfl, rfl⟩
   go_wp2_with fail
   go_ret
   rw [← hRf.out]
   exact RetB.mk rfl (Below.refl _ _)
  | true =>
   rw [hd] at DN
   have HS2 := Hh (HY.out hd)
   clear HY hd DF1
   go_wp2_with fail
   refine DN.out.mono ?_
   rintro _ w2 ⟨rfl, rfl⟩
   clear DN
   go_wp2_with fail
   go_roundw
   case rel => exact ⟨k + 1, by omega, by go_num, HS2, trivial⟩
   case measure => simp [intOf]; omega
 have hlt' : ¬ (k : Int) < n := by omega
 have hRt : decide (n = m) = R := by
  rw [← hn.out, ← hm.out]
  exact DA.out (fun i hi => HS.out i hi (by rw [hn.out] at hi; omega))
 clear HS DA DF ROW
 by_cases hnm : n = m
 ·
  subst hnm
  have hbe' : ((n : Int) == (n : Int)) = true := by simp
  subst hRt
  go_wp2_with fail
  go_quiet (fail)
  have HW : Below wr.heap.size wr (wr.drewN nq) := below_drewN (Below.refl _ _) _
  go_wp2_with fail
  go_ret
  exact RetB.mk (by simp) HW
 ·
  have hbe' : ((n : Int) == (m : Int)) = false := by simp; omega
  rw [decide_eq_false hnm] at hRt
  subst hRt
  go_wp2_with fail
  go_quiet (fail)
  have HW : Below wr.heap.size wr (wr.drewN nq) := below_drewN (Below.refl _ _) _
  go_wp2_with fail
  go_ret
  exact RetB.mk rfl HW
set_option maxHeartbeats 1000000 in
theorem psent_any (h : PrAt w0 w b g gl X p) (hs : ∀ x ∈ p.bg, x.sent ≤ 1000000) (hl : p.bg.length ≤ 2) : Calls prog 242 #[.pointer (some ⟨g, 0, none⟩)] w (Ret (.int .i64 (sentP p)) w) := by
 obtain ⟨⟨T, vq, vb, a1, a2, a3, a4⟩, h5, h6, h7, h8, h9, h10⟩ := h
 obtain ⟨Ab, cb, hvb⟩ := a4.form
 subst hvb
 have ROW := Hh (fun i hi => xs_row a4 h5 i hi)
 have d13 : w.cell? ⟨g, 13, none⟩ = some (.slice Ab (X.map (·.1)).length cb) := a1.c 3 rfl
 have hXl : (X.map (·.1)).length = p.bg.length := by rw [List.length_map, h5.ln]
 obtain ⟨n, hn⟩ : ∃ n, Hid (p.bg.length = n) := ⟨_, Hh rfl⟩
 rw [hXl, hn.out] at d13
 rw [hn.out] at hl
 have HSN := Hh hs
 have hR : Hid (((p.bg.take n).map (·.sent)).sum = sentP p) := Hh (by rw [← hn.out, List.take_length]; rfl)
 clear a1 a2 a3 a4 h5 h6 h7 h8 h9 h10 hXl hs
 go_enter func242, ntmps242
 go_wp2_with fail
 go_loopw [3, 13] (fun nv iv wr => ∃ k s : Nat, k ≤ n ∧ iv = .int .i64 k ∧ nv = .int .i64 s ∧ Hid (((p.bg.take k).map (·.sent)).sum = s) ∧ s ≤ 1000000 * k ∧ wr = w) (fun _ iv _ => n - (intOf iv).toNat)
 case atStart => exact ⟨0, 0, Nat.zero_le _, rfl, rfl, Hh rfl, Nat.zero_le _, rfl⟩
 obtain ⟨k, s, hk, rfl, rfl, HS, hsb, rfl⟩ := hrel
 by_cases hlt : k < n
 case pos =>
  have hlt' : (k : Int) < n := by omega
  have hlp : k < p.bg.length := by rw [hn.out]; exact hlt
  obtain ⟨gs, off, gx, D, e1, e2, e3, e4, e5, e6, e7⟩ := ROW.out k hlp
  have SN := Hh (xsent_any e5)
  have h45 := HSN.out _ (List.getElem_mem hlp)
  have HY : Hid (((p.bg.take (k + 1)).map (·.sent)).sum = s + p.bg[k].sent) := Hh (by
   rw [List.take_succ_eq_append_getElem hlp, List.map_append, List.sum_append, HS.out]; simp)
  subst e1
  generalize p.bg[k].sent = sk at *
  clear e4 e5 e6 e7 HS hlp
  go_wp2_with fail
  refine SN.out.mono ?_
  rintro _ w2 ⟨rfl, rfl⟩
  clear SN
  go_wp2_with fail
  go_roundw
  case rel => exact ⟨k + 1, s + sk, by omega, by go_num, by go_num, HY, by omega, trivial⟩
  case measure => simp [intOf]; omega
 have hlt' : ¬ (k : Int) < n := by omega
 obtain rfl : k = n := by omega
 have hR' := hR.out
 rw [HS.out] at hR'
 clear HS ROW hR HSN
 go_wp2_with fail
 go_ret
 rw [← hR']
 exact Ret.mk rfl rfl
end
def lenAt (w : World) (g i : Nat) : Nat := match w.cell? ⟨g, i, none⟩ with
 | some (.slice _ n _) => n
 | _ => 0
theorem lenAt_eq {w : World} {g i n c : Nat} {A : Option Addr} (h : w.cell? ⟨g, i, none⟩ = some (.slice A n c)) : lenAt w g i = n := by
 unfold lenAt
 rw [h]
theorem xpInfo3 : (prog.info? 216).map (fun i => (i.zero, i.size, i.bytes)) = some (some (.pointer none), 1, 8) := by kernel_rfl
theorem xsI1 : (prog.info? 350).map (·.size) = some 1 := by kernel_rfl
theorem exP_len (p : Pr) (L : Lt) : (exP p L).2.2.length ≤ 1 := newX_len ..
theorem prC_set {T : List Value} (hT : T.length = 10) (vq : Value) (turn : Int) (gl : Nat) (vb v : Value) : (prC T vq turn gl vb).set 13 v = prC T vq turn gl v := by
 unfold prC
 rw [show (13 : Nat) = 10 + 3 from rfl, t10_set hT]
 rfl
theorem range_fr {S : Nat → Prop} {w w' : World} {g o : Nat} {t : TypeId} {L cs : List Value} (h : Fr S w w') (hb : Blk w g t L) (hg : ¬ S g) (hr : w.rangeAt g o cs) : w'.rangeAt g o cs := by
 have e : w'.heap[g]? = w.heap[g]? := by
  rcases h.block g hb.lt with e | e
  ·
   exact e
  ·
   exact absurd e.1 hg
 intro j v hv
 exact (World.cell?_of_block (a := ⟨g, o + j, none⟩) e).trans (hr j v hv)
theorem last_one {α : Type} {l : List α} {k : Nat} (h : l.length = k + 1) : l.getLast? = some (l[k]'(by omega)) := by
 have e : l.length - 1 = k := by omega
 rw [List.getLast?_eq_getElem?, e]
 exact List.getElem?_eq_getElem (by omega)
set_option maxHeartbeats 4000000 in
theorem pbegin_any (w0 : World) (b g gl : Nat) (X : List (Nat × Option Nat)) (p : Pr) (L : Lt) (tk k H : Nat) (w : World) (h : PrAt w0 w b g gl X p) (hl : LotAt w gl L) (hI : PI p L tk k H) (hk : k ≤ 100000000) (hbw : b ≤ w.heap.size) (hnm : p.nm.length ≤ 100000) :
  Calls prog 243 #[.pointer (some ⟨g, 0, none⟩)] w (PrRetI w0 b g gl (beginP 3 p L []) tk k H w) := by
 obtain ⟨R, hR⟩ : ∃ R, Hid (beginP 3 p L [] = R) := ⟨_, Hh rfl⟩
 rw [hR.out]
 have HAT := Lib.hid h
 have HLT := Hh hl
 have HII := Hh hI
 have hbgo := h.bg
 clear h hl hI
 go_enter func243, ntmps243
 go_wp2_with fail
 go_loopw [3] (fun ov wr => ∃ (f : Nat) (p1 : Pr) (L1 : Lt) (o1 : List Ou) (A1 : Option Addr) (c1 : Nat) (X1 : List (Nat × Option Nat)), ov = .slice A1 o1.length c1 ∧ Hid (beginP f p1 L1 o1 = R) ∧ Hid (PrAt w0 wr b g gl X1 p1) ∧ Hid (LotAt wr gl L1) ∧ Hid (OusN w.heap.size wr (.slice A1 o1.length c1) o1) ∧ Hid (PI p1 L1 tk k H) ∧ p1.nm = p.nm ∧ p1.tys = p.tys ∧ 3 ≤ f + p1.bg.length ∧ o1.length ≤ p1.bg.length ∧ b ≤ wr.heap.size ∧ Hid (Fr (TyS w PrTy b) w wr)) (fun _ wr => 3 - lenAt wr g 13)
 case atStart => exact ⟨3, p, L, [], none, 0, X, rfl, hR, HAT, HLT, Hh (OusN.nil _ _), HII, rfl, rfl, by omega, Nat.zero_le _, hbw, Hh (Fr.refl _ _)⟩
 have hbw0 := hbw
 clear hR HAT HLT HII hbw
 obtain ⟨f, p1, L1, o1, A1, c1, X1, rfl, hR, HAT, HLT, HOU, HII, hpn, hpt, hf, hol, hbw, HFR⟩ := hrel
 obtain ⟨⟨T, vq, vb, a1, a2, a3, a4⟩, h5, h6, h7, h8, h9, h10⟩ := HAT.out
 obtain ⟨Ab, cb, hvb⟩ := a4.form
 obtain ⟨Aq, cq, hvq⟩ := a3.form
 subst hvb hvq
 have hXl : (X1.map (·.1)).length = p1.bg.length := by rw [List.length_map, h5.ln]
 obtain ⟨G, hG⟩ : ∃ G, X1.map (·.1) = G := ⟨_, rfl⟩
 have HG := Hh hG
 have ROW0 := Hh (fun i hi => xs_row a4 h5 i hi)
 rw [hG] at a1 a4 hXl
 clear hG
 have d13 : wr.cell? ⟨g, 13, none⟩ = some (.slice Ab G.length cb) := a1.c 3 rfl
 have d10 : wr.cell? ⟨g, 10, none⟩ = some (.slice Aq (qsP p1).length cq) := a1.c 0 rfl
 have htl := HII.out.tl
 have hbl := HII.out.bl
 have hlen : lenAt wr g 13 = p1.bg.length := by rw [lenAt_eq d13, hXl]
 obtain ⟨n, hn⟩ : ∃ n, p1.bg.length = n := ⟨_, rfl⟩
 obtain ⟨m, hm⟩ : ∃ m, p1.tys.length = m := ⟨_, rfl⟩
 rw [hXl, hn] at d13
 rw [qsP_len, hm] at d10
 rw [hn] at hlen hf hol hbl
 rw [hm] at htl hbl
 have HN := Hh hn
 have HM := Hh hm
 have HK := Hh a1
 have HRO := Hh a2
 have HQ := Hh a3
 have HPT := Hh a4
 have HXS := Hh h5
 have HBA := Hh h6
 have HRS := Hh h10
 have hT10 := a1.2
 have hltg := a1.1.lt
 have d8 : wr.cell? ⟨g, 8, none⟩ = some (.bool p1.r.si) := by
  refine a1.1.cell_ 8 ?_
  unfold prC
  rw [List.getElem?_append_left (by omega)]
  obtain ⟨u1, u2, u3, e, _⟩ := a2
  rw [e]; rfl
 clear a1 a2 a3 a4 h5 h6 h10 HAT hXl hn hm
 by_cases hnm2 : n < m
 case neg =>
  have hlt' : ¬ (n : Int) < m := by omega
  have hne : ¬ (p1.bg.length < p1.tys.length ∧ waitP p1 = false) := by rw [HN.out, HM.out]; exact fun c => hnm2 c.1
  rw [begin_no _ _ hne] at hR
  have hgo : Hid (goP p1) := Hh (fun c => absurd c (by rw [HN.out, HM.out]; exact hnm2))
  clear d8 hne
  go_wp2_with fail
  go_quiet (fail)
  obtain ⟨W, hW⟩ : ∃ W, W = wr.drewN nq := ⟨_, rfl⟩
  rw [← hW]
  have HW : Below wr.heap.size wr W := hW ▸ below_drewN (Below.refl _ _) _
  clear hW d13 d10
  go_wp2_with fail
  go_ret
  rw [← hR.out]
  have AT : PrAt w0 wr b g gl X1 p1 := ⟨⟨T, _, _, HK.out, HRO.out, HQ.out, HG.out ▸ HPT.out⟩, HXS.out, HBA.out, h7, h8, h9, HRS.out⟩
  exact ⟨⟨_, X1, rfl, HOU.out.below HW, AT.below hbw HW, HLT.out.below HW, Fr.transT HFR.out (Fr.below HW)⟩, HII.out, hgo.out⟩
 case pos =>
  have hlt' : (n : Int) < m := by omega
  have hlq : p1.bg.length < (qsP p1).length := by rw [qsP_len, HN.out, HM.out]; exact hnm2
  go_wp2_with fail
  go_quiet (fail)
  obtain ⟨W, hW⟩ : ∃ W, W = wr.drewN nq := ⟨_, rfl⟩
  rw [← hW]
  have HW : Below wr.heap.size wr W := hW ▸ below_drewN (Below.refl _ _) _
  have e13 := (HW.cell (p := ⟨g, 13, none⟩) hltg).trans d13
  have e8 := (HW.cell (p := ⟨g, 8, none⟩) hltg).trans d8
  clear hW d13 d10 d8
  go_upto_region 4 with fail
  go_cut [43] (fun v wx => v = .bool (waitP p1) ∧ wx = W)
  case first =>
   by_cases h0 : n = 0
   case pos =>
    have hw0 : waitP p1 = false := by
     have hb0 : p1.bg = [] := List.eq_nil_of_length_eq_zero (HN.out.trans h0)
     simp [waitP, hb0]
    have hw0' := Hh hw0
    subst h0
    clear hw0
    go_wp2_with fail
    go_meet
    case rel => exact ⟨by rw [hw0'.out], rfl⟩
   case neg =>
    have h1 : n = 1 := by omega
    subst h1
    have hl1 : p1.bg.length = 0 + 1 := HN.out
    obtain ⟨gs, off, gx, D, q1, q2, q3, q4, q5, q6, q7⟩ := ROW0.out 0 (by omega)
    have e3 : W.cell? ⟨gs, off, none⟩ = some (.pointer (some ⟨gx, 0, none⟩)) := (HW.cell (p := ⟨gs, off, none⟩) q2).trans q3
    have DN := Hh (xdone_any (q5.below HW))
    have hwt : waitP p1 = (p1.r.si && !(p1.bg[0]'(by omega)).done) := by unfold waitP; rw [last_one hl1]
    obtain ⟨x, hx⟩ : ∃ x, p1.bg[0]'(by omega) = x := ⟨_, rfl⟩
    rw [hx] at DN hwt
    have HWT := Hh hwt
    subst q1
    clear q2 q3 q4 q5 q6 q7 hx hwt
    generalize p1.r.si = si at *
    generalize x.done = dn at *
    cases si with
    | false =>
     clear DN
     go_wp2_with fail
     go_meet
     case rel => exact ⟨by rw [HWT.out]; rfl, rfl⟩
    | true =>
     go_wp2_with fail
     refine DN.out.mono ?_
     rintro _ w2 ⟨rfl, rfl⟩
     go_wp2_with fail
     go_meet
     case rel => exact ⟨by rw [HWT.out]; rfl, rfl⟩
  obtain ⟨rfl, hwc⟩ := hcut
  rw [hwc]
  clear hwc
  cases hw : waitP p1 with
  | true =>
   rw [begin_no _ _ (by rw [hw]; exact fun c => by cases c.2)] at hR
   have HW1 := Hh hw
   clear hw
   go_wp2_with fail
   go_ret
   rw [← hR.out]
   have AT : PrAt w0 wr b g gl X1 p1 := ⟨⟨T, _, _, HK.out, HRO.out, HQ.out, HG.out ▸ HPT.out⟩, HXS.out, HBA.out, h7, h8, h9, HRS.out⟩
   exact ⟨⟨_, X1, rfl, HOU.out.below HW, AT.below hbw HW, HLT.out.below HW, Fr.transT HFR.out (Fr.below HW)⟩, HII.out, fun _ => HW1.out⟩
  | false =>
  obtain ⟨w2, hw2⟩ : ∃ w2, w2 = W := ⟨_, rfl⟩
  subst hw2
  clear e13 e8
  have hf' : ∃ f', f = f' + 1 := ⟨f - 1, by omega⟩
  obtain ⟨f', rfl⟩ := hf'
  rw [begin_yes _ _ (by rw [HN.out, HM.out]; exact hnm2) hw] at hR
  have hbw2 : b ≤ w2.heap.size := Nat.le_trans hbw HW.size
  have K2 := HK.out.below HW
  have RO2 := HRO.out.below HW
  have Q2 : QsC w2 (.slice Aq (qsP p1).length cq) (qsP p1) := QsC.fr (S := fun _ => False) HQ.out (Fr.below HW)
  have PT2 : PtL w2 b (.slice Ab G.length cb) G := LOwn.below HPT.out HW (fun _ _ x => x)
  have XS2 := HXS.out.below HW
  have LT2 := HLT.out.below HW
  have OU2 := HOU.out.below HW
  have BA2 := below_then HBA.out HBA.out.size HW
  have FR2 : Fr (TyS w PrTy b) w w2 := Fr.transT HFR.out (Fr.below HW)
  clear HK HRO HQ HPT HXS HLT HOU HBA HFR HW
  obtain ⟨gq, hAq, hgq, hrow⟩ := LOwn.at_ (R := QI w2) (k := 3) (fun _ _ x => x.len) Q2 (by omega)
  obtain ⟨cx, hcx, vn, hcv, hNM2⟩ := hrow p1.bg.length hlq
  rw [qsP_get] at hcv hNM2
  subst hcv hAq
  obtain ⟨Lq, hLq⟩ := LOwn.hasBlk Q2 (by omega)
  obtain ⟨LL, hLL⟩ := lot_blk LT2
  have hgql := blk_ne hLq hLL (by decide)
  have hgl1 := blk_ne K2.1 hLL (by decide)
  obtain ⟨Aq2, cq2, hvn, hNR⟩ := hNM2.form
  subst hvn
  have hrs := HRS.out
  have IS2 := RO2.is BA2 (by omega) (by omega) (by omega)
  have hus : L1.us ≤ 999999990 := by have := HII.out.us; have := HN.out; omega
  have hql : (qnP p1 p1.bg.length).name.length ≤ 100000 := by show p1.nm.length ≤ 100000; rw [hpn]; exact hnm
  have hXl2 := exP_len p1 L1
  have SN := Hh (fun ok => HII.out.one (by rw [HN.out, HM.out]; exact hnm2) ok)
  have hds := HII.out.ds
  obtain ⟨E, hE⟩ : ∃ E, Hid (exP p1 L1 = E) := ⟨_, Hh rfl⟩
  obtain ⟨Q, hQ⟩ : ∃ Q, Hid (qC (.slice Aq2 (qnP p1 p1.bg.length).name.length cq2) (qnP p1 p1.bg.length) = Q) := ⟨_, Hh rfl⟩
  have hQl : Q.length = 3 := by rw [← hQ.out]; rfl
  have XN : Hid (∀ V, Below w2.heap.size w2 V → Calls prog 181 #[.agg T.toArray, .agg Q.toArray, .int .i64 (IntKind.i64.wrap (p1.turn + n)), .pointer (some ⟨gl, 0, none⟩)] V (XnRet gl E V)) := Hh (fun V hV => by
   have := xnew_any T p1.r (qnP p1 p1.bg.length) Aq2 cq2 (IntKind.i64.wrap (p1.turn + p1.bg.length)) gl L1 V (IS2.below hV) (hNR.below hV) hql (LT2.below hV) hus hds
   rw [hQ.out] at this
   rw [← hE.out]
   unfold exP
   rw [HN.out] at this ⊢
   exact this)
  have XNd := Hh (XN.out _ ((Below.refl _ _).drew))
  unfold XnRet at XNd
  rw [hQ.out, HN.out] at hcx
  have OE : Hid (oneP p1 L1 = { p1 with bg := p1.bg ++ [E.1] }) := Hh (by unfold oneP; rw [hE.out])
  rw [hE.out] at hR hXl2 SN
  rw [OE.out] at hR SN
  have HKK := Hh K2
  have HLQ := Hh hLq
  have HNR := Hh (And.intro RO2 (And.intro Q2 (And.intro PT2 (And.intro XS2 (And.intro LT2 (And.intro OU2 (And.intro BA2 FR2)))))))
  obtain ⟨tv, htv⟩ : ∃ tv, p1.turn = tv := ⟨_, rfl⟩
  rw [htv] at XNd K2
  clear XN IS2 hNR hNM2 hrow RO2 Q2 PT2 XS2 OU2 BA2 FR2 hw hE hQ hLL hrs hql
  obtain ⟨mq, hmq⟩ : ∃ mq, (qsP p1).length = mq := ⟨_, rfl⟩
  have hmqn : n < mq := by rw [← hmq, qsP_len, HM.out]; exact hnm2
  have hmq' := Hh hmq
  rw [hmq] at K2
  clear hmq
  have L69 : Hid (∀ V v u1 u2, PrK V g T v u1 gl u2 → (Instr.loadAt 37 (.pointer (some ⟨g, 0, none⟩))).run prog V = .ok (.agg T.toArray) V) := Hh (fun V v u1 u2 hV => hV.1.loads 37 0 10 (by rw [prC_len hT10]; all_goals decide) _ underlying37 rfl rsI10 _ (by rw [List.drop_zero]; exact List.take_left' hT10))
  go_upto_region 5 with fail
  go_cut [5, 6] (fun v5 v6 wx => ∃ gx Ax cx Dx, v5 = .pointer (some ⟨gx, 0, none⟩) ∧ v6 = .slice Ax E.2.2.length cx ∧ Hid (OusN w2.heap.size wx (.slice Ax E.2.2.length cx) E.2.2) ∧ Hid (XchgAt wx gx gl Dx E.1) ∧ Hid (LotAt wx gl E.2.1) ∧ Hid (Fr (fun i => i = gl) w2.drew wx) ∧ w2.heap.size ≤ gx ∧ Hid (∀ i, Dx = some i → w2.heap.size ≤ i))
  case first =>
   refine wp_region_held_drew (S := fun V => PrK V g T (.slice (some ⟨gq, 0, none⟩) mq cq) tv gl (.slice Ab G.length cb) ∧ V.rangeAt gq (0 + n * 3) Q) (by kernel_rfl) ⟨⟨K2.1.drew, K2.2⟩, hcx⟩ (fun hS => ?_)
   refine held_seq hS 21 [0, 1, 2, 3, 4, 5, 6, 7, 8, 9, 10, 11, 12, 13, 14, 15, 16, 17, 18, 19, 20] rfl (by kernel_rfl) (fun _ _ _ _ _ h => h) rfl rfl ?_
   (refine ⟨_, (.pointer (some ⟨g, 0, none⟩)), rfl, .inl ⟨rfl, fun V hV => rfl⟩, ?_⟩; simp only [Act.put, lsA, lsB, lsC])
   (refine ⟨_, (.pointer (some ⟨g, 0, none⟩)), rfl, .inl ⟨rfl, fun V hV => rfl⟩, ?_⟩; simp only [Act.put, lsA, lsB, lsC])
   (refine ⟨_, (.pointer (some ⟨g, 0, none⟩)), rfl, .inl ⟨rfl, fun V hV => rfl⟩, ?_⟩; simp only [Act.put, lsA, lsB, lsC])
   (refine ⟨_, _, rfl, .inl ⟨rfl, fun V hV => (exec_ld 37 (.tmp 47) ⟨g, 0, none⟩ rfl rfl (L69.out V _ _ _ hV.1))⟩, ?_⟩; simp only [Act.put, lsA, lsB, lsC])
   (refine ⟨_, (.pointer (some ⟨g, 0, none⟩)), rfl, .inl ⟨rfl, fun V hV => rfl⟩, ?_⟩; simp only [Act.put, lsA, lsB, lsC])
   (refine ⟨_, (.pointer (some ⟨g, 0, none⟩)), rfl, .inl ⟨rfl, fun V hV => rfl⟩, ?_⟩; simp only [Act.put, lsA, lsB, lsC])
   (refine ⟨_, (.pointer (some ⟨g, 10, none⟩)), rfl, .inl ⟨rfl, fun V hV => rfl⟩, ?_⟩; simp only [Act.put, lsA, lsB, lsC])
   (refine ⟨_, _, rfl, .inl ⟨rfl, fun V hV => (exec_ld 278 (.tmp 51) ⟨g, 10, none⟩ rfl rfl (run_load1 underlying278 rfl (hV.1.c 0 rfl)))⟩, ?_⟩; simp only [Act.put, lsA, lsB, lsC])
   (refine ⟨_, (.int .i64 n), rfl, .inl ⟨rfl, fun V hV => rfl⟩, ?_⟩; simp only [Act.put, lsA, lsB, lsC])
   (refine ⟨_, _, rfl, .inl ⟨rfl, fun V hV => (exec_ixK underlying278 qInfo (by decide) (.tmp 52) (.tmp 53) rfl rfl rfl hmqn V)⟩, ?_⟩; simp only [Act.put, lsA, lsB, lsC])
   (refine ⟨_, _, rfl, .inl ⟨rfl, fun V hV => (exec_ld 218 (.tmp 54) ⟨gq, 0 + n * 3, none⟩ rfl rfl (rangeK_loads hV.2 underlying218 rfl (by rw [hQl]; exact qInfo)))⟩, ?_⟩; simp only [Act.put, lsA, lsB, lsC])
   (refine ⟨_, (.pointer (some ⟨g, 0, none⟩)), rfl, .inl ⟨rfl, fun V hV => rfl⟩, ?_⟩; simp only [Act.put, lsA, lsB, lsC])
   (refine ⟨_, (.pointer (some ⟨g, 0, none⟩)), rfl, .inl ⟨rfl, fun V hV => rfl⟩, ?_⟩; simp only [Act.put, lsA, lsB, lsC])
   (refine ⟨_, (.pointer (some ⟨g, 11, none⟩)), rfl, .inl ⟨rfl, fun V hV => rfl⟩, ?_⟩; simp only [Act.put, lsA, lsB, lsC])
   (refine ⟨_, _, rfl, .inl ⟨rfl, fun V hV => (exec_ld 3 (.tmp 58) ⟨g, 11, none⟩ rfl rfl (run_load1 underlying3 rfl (hV.1.c 1 rfl)))⟩, ?_⟩; simp only [Act.put, lsA, lsB, lsC])
   (refine ⟨_, (.int .i64 n), rfl, .inl ⟨rfl, fun V hV => rfl⟩, ?_⟩; simp only [Act.put, lsA, lsB, lsC])
   (refine ⟨_, (.int .i64 (IntKind.i64.wrap (tv + n))), rfl, .inl ⟨rfl, fun V hV => rfl⟩, ?_⟩; simp only [Act.put, lsA, lsB, lsC])
   (refine ⟨_, (.pointer (some ⟨g, 0, none⟩)), rfl, .inl ⟨rfl, fun V hV => rfl⟩, ?_⟩; simp only [Act.put, lsA, lsB, lsC])
   (refine ⟨_, (.pointer (some ⟨g, 0, none⟩)), rfl, .inl ⟨rfl, fun V hV => rfl⟩, ?_⟩; simp only [Act.put, lsA, lsB, lsC])
   (refine ⟨_, (.pointer (some ⟨g, 12, none⟩)), rfl, .inl ⟨rfl, fun V hV => rfl⟩, ?_⟩; simp only [Act.put, lsA, lsB, lsC])
   (refine ⟨_, _, rfl, .inl ⟨rfl, fun V hV => (exec_ld 73 (.tmp 64) ⟨g, 12, none⟩ rfl rfl (run_load1 underlying73 rfl (hV.1.c 2 rfl)))⟩, ?_⟩; simp only [Act.put, lsA, lsB, lsC])
   simp only [SeqC]
   refine held_call 21 (some 66) 181 #[.agg T.toArray, .agg Q.toArray, .int .i64 (IntKind.i64.wrap (tv + n)), .pointer (some ⟨gl, 0, none⟩)] (by kernel_rfl) rfl rfl (by kernel_rfl) (by go_simp) XNd.out ?_
   rintro _ w8 ⟨gx, vo, Dx, rfl, hO8, hX8, hl8, hf8, hg8, hD8⟩
   have B8 : PrK w8 g T (.slice (some ⟨gq, 0, none⟩) mq cq) tv gl (.slice Ab G.length cb) := ⟨hf8.blk K2.1.drew (fun e => hgl1 e), K2.2⟩
   have R8 := range_fr hf8 HLQ.out.drew (fun e => hgql e) hcx
   obtain ⟨Ax, cx, hvo, -, -⟩ := hO8.form
   subst hvo
   refine ⟨_, rfl, ⟨B8, R8⟩, ?_⟩
   have HO8 := Hh hO8
   have HX8 := Hh hX8
   have HL8 := Hh hl8
   have HF8 := Hh hf8
   have HD8 := Hh hD8
   clear XNd hS hO8 hX8 hl8 hf8 hD8
   have hS := And.intro B8 R8
   clear B8 R8
   simp only [Act.put, lsA, lsB, lsC]
   refine held_seq hS 5 [22, 23, 24, 25, 26] rfl (by kernel_rfl) (fun _ _ _ _ _ h => h) rfl rfl ?_
   (refine ⟨_, (.tuple #[.pointer (some ⟨gx, 0, none⟩), .slice Ax E.2.2.length cx]), rfl, .inl ⟨rfl, fun V hV => rfl⟩, ?_⟩; simp only [Act.put, lsA, lsB, lsC])
   (refine ⟨_, (.pointer (some ⟨gx, 0, none⟩)), rfl, .inl ⟨rfl, fun V hV => rfl⟩, ?_⟩; simp only [Act.put, lsA, lsB, lsC])
   (refine ⟨_, (.slice Ax E.2.2.length cx), rfl, .inl ⟨rfl, fun V hV => rfl⟩, ?_⟩; simp only [Act.put, lsA, lsB, lsC])
   (refine ⟨_, (.pointer (some ⟨gx, 0, none⟩)), rfl, .inl ⟨rfl, fun V hV => rfl⟩, ?_⟩; simp only [Act.put, lsA, lsB, lsC])
   (refine ⟨_, (.slice Ax E.2.2.length cx), rfl, .inl ⟨rfl, fun V hV => rfl⟩, ?_⟩; simp only [Act.put, lsA, lsB, lsC])
   simp only [SeqC]
   refine wpAnyH_done (by kernel_rfl) ?_ _
   go_wp2_with fail
   go_meet
   case rel => exact ⟨gx, Ax, cx, Dx, rfl, rfl, HO8, HX8, HL8, HF8, hg8, HD8⟩
  obtain ⟨gx, Ax, cx2, Dx, rfl, rfl, HO8, HX8, HL8, HF8, hgx, HD8⟩ := hcut
  obtain ⟨w8, rfl⟩ : ∃ w8, w8 = wc := ⟨_, rfl⟩
  clear XNd hcx L69
  obtain ⟨RO2, Q2, PT2, XS2, LT2, OU2, BA2, FR2⟩ := HNR.out
  have kd : Below w2.heap.size w2 w2.drew := (Below.refl _ _).drew
  have hkd : w2.drew.heap.size = w2.heap.size := rfl
  have hf8 := HF8.out
  have F8 : Fr (TyS w2 XTy b) w2 w8 := Fr.transT (Fr.below kd) (hf8.mono (fun i hi => by
   subst hi
   obtain ⟨cs, hb⟩ := lot_blk (LT2.below kd)
   exact ⟨h9, _, _, hb, .inr (.inl rfl)⟩))
  have XS8 := (XS2.below kd).app (LT2.below kd) hf8 HX8.out hgx HD8.out hbw2
  have K8 : PrK w8 g T (.slice (some ⟨gq, 0, none⟩) mq cq) tv gl (.slice Ab G.length cb) := ⟨F8.blk K2.1 (TyS.not K2.1 (by unfold XTy; decide)), K2.2⟩
  have RO8 := RO2.fr F8
  have Q8 := QsC.fr Q2 F8
  have PT8 : PtL w8 b (.slice Ab G.length cb) G := PT2.stays (fun _ x => F8.ownT x (by unfold XTy; decide)) (fun _ _ x => x)
  have OU8 := OU2.frY F8 (by unfold XTy; decide)
  have BA8 := F8.toBelowT BA2 BA2.size (by omega)
  have FR8 := Fr.transT FR2 (F8.monoT x_pr)
  have hbw8 : b ≤ w8.heap.size := Nat.le_trans hbw2 F8.size
  have d13 : w8.cell? ⟨g, 13, none⟩ = some (.slice Ab G.length cb) := K8.c 3 rfl
  have kz : Below w8.heap.size w8 (w8.alloc (.cells #[.pointer (some ⟨gx, 0, none⟩)] 216)) := (Below.refl _ _).alloc (Nat.le_refl _) _
  have BN : Blk (w8.alloc (.cells #[.pointer (some ⟨gx, 0, none⟩)] 216)) w8.heap.size 216 [.pointer (some ⟨gx, 0, none⟩)] := Blk.new w8 216 [.pointer (some ⟨gx, 0, none⟩)]
  have PTz : PtL (w8.alloc (.cells #[.pointer (some ⟨gx, 0, none⟩)] 216)) b (.slice Ab G.length cb) G := LOwn.below PT8 kz (fun _ _ x => x)
  have Kz := K8.below kz
  have hXn : G.length ≤ 2 := by rw [← HG.out, List.length_map, XS2.ln, HN.out]; omega
  have hne : (Value.slice Ab G.length cb).ownBlock ≠ some w8.heap.size := LOwn.ne PT8 (Nat.le_refl _)
  have HPTz := Hh PTz
  have HKz := Hh Kz
  have HH8 := Hh (And.intro RO8 (And.intro Q8 (And.intro XS8 (And.intro OU8 (And.intro BA8 FR8)))))
  have HKZ := Hh kz
  have hszz : b ≤ (w8.alloc (.cells #[.pointer (some ⟨gx, 0, none⟩)] 216)).heap.size := Nat.le_trans hbw8 kz.size
  clear RO2 Q2 PT2 XS2 LT2 OU2 BA2 FR2 F8 hf8 XS8 K8 RO8 Q8 PT8 OU8 BA8 FR8 HNR HKK K2 HLQ hLq HF8 kd PTz Kz
  go_wp2_with (at_builtin; go_must (refine wpList_app1 _ rfl (.tmp 73) (.tmp 75) 350 rfl 216 (.pointer none) 1 8 underlying350 xpInfo3 rfl (by decide) (R := PtI) b _ _ rfl HPTz.out hszz w8.heap.size [.pointer (some ⟨gx, 0, none⟩)] gx rfl BN hne rfl (by simp [Value.oneCell']) rfl (by simp only [maxLen]; omega) (by omega) ?_))
  intro v9 w9 O9 g9
  obtain ⟨G2, hG2⟩ : ∃ G2, Hid (G ++ [gx] = G2) := ⟨_, Hh rfl⟩
  rw [hG2.out] at O9
  obtain ⟨A9, c9, hv9⟩ := LOwn.form O9
  subst hv9
  have B9 := LOwn.keep HPTz.out HKz.out.1 (by decide) g9
  have F9 : Fr (TyS w8 PrTy b) w8 w9 := Fr.transT (Fr.below HKZ.out) (LOwn.appFrT HPTz.out g9 (by unfold StTy; decide) (by unfold PrTy; decide))
  have F9x : Fr (TyS w8 (fun t => t = 216) b) w8 w9 := Fr.transT (Fr.below HKZ.out) (LOwn.appFrT HPTz.out g9 (by unfold StTy; decide) rfl)
  have HO9 := Hh O9
  obtain ⟨L9, hL9⟩ : ∃ L9, Hid (prC T (.slice (some ⟨gq, 0, none⟩) mq cq) tv gl (.slice Ab G.length cb) = L9) := ⟨_, Hh rfl⟩
  have SL9 : L9.length = 14 := by rw [← hL9.out]; exact prC_len hT10 ..
  rw [hL9.out] at B9
  clear O9 g9 HPTz HKz d13 BN hne kz hszz
  go_wp2_with (refine at_op (.store 350 (.tmp 78) (.tmp 76)) rfl ?_; go_must (refine wpList_stC rfl 350 (.tmp 78) (.tmp 76) rfl g 13 rfl (.slice A9 G2.length c9) rfl B9 (by rw [SL9]; decide) xsI1 rfl rfl ?_))
  intro w10 B10 g10 sw
  clear sw
  rw [← hL9.out, prC_set hT10] at B10
  have K10 : PrK w10 g T (.slice (some ⟨gq, 0, none⟩) mq cq) tv gl (.slice A9 G2.length c9) := ⟨B10, hT10⟩
  have F10 : Fr (TyS w9 (fun t => t = 352) b) w9 w10 := Fr.grown g10 B9 (by unfold StTy; decide) ⟨hbgo, _, _, B9, rfl⟩
  obtain ⟨RO8, Q8, XS8, OU8, BA8, FR8⟩ := HH8.out
  have RO10 := (RO8.fr F9).fr F10
  have Q10 := QsC.fr (QsC.fr Q8 F9) F10
  have XS10 := (XS8.frT F9x (by decide) (by decide)).frT F10 (by decide) (by decide)
  have OU10 := Hh ((OU8.frY F9x (by decide)).frY F10 (by decide))
  have OX10 := Hh ((HO8.out.frY F9x (by decide)).frY F10 (by decide))
  have LT10 := (HL8.out.frT F9x (by decide)).frT F10 (by decide)
  have PT10 : PtL w10 b (.slice A9 G2.length c9) G2 := HO9.out.stays (fun _ x => F10.ownT x (by decide)) (fun _ _ x => x)
  have FR10 := Fr.transT (Fr.transT FR8 F9) (F10.monoT (q := PrTy) (fun t h => .inl h))
  have BA9 := F9.toBelowT BA8 BA8.size h7
  have BA10 := F10.toBelowT BA9 BA9.size h7
  have hmp : (X1 ++ [(gx, Dx)]).map (·.1) = G2 := by rw [List.map_append, HG.out]; exact hG2.out
  have AT10 : PrAt w0 w10 b g gl (X1 ++ [(gx, Dx)]) { p1 with bg := p1.bg ++ [E.1] } := ⟨⟨T, _, _, by show PrK w10 g T _ p1.turn gl _; rw [htv]; exact K10, RO10, by show QsC w10 _ (qsP p1); rw [← hmq'.out]; exact Q10, by rw [hmp]; exact PT10⟩, XS10, BA10, h7, h8, h9, HRS.out⟩
  have hbw10 : b ≤ w10.heap.size := Nat.le_trans hbw8 (Nat.le_trans F9.size F10.size)
  have hw10 : w.heap.size ≤ w10.heap.size := FR10.size
  have hoo : o1.length + E.2.2.length ≤ 100000 := by omega
  have HAT10 := Hh AT10
  have HLT10 := Hh LT10
  have HFR10 := Hh FR10
  clear B10 g10 K10 F10 F9 F9x RO8 Q8 XS8 OU8 BA8 FR8 RO10 Q10 XS10 PT10 BA9 BA10 AT10 LT10 FR10 HO9 HH8 HO8 HL8 B9 HKZ
  go_wp2_with (at_builtin; go_must (refine wpList_appOu _ rfl (.tmp 79) (.tmp 80) rfl rfl rfl OU10.out OX10.out hw10 hoo ?_))
  intro v' w11 ho11 hf11
  obtain ⟨A', c', hv', -, -⟩ := ho11.form
  have F11 : Fr (TyS w10 OuTy b) w10 w11 := hf11.mono (fun i hi => by obtain ⟨k1, k2⟩ := OU10.out.ownTy (p := OuTy) rfl i hi; exact ⟨by omega, k2⟩)
  have AT11 := HAT10.out.frT F11 (Nat.le_refl _) hbw10 (by unfold OuTy; decide) (by unfold OuTy; decide) (by unfold OuTy; decide) (by unfold OuTy; decide)
  have LT11 := HLT10.out.frT F11 (by unfold OuTy; decide)
  have FR11 : Fr (TyS w PrTy b) w w11 := HFR10.out.trans hf11 (fun i hi c => by have := (OU10.out.ownTy (p := OuTy) rfl i c).1; omega)
  have hbw11 : b ≤ w11.heap.size := Nat.le_trans hbw10 F11.size
  have hl11 : lenAt w11 g 13 = n + 1 := by
   obtain ⟨⟨T', vq', vb', k1, k2, k3, k4⟩, k5, _⟩ := AT11
   obtain ⟨Ax', cx', e⟩ := k4.form
   subst e
   rw [lenAt_eq (k1.c 3 rfl), List.length_map, k5.ln]
   show (p1.bg ++ [E.1]).length = n + 1
   rw [List.length_append, HN.out]; rfl
  have hbl2 : (p1.bg ++ [E.1]).length = n + 1 := by rw [List.length_append, HN.out]; rfl
  have SW := Hh (SN.out HX8.out.ok)
  have OW := Hh ho11
  have FW := Hh FR11
  have AW := Hh AT11
  have LW := Hh LT11
  subst hv'
  clear ho11 hf11 F11 AT11 LT11 FR11 OU10 OX10 HAT10 HLT10 HFR10 SN HX8 HD8
  go_wp2_with fail
  go_roundw
  case rel => exact ⟨f', { p1 with bg := p1.bg ++ [E.1] }, E.2.1, o1 ++ E.2.2, A', c', X1 ++ [(gx, Dx)], rfl, hR, AW, LW, OW, SW, hpn, hpt, by show 3 ≤ f' + (p1.bg ++ [E.1]).length; omega, by show (o1 ++ E.2.2).length ≤ (p1.bg ++ [E.1]).length; rw [List.length_append]; omega, hbw11, FW⟩
  case measure => rw [hlen, hl11]; omega
end Go.Proofs.YteimenplbanooaaGreatDoor

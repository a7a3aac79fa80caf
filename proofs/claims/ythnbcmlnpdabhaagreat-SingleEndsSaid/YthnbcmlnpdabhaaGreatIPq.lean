/-
  Layer 35 (single), plain: one question, put for one name after the other.
-/
import Derived.Test.YthnbcmlnpdabhaaGreatLaw29eq
namespace Go.Proofs.YthnbcmlnpdabhaaGreat
open _root_.Go.Proofs.Tryz
open Go.RowKit
set_option linter.unusedVariables false
set_option linter.unusedSimpArgs false
def VdX (x : Xc) : Prop := x.done = true → (x.vd = 2 ∨ x.vd = 3 ∨ x.vd = 4 ∨ x.vd = 5) ∨ (x.vd = 1 ∧ ∃ f, followQ x.q x.msg.an 16 0 x.q.name none = .ok f)
theorem VdX.open_ {x : Xc} (h : x.done = false) : VdX x := fun c => absurd c (by rw [h]; decide)
theorem legX_vd {x : Xc} (h : x.done = false) (L : Lt) (lg : Nat) : VdX (legX x L lg).1 := VdX.open_ ((legX_f x L lg).1.trans h)
theorem tryX_vd {x : Xc} (h : x.done = false) (L : Lt) : VdX (tryX x L).1 := by
 unfold tryX
 split
 ·
  exact legX_vd h _ _
 ·
  intro _
  show ((if x.hard then (5 : Int) else 4) = 2 ∨ _) ∨ _
  left
  cases hh : x.hard with
  | true => exact .inr (.inr (.inr (by simp [hh])))
  | false => exact .inr (.inr (.inl (by simp [hh])))
theorem nextX_vd {x : Xc} (h : x.done = false) (L : Lt) : VdX (nextX x L).1 := tryX_vd (x := { x with k := x.k + 1 }) h L
theorem finalV_is (q : Qn) (m : Msg) : (finalV q m = 2 ∨ finalV q m = 3 ∨ finalV q m = 4 ∨ finalV q m = 5) ∨ (finalV q m = 1 ∧ ∃ f, followQ q m.an 16 0 q.name none = .ok f) := by
 unfold finalV
 split
 ·
  rename_i f hf
  exact .inr ⟨rfl, f, hf⟩
 ·
  rename_i e he
  left
  split
  ·
   exact .inr (.inr (.inr rfl))
  ·
   split
   ·
    exact .inr (.inl rfl)
   ·
    exact .inl rfl
theorem toldX_vd {x : Xc} (h : x.done = false) (L : Lt) (m : Msg) : VdX (toldX x L m).1 := by
 unfold toldX
 split
 ·
  exact fun _ => finalV_is x.q m
 ·
  split
  ·
   exact legX_vd h _ _
  ·
   split
   ·
    exact legX_vd h _ _
   ·
    split
    ·
     exact nextX_vd (x := { x with hard := true }) h L
    ·
     exact nextX_vd h L
theorem hearX_vd {x : Xc} (h : VdX x) (L : Lt) (e : Ev) : VdX (hearX x L e).1 := by
 unfold hearX
 by_cases hd : x.done = true
 ·
  rw [if_pos hd]; exact h
 ·
  have hd0 : x.done = false := by simpa using hd
  rw [if_neg hd]
  split
  ·
   split
   ·
    split
    ·
     exact nextX_vd (x := { x with left := x.left - 1, d := (hangD x.d).1 }) hd0 L
    ·
     exact VdX.open_ hd0
   ·
    split
    ·
     exact toldX_vd (x := { x with d := (hearD x.d e).1 }) hd0 L _
    ·
     split
     ·
      exact nextX_vd (x := { x with d := (hearD x.d e).1 }) hd0 L
     ·
      exact VdX.open_ hd0
  ·
   split
   ·
    split
    ·
     exact nextX_vd (x := { x with left := x.left - 1 }) hd0 L
    ·
     exact VdX.open_ hd0
   ·
    split
    ·
     exact toldX_vd hd0 L _
    ·
     exact VdX.open_ hd0
theorem newX_vd (tmo : Int) (vc ed : Bool) (q : Qn) (tr : List Adr) (L : Lt) : VdX (newX tmo vc ed q tr L).1 := by
 unfold newX
 split
 ·
  exact fun _ => .inl (.inr (.inl rfl))
 ·
  exact tryX_vd (x := startX tmo vc ed q tr) rfl L
theorem followQ_recs (q : Qn) (l : List RR) : ∀ (f k : Nat) (n : List (List UInt8)) (t : Option Int) (o : Fnd), followQ q l f k n t = .ok o → o.recs ≠ [] ∧ o.recs = ofR l o.name q.ty q.cl
 | f, k, n, t, o, h => by
  rw [followQ_eq] at h
  split at h
  ·
   rename_i r rs hr
   injection h with h
   subst h
   exact ⟨by simp, hr.symm⟩
  ·
   split at h
   ·
    cases h
   ·
    split at h
    ·
     cases h
    ·
     exact followQ_recs q l _ _ _ _ o h
 termination_by f => f
structure Sg where
 r : Rs
 nms : List (List (List UInt8))
 kind : Int
 turn : Int
 begun : Nat
 pres : Option Xc
 q : Qn
 again : Bool
 nodata : Bool
 told : Nat
 sent : Nat
 done : Bool
 vd : Int
 recs : List RR
 nm : List (List UInt8)
 ttl : Int
abbrev SR := Sg × Lt × List Ou
def leaveS (s : Sg) (x : Xc) : Sg :=
 let s1 : Sg := { s with pres := none, told := s.told + 1, sent := s.sent + x.sent }
 if x.vd = 1 then (match followQ s.q x.msg.an 16 0 s.q.name none with
  | .ok f => { s1 with done := true, vd := 1, recs := f.recs, nm := f.name, ttl := f.ttl.getD 0 }
  | .error _ => { s1 with done := true, vd := 1, recs := [], nm := [], ttl := 0 })
 else if x.vd = 5 then { s1 with done := true, vd := 5, recs := [], nm := [], ttl := 0 }
 else if x.vd = 4 then { s1 with again := true }
 else if x.vd = 2 then { s1 with nodata := true }
 else s1
def nothingS (s : Sg) : Int := if s.again then 4 else if s.nodata then 2 else 3
def endS (s : Sg) : Sg := { s with done := true, vd := nothingS s, recs := [], nm := [], ttl := 0 }
def qnS (s : Sg) : Qn := ⟨s.nms.getD s.begun [], s.kind, 1⟩
def exS (s : Sg) (L : Lt) : XR := newX (heldR s.r).tmo (heldR s.r).vc (heldR s.r).ed (qnS s) (triesR s.r (IntKind.i64.wrap (s.turn + s.begun))) L
def newS (s : Sg) (x : Xc) : Sg := { s with q := qnS s, pres := some x, begun := s.begun + 1 }
def goS : Nat → Sg → Lt → List Ou → SR
 | 0, s, L, o => (s, L, o)
 | f + 1, s, L, o => match s.pres with
  | some x => if x.done = false ∨ (leaveS s x).done = true then (if x.done = false then s else leaveS s x, L, o)
   else if s.begun = s.nms.length then (endS (leaveS s x), L, o)
   else goS f (newS (leaveS s x) (exS (leaveS s x) L).1) (exS (leaveS s x) L).2.1 (o ++ (exS (leaveS s x) L).2.2)
  | none => if s.begun = s.nms.length then (endS s, L, o) else goS f (newS s (exS s L).1) (exS s L).2.1 (o ++ (exS s L).2.2)
def hearS (s : Sg) (L : Lt) (e : Ev) : SR := match s.pres with
 | none => (s, L, [])
 | some x => if s.done then (s, L, []) else goS (s.nms.length + 1) { s with pres := some (hearX x L e).1 } (hearX x L e).2.1 (hearX x L e).2.2
structure InvS (T n : Nat) (s : Sg) (tk : Nat) : Prop where
 bg : s.begun ≤ s.nms.length
 pr : ∀ x, s.pres = some x → (∃ t, InvX n T x t) ∧ VdX x ∧ x.q = s.q ∧ x.phi + T * (s.nms.length - s.begun) ≤ T * s.nms.length - tk
 no : s.pres = none → s.done = true ∨ T * (s.nms.length - s.begun) ≤ T * s.nms.length - tk
 qk : ∀ x, s.pres = some x → s.q.ty = s.kind ∧ s.q.cl = 1
 dn : s.done = true → 1 ≤ s.vd ∧ s.vd ≤ 5 ∧ (s.recs ≠ [] ↔ s.vd = 1) ∧ ∀ r ∈ s.recs, ∃ l, r ∈ ofR l s.nm s.kind 1
 pd : s.done = true → s.pres = none
theorem InvS.stop {T n : Nat} {s : Sg} {tk : Nat} (hb : s.begun ≤ s.nms.length) (hp : s.pres = none) (hd : s.done = true) (h1 : 1 ≤ s.vd) (h2 : s.vd ≤ 5) (h3 : s.recs ≠ [] ↔ s.vd = 1) (h4 : ∀ r ∈ s.recs, ∃ l, r ∈ ofR l s.nm s.kind 1) : InvS T n s tk :=
 ⟨hb, fun x c => absurd (hp.symm.trans c) (by simp), fun _ => .inl hd, fun x c => absurd (hp.symm.trans c) (by simp), fun _ => ⟨h1, h2, h3, h4⟩, fun _ => hp⟩
theorem InvS.idle {T n : Nat} {s : Sg} {tk : Nat} (hb : s.begun ≤ s.nms.length) (hp : s.pres = none) (hd : s.done = false) (hT : T * (s.nms.length - s.begun) ≤ T * s.nms.length - tk) : InvS T n s tk :=
 ⟨hb, fun x c => absurd (hp.symm.trans c) (by simp), fun _ => .inr hT, fun x c => absurd (hp.symm.trans c) (by simp), fun c => absurd (hd.symm.trans c) (by simp), fun _ => hp⟩
theorem leaveS_f (s : Sg) (x : Xc) : (leaveS s x).pres = none ∧ (leaveS s x).begun = s.begun ∧ (leaveS s x).nms = s.nms ∧ (leaveS s x).kind = s.kind ∧ (leaveS s x).r = s.r ∧ (leaveS s x).turn = s.turn := by
 unfold leaveS
 dsimp only
 split
 ·
  split <;> exact ⟨rfl, rfl, rfl, rfl, rfl, rfl⟩
 ·
  split
  ·
   exact ⟨rfl, rfl, rfl, rfl, rfl, rfl⟩
  ·
   split
   ·
    exact ⟨rfl, rfl, rfl, rfl, rfl, rfl⟩
   ·
    split <;> exact ⟨rfl, rfl, rfl, rfl, rfl, rfl⟩
theorem leaveS_inv {T n : Nat} {s : Sg} {tk : Nat} {x : Xc} (h : InvS T n s tk) (hp : s.pres = some x) (hd : x.done = true) (hs : s.done = false) : InvS T n (leaveS s x) tk := by
 obtain ⟨⟨t, h1⟩, h2, h3, h4⟩ := h.pr x hp
 obtain ⟨k1, k2⟩ := h.qk x hp
 have hb := h.bg
 have hT : T * (s.nms.length - s.begun) ≤ T * s.nms.length - tk := by omega
 have hq := h2 hd
 rw [h3] at hq
 unfold leaveS
 by_cases v1 : x.vd = 1
 ·
  have hf : ∃ f, followQ s.q x.msg.an 16 0 s.q.name none = .ok f := by
   rcases hq with hq | hq
   ·
    omega
   ·
    exact hq.2
  obtain ⟨f, hf⟩ := hf
  obtain ⟨f1, f2⟩ := followQ_recs _ _ _ _ _ _ _ hf
  simp only [if_pos v1, hf]
  refine InvS.stop hb rfl rfl (Int.le_refl _) (by show (1 : Int) ≤ 5; decide) ⟨fun _ => rfl, fun _ => f1⟩ (fun r hr => ⟨x.msg.an, ?_⟩)
  show r ∈ ofR x.msg.an f.name s.kind 1
  rw [← k1, ← k2, ← f2]
  exact hr
 ·
  simp only [if_neg v1]
  split
  ·
   exact InvS.stop hb rfl rfl (by show (1 : Int) ≤ 5; decide) (Int.le_refl _) ⟨fun c => absurd rfl c, fun c => absurd c (by show ¬ (5 : Int) = 1; decide)⟩ (fun r hr => by cases hr)
  ·
   split
   ·
    exact InvS.idle hb rfl hs hT
   ·
    split <;> exact InvS.idle hb rfl hs hT
theorem endS_inv {T n : Nat} {s : Sg} {tk : Nat} (h : InvS T n s tk) (hp : s.pres = none) : InvS T n (endS s) tk := by
 have hv : nothingS s = 4 ∨ nothingS s = 2 ∨ nothingS s = 3 := by
  unfold nothingS
  split
  ·
   exact .inl rfl
  ·
   split
   ·
    exact .inr (.inl rfl)
   ·
    exact .inr (.inr rfl)
 have e : (endS s).vd = nothingS s := rfl
 refine InvS.stop h.bg hp rfl (by rw [e]; omega) (by rw [e]; omega) ⟨fun c => absurd rfl c, fun c => ?_⟩ (fun r hr => by cases hr)
 rw [e] at c
 omega
theorem newS_inv {s : Sg} {tk : Nat} (L : Lt) (h : InvS (ticksR s.r) (triesR s.r 0).length s tk) (hp : s.pres = none) (hs : s.done = false) (hb : s.begun < s.nms.length) (ok : (exS s L).1.ok) : InvS (ticksR s.r) (triesR s.r 0).length (newS s (exS s L).1) tk ∧ (exS s L).2.1.us ≤ L.us + 2 ∧ (exS s L).2.1.ds = L.ds ∧ (exS s L).1.d.heard.length = 0 := by
 have hl : (triesR s.r (IntKind.i64.wrap (s.turn + s.begun))).length = (triesR s.r 0).length := by rw [tries_len, tries_len]
 have E : EndX _ L (exS s L) _ _ _ := newX_end (heldR s.r).tmo (heldR s.r).vc (heldR s.r).ed (qnS s) (triesR s.r (IntKind.i64.wrap (s.turn + s.begun))) L (newX_st s.r (qnS s) _ L ok)
 have h3 := E.snt
 have h4 := E.rst
 have h5 := E.phi
 have h7 := E.hd
 have h0 : (startX (heldR s.r).tmo (heldR s.r).vc (heldR s.r).ed (qnS s) (triesR s.r (IntKind.i64.wrap (s.turn + s.begun)))).sent = 0 := rfl
 have hT : ticksR s.r = (heldR s.r).tmo.toNat * (3 * (triesR s.r 0).length) := rfl
 rw [hl] at h4 h5
 rw [← hT] at h5
 have ho : ticksR s.r * (s.nms.length - s.begun) ≤ ticksR s.r * s.nms.length - tk := by
  rcases h.no hp with c | c
  ·
   rw [hs] at c; cases c
  ·
   exact c
 have hm : ticksR s.r * (s.nms.length - s.begun) = ticksR s.r + ticksR s.r * (s.nms.length - (s.begun + 1)) := by
  rw [show s.nms.length - s.begun = (s.nms.length - (s.begun + 1)) + 1 by omega, Nat.mul_add, Nat.mul_one, Nat.add_comm]
 refine ⟨⟨hb, fun x c => ?_, fun c => absurd c (by simp [newS]), fun x c => ⟨rfl, rfl⟩, fun c => ?_, fun c => ?_⟩, E.us, E.ds, by omega⟩
 ·
  injection c with c
  subst c
  refine ⟨⟨0, ⟨by rw [E.tr]; exact hl, by omega, by omega, E.lg, E.vd⟩⟩, newX_vd _ _ _ _ _ _, E.q, ?_⟩
  show (exS s L).1.phi + ticksR s.r * (s.nms.length - (s.begun + 1)) ≤ ticksR s.r * s.nms.length - tk
  omega
 ·
  rw [show (newS s (exS s L).1).done = s.done from rfl, hs] at c; cases c
 ·
  rw [show (newS s (exS s L).1).done = s.done from rfl, hs] at c; cases c
theorem hear1_inv {T n : Nat} {s : Sg} {tk : Nat} {x : Xc} (h : InvS T n s tk) (hp : s.pres = some x) (ok : x.ok) (L : Lt) (e : Ev) (hs : s.done = false) : InvS T n { s with pres := some (hearX x L e).1 } (tk + if e.kind = 1 ∧ x.done = false then 1 else 0) := by
 obtain ⟨⟨t, h1⟩, h2, h3, h4⟩ := h.pr x hp
 have H := (h1.hear ok L e).1
 have E := hearX_end ok.st (fun hd => (ok.go hd).2.1) h1.lg h1.vd L e
 have h5 := E.phi
 refine ⟨h.bg, fun y c => ?_, fun c => absurd c (by simp [newS]), fun y c => h.qk x hp, fun c => ?_, fun c => ?_⟩
 ·
  injection c with c
  subst c
  refine ⟨⟨_, H⟩, hearX_vd h2 L e, E.q.trans h3, ?_⟩
  show (hearX x L e).1.phi + T * (s.nms.length - s.begun) ≤ T * s.nms.length - (tk + if e.kind = 1 ∧ x.done = false then 1 else 0)
  have h6 : x.done = false → 1 ≤ x.phi := fun hd => by
   have h7 := (ok.go hd).2.1
   have h8 := phi_no hd
   omega
  split <;> rename_i hk
  ·
   have h9 := h6 hk.2
   rw [if_pos hk.1] at h5
   omega
  ·
   have : (hearX x L e).1.phi ≤ x.phi := by split at h5 <;> omega
   omega
 ·
  rw [show ({ s with pres := some (hearX x L e).1 } : Sg).done = s.done from rfl, hs] at c; cases c
 ·
  rw [show ({ s with pres := some (hearX x L e).1 } : Sg).done = s.done from rfl, hs] at c; cases c
theorem InvS.end_ {T n : Nat} {s : Sg} {tk : Nat} (h : InvS T n s tk) (ok : ∀ x, s.pres = some x → x.ok ∧ x.done = false) (ht : T * s.nms.length ≤ tk) (hp : s.pres = none → s.done = true) : s.done = true := by
 cases hx : s.pres with
 | none => exact hp hx
 | some x =>
  obtain ⟨o1, o2⟩ := ok x hx
  obtain ⟨-, -, -, h4⟩ := h.pr x hx
  have h7 := (o1.go o2).2.1
  have h8 := phi_no o2
  omega
theorem t10_get {T : List Value} (h : T.length = 10) (M : List Value) (i : Nat) : (T ++ M)[10 + i]? = M[i]? := by
 rw [List.getElem?_append_right (by omega), h, Nat.add_sub_cancel_left]
theorem t10_set {T : List Value} (h : T.length = 10) (M : List Value) (i : Nat) (v : Value) : (T ++ M).set (10 + i) v = T ++ M.set i v := by
 rw [List.set_append, if_neg (by omega), h, Nat.add_sub_cancel_left]
theorem t10_drop {T : List Value} (h : T.length = 10) (M : List Value) (i : Nat) : (T ++ M).drop (10 + i) = M.drop i := by
 rw [List.drop_append, List.drop_of_length_le (by omega), List.nil_append, h, Nat.add_sub_cancel_left]
theorem t10_take {T : List Value} (h : T.length = 10) (M : List Value) (i : Nat) : (T ++ M).take (10 + i) = T ++ M.take i := by
 rw [List.take_append, List.take_of_length_le (by omega), h, Nat.add_sub_cancel_left]
theorem t10_put {T : List Value} (h : T.length = 10) (M qs : List Value) (i : Nat) : (T ++ M).take (10 + i) ++ qs ++ (T ++ M).drop (10 + i + qs.length) = T ++ (M.take i ++ qs ++ M.drop (i + qs.length)) := by
 rw [t10_take h, show 10 + i + qs.length = 10 + (i + qs.length) by omega, t10_drop h, List.append_assoc, List.append_assoc, List.append_assoc]
def sgM (vn vq vt vr vm : Value) (gl : Nat) (pp : Option Nat) (s : Sg) : List Value :=
 [vn, .int .i64 s.kind, .int .i64 s.turn, .pointer (some ⟨gl, 0, none⟩), .int .i64 s.begun, ptrV pp, vq, .int .i64 s.q.ty, .int .i64 s.q.cl, .bool s.again, .bool s.nodata, vt, .int .i64 s.sent, .bool s.done, .int .i64 s.vd, vr, vm, .int .i64 s.ttl]
theorem sg_len {T : List Value} (h : T.length = 10) (vn vq vt vr vm : Value) (gl : Nat) (pp : Option Nat) (s : Sg) : (T ++ sgM vn vq vt vr vm gl pp s).length = 28 := by
 rw [List.length_append, h]; rfl
def SgK (w : World) (g : Nat) (T : List Value) (vn vq vt vr vm : Value) (gl : Nat) (pp : Option Nat) (s : Sg) : Prop := Blk w g 185 (T ++ sgM vn vq vt vr vm gl pp s) ∧ T.length = 10
section
variable {w : World} {g : Nat} {T : List Value} {vn vq vt vr vm : Value} {gl : Nat} {pp : Option Nat} {s : Sg}
theorem SgK.c (h : SgK w g T vn vq vt vr vm gl pp s) {u : Value} (i : Nat) (hu : (sgM vn vq vt vr vm gl pp s)[i]? = some u) : w.cell? ⟨g, 10 + i, none⟩ = some u := h.1.cell_ (10 + i) ((t10_get h.2 _ i).trans hu)
theorem snothing_any (h : SgK w g T vn vq vt vr vm gl pp s) : Calls prog 151 #[.pointer (some ⟨g, 0, none⟩)] w (Ret (.int .i64 (nothingS s)) w) := by
 have d1 := h.c 9 (u := .bool s.again) rfl
 have d2 := h.c 10 (u := .bool s.nodata) rfl
 clear h
 unfold nothingS
 cases ha : s.again with
 | true =>
  rw [ha] at d1
  clear d2 ha
  go_enter func151, ntmps151
  go_wp2_with fail
  go_ret
  exact Ret.mk rfl rfl
 | false =>
  rw [ha] at d1
  cases hn : s.nodata with
  | true =>
   rw [hn] at d2
   clear ha hn
   go_enter func151, ntmps151
   go_wp2_with fail
   go_ret
   exact Ret.mk rfl rfl
  | false =>
   rw [hn] at d2
   clear ha hn
   go_enter func151, ntmps151
   go_wp2_with fail
   go_ret
   exact Ret.mk rfl rfl
theorem sdone_any (h : SgK w g T vn vq vt vr vm gl pp s) : Calls prog 55 #[.pointer (some ⟨g, 0, none⟩)] w (Ret (.bool s.done) w) := by
 have d1 := h.c 13 (u := .bool s.done) rfl
 clear h
 generalize s.done = dn at *
 go_enter func55, ntmps55
 go_wp2_with fail
 go_ret
 exact Ret.mk rfl rfl
end
section
variable {w : World} {g : Nat} {T : List Value} {vn vq vt vr vm : Value} {gl : Nat} {pp : Option Nat} {s : Sg}
end
theorem own_emptyT (w : World) (B : Nat) (hB : B ≤ w.heap.size) (e : TypeId) (k : Nat) : (w.alloc (.cells #[] e)).ownsRow B e k (.slice (some ⟨w.heap.size, 0, none⟩) 0 0) 0 [] := by
 refine ⟨by simp, .inr ⟨w.heap.size, 0, #[], rfl, hB, heap_alloc_new w _, Nat.le_refl _, by simp [maxLen], by simp, by simp⟩⟩
theorem eq_nilOu (A : Option Addr) (n c : Nat) (w : World) : (binOp BinOp.eql 34 (.slice A n c) (.slice none 0 0)).run prog w = .ok (.bool A.isNone) w := by
 cases A <;> kernel_rfl
def OuCRet (o : List Ou) (w : World) (e : Ending) (w' : World) : Prop := ∃ v', e = .returned v' ∧ OusN w.heap.size w' v' o ∧ Below w.heap.size w w'
theorem ouclone_any {lo : Nat} {v : Value} {o : List Ou} (w : World) (h : OusN lo w v o) (hl : o.length ≤ 1000) : Calls prog 99 #[v] w (OuCRet o w) := by
 obtain ⟨A, c, rfl, hR, hlo⟩ := h.form
 cases A with
 | none =>
  have h0 : o = [] := by
   cases o with
   | nil => rfl
   | cons x l => obtain ⟨b, off, e, _⟩ := hR.2 (by simp); cases e
  subst h0
  have EN := eq_nilOu none 0 c
  clear h hR hlo
  go_enter func99, ntmps99
  go_wp2_with fail
  go_ret
  exact ⟨_, rfl, OusN.nil _ _, Below.refl _ _⟩
 | some ad =>
  have EN := eq_nilOu (some ad) o.length c
  have kb : Below w.heap.size w (w.alloc (.cells #[] 97)) := (Below.refl _ _).alloc (Nat.le_refl _) _
  have H0 : Hid (OusN w.heap.size (w.alloc (.cells #[] 97)) (.slice (some ⟨w.heap.size, 0, none⟩) 0 0) []) := Hh ⟨[], own_emptyT w _ (Nat.le_refl _) _ _, trivial⟩
  have HO := Hh (h.below kb)
  clear h hR hlo
  go_enter func99, ntmps99
  go_wp2_with (at_builtin; go_must (refine wpList_appOu _ rfl (.tmp 5) (.tmp 6) rfl rfl rfl H0.out HO.out kb.size (by simp; omega) ?_))
  intro v' w' ho hf
  have HB : Below w.heap.size w w' := by
   refine kb.trans ⟨hf.os, hf.tape, hf.output, hf.size, fun i hi => ?_⟩
   rcases hf.block i (Nat.lt_of_lt_of_le hi kb.size) with e | ⟨e, _⟩
   ·
    exact e
   ·
    simp [Value.ownBlock] at e; omega
  have HO' := Hh ho
  clear H0 HO ho hf kb
  go_wp2_with fail
  go_ret
  exact ⟨_, rfl, HO'.out, HB⟩
theorem each_rr : ∀ {w : World} {css : List (List Value)} {l : List RR}, Each (RRown w) css l → css.flatten.length = l.length * 33 ∧ ∀ u ∈ css.flatten, u.oneCell' = true
 | w, [], [], _ => ⟨rfl, by simp⟩
 | w, cs :: css, o :: l, h => by
  obtain ⟨h1, h2⟩ := each_rr h.2
  refine ⟨?_, fun u hu => ?_⟩
  ·
   simp only [List.flatten_cons, List.length_append, List.length_cons, h1, h.1.len]; omega
  ·
   rcases List.mem_append.1 hu with hu | hu
   ·
    exact h.1.one u hu
   ·
    exact h2 u hu
theorem each_rrS : ∀ {w w' : World} (k : Stays w w') {css : List (List Value)} {l : List RR}, Each (RRown w) css l → Each (RRown w') css l
 | w, w', k, [], [], _ => trivial
 | w, w', k, cs :: css, o :: l, h => ⟨h.1.stays k, each_rrS k h.2⟩
theorem eq_nilRR (A : Option Addr) (n c : Nat) (w : World) : (binOp BinOp.eql 48 (.slice A n c) (.slice none 0 0)).run prog w = .ok (.bool A.isNone) w := by
 cases A <;> kernel_rfl
def RRCRet (l : List RR) (w : World) (e : Ending) (w' : World) : Prop := ∃ v', e = .returned v' ∧ RRsOwn w' w.heap.size v' l ∧ Below w.heap.size w w'
theorem rrclone_any {v : Value} {l : List RR} (w : World) (h : RRsOwn w 0 v l) (hl : l.length ≤ 65535) : Calls prog 100 #[v] w (RRCRet l w) := by
 obtain ⟨A, c, rfl⟩ := LOwn.form h
 obtain ⟨css, hown, he⟩ := h
 obtain ⟨l1, n1⟩ := each_rr he
 cases A with
 | none =>
  have h0 : l = [] := by
   cases l with
   | nil => rfl
   | cons x l => obtain ⟨g, L, e, _⟩ := own_range hown (by simp) l1; cases e
  subst h0
  have EN := eq_nilRR none 0 c
  clear hown he l1 n1
  go_enter func100, ntmps100
  go_wp2_with fail
  go_ret
  exact ⟨_, rfl, RRsOwn.nil _ _, Below.refl _ _⟩
 | some ad =>
  have EN := eq_nilRR (some ad) l.length c
  have kb : Below w.heap.size w (w.alloc (.cells #[] 119)) := (Below.refl _ _).alloc (Nat.le_refl _) _
  have RG : Hid (0 < l.length → ∃ b off, some ad = some ⟨b, off, none⟩ ∧ (w.alloc (.cells #[] 119)).rangeAt b off css.flatten) := Hh (fun hp => by
   obtain ⟨g, L, hA, hb, hL, _⟩ := own_range (own_below hown kb) hp l1
   refine ⟨g, 0, hA, fun j v hv => ?_⟩
   rw [Nat.zero_add]
   refine hb.cell_ j ?_
   rw [← hL] at hv
   rw [List.getElem?_take] at hv
   split at hv
   ·
    exact hv
   ·
    cases hv)
  have HE := Hh he
  have L1 := Hh l1
  have N1 := Hh n1
  have H0 := Hh (own_emptyT w w.heap.size (Nat.le_refl _) 119 33)
  clear hown he l1 n1
  go_enter func100, ntmps100
  go_wp2_with (at_builtin; go_must (refine wpList_appR _ rfl (.tmp 5) (.tmp 6) rfl w.heap.size _ 0 [] rfl H0.out kb.size (some ad) l.length c css.flatten rfl RG.out L1.out N1.out (by omega) l.length (by omega) ?_))
  intro A' c' w' ho hg
  have HB : Below w.heap.size w w' := kb.grown hg kb.size (fun k hk => by simp [Value.ownBlock] at hk; omega)
  have HO := Hh ho
  clear RG H0 ho hg kb
  go_wp2_with fail
  go_ret
  exact ⟨_, rfl, ⟨css, HO.out, each_rrS (Stays.below HB) HE.out⟩, HB⟩
theorem LOwn.mono0 {α : Type} {w : World} {B : Nat} {e : TypeId} {k : Nat} {R : List Value → α → Prop} {v : Value} {l : List α} (h : LOwn w B e k R v l) : LOwn w 0 e k R v l := by
 obtain ⟨css, h1, h2⟩ := h
 exact ⟨css, own_zero h1, h2⟩
theorem resI4 : (prog.info? 115).map (·.size) = some 4 := by kernel_rfl
def ResRet (s : Sg) (vm : Value) (w : World) (e : Ending) (w' : World) : Prop := ∃ vr, e = .returned (.agg [.int .i64 (if s.done then s.vd else 0), vr, (if s.done then vm else nilS), .int .i64 (if s.done then s.ttl else 0)].toArray) ∧ RRsOwn w' 0 vr (if s.done then s.recs else []) ∧ Below w.heap.size w w'
section
variable {w : World} {g : Nat} {T : List Value} {vn vq vt vr vm : Value} {gl : Nat} {pp : Option Nat} {s : Sg}
theorem SgK.below {w' : World} (h : SgK w g T vn vq vt vr vm gl pp s) (k : Below w.heap.size w w') : SgK w' g T vn vq vt vr vm gl pp s := ⟨h.1.below k h.1.lt, h.2⟩
def resZ : List Value := [.int .i64 0, nilS, nilS, .int .i64 0]
theorem sresult_any (h : SgK w g T vn vq vt vr vm gl pp s) (hr : RRsOwn w 0 vr s.recs) (hl : s.recs.length ≤ 65535) (hvr : vr.oneCell' = true) (hvm : vm.oneCell' = true) : Calls prog 54 #[.pointer (some ⟨g, 0, none⟩)] w (ResRet s vm w) := by
 have k1 : Below w.heap.size w (w.alloc (.cells #[.int .i64 0, .slice none 0 0, .slice none 0 0, .int .i64 0] 115)) := (Below.refl _ _).alloc (Nat.le_refl _) _
 have h1 := h.below k1
 have d1 : (w.alloc (.cells #[.int .i64 0, .slice none 0 0, .slice none 0 0, .int .i64 0] 115)).cell? ⟨g, 23, none⟩ = some (.bool s.done) := h1.c 13 (u := .bool s.done) rfl
 have B1 : Blk (w.alloc (.cells #[.int .i64 0, .slice none 0 0, .slice none 0 0, .int .i64 0] 115)) w.heap.size 115 resZ := Blk.new w 115 resZ
 have hs1 : (w.alloc (.cells #[.int .i64 0, .slice none 0 0, .slice none 0 0, .int .i64 0] 115)).heap.size = w.heap.size + 1 := by simp
 cases hd : s.done with
 | false =>
  rw [hd] at d1
  have E := Hh (fun w3 (b : Below w.heap.size w w3) => (⟨nilS, by rw [hd]; rfl, by rw [hd]; exact RRsOwn.nil _ _, b⟩ : ResRet s vm w (.returned (.agg resZ.toArray)) w3))
  clear h h1 hr hl
  go_enter func54, ntmps54
  go_wp2_with (refine at_op (.store 115 (.tmp 2) (.tmp 13)) rfl ?_; go_must (refine wpList_stB rfl _ _ _ rfl w.heap.size 0 rfl resZ rfl B1 (Nat.le_refl 4) resI4 (by decide) ?_))
  intro w3 B3 g3 s3
  have H3 := below_grown k1 g3 k1.size (Nat.le_refl _)
  have B3' : Blk w3 w.heap.size 115 resZ := by simpa [resZ] using B3
  go_wp2_with fail
  refine ret_cell rfl w.heap.size rfl B3' _ underlying115 rfl resI4 rfl ?_
  exact E.out w3 H3
 | true =>
  rw [hd] at d1
  have k2 : Below w.heap.size w ((w.alloc (.cells #[.int .i64 0, .slice none 0 0, .slice none 0 0, .int .i64 0] 115)).alloc (.cells #[.int .i64 0, .slice none 0 0, .slice none 0 0, .int .i64 0] 115)) := k1.alloc k1.size _
  have B2 : Blk ((w.alloc (.cells #[.int .i64 0, .slice none 0 0, .slice none 0 0, .int .i64 0] 115)).alloc (.cells #[.int .i64 0, .slice none 0 0, .slice none 0 0, .int .i64 0] 115)) (w.heap.size + 1) 115 resZ := Blk.new' (w.alloc (.cells #[.int .i64 0, .slice none 0 0, .slice none 0 0, .int .i64 0] 115)) _ resZ _ (by simp)
  have hlen := sg_len h.2 vn vq vt vr vm gl pp s
  have LD := Hh h1.1
  have hcut : ((T ++ sgM vn vq vt vr vm gl pp s).drop 24).take 4 = [.int .i64 s.vd, vr, vm, .int .i64 s.ttl] := by
   rw [show (24 : Nat) = 10 + 14 from rfl, t10_drop h.2]; rfl
  have RC := Hh (fun W (b : Below w.heap.size w W) => rrclone_any W (hr.below b) hl)
  have E : Hid (∀ w3 v', Below w.heap.size w w3 → RRsOwn w3 0 v' s.recs → ResRet s vm w (.returned (.agg [.int .i64 s.vd, v', vm, .int .i64 s.ttl].toArray)) w3) := Hh (fun w3 v' b hv => ⟨v', by rw [hd]; rfl, by rw [hd]; exact hv, b⟩)
  have hone : ∀ v ∈ [Value.int .i64 s.vd, vr, vm, .int .i64 s.ttl], v.oneCell' = true := by
   intro v hv
   simp only [List.mem_cons, List.not_mem_nil, or_false] at hv
   rcases hv with rfl | rfl | rfl | rfl <;> first | rfl | assumption
  clear h h1 hr hl
  generalize T ++ sgM vn vq vt vr vm gl pp s = L at *
  generalize s.vd = vd at *
  generalize s.ttl = ttl at *
  go_enter func54, ntmps54
  go_wp2_with (first
   | (refine at_op (.load 115 (.tmp 16)) rfl ?_; go_must (refine wpList_ldB rfl _ _ rfl g 24 rfl LD.out 4 (by omega) _ underlying115 rfl resI4 [.int .i64 vd, vr, vm, .int .i64 ttl] hcut ?_))
   | (refine at_op (.store 115 (.tmp 3) (.tmp 17)) rfl ?_; go_must (refine wpList_stB rfl _ _ _ rfl (w.heap.size + 1) 0 rfl [.int .i64 vd, vr, vm, .int .i64 ttl] rfl B2 (Nat.le_refl 4) resI4 hone ?_)))
  intro w3 B3 g3 s3
  have B3' : Blk w3 (w.heap.size + 1) 115 [.int .i64 vd, vr, vm, .int .i64 ttl] := by simpa [resZ] using B3
  have H3 := below_grown k2 g3 k2.size (by omega)
  have B13 : Blk w3 w.heap.size 115 resZ := (Blk.alloc B1 _).grown g3 (by simp)
  have c1 := B3'.cell_ 1 (u := vr) rfl
  have RC3 := Hh (RC.out w3 H3)
  clear B3 g3 RC LD hcut d1 B1 B2 k1 k2 hs1
  go_wp2_with fail
  refine RC3.out.mono ?_
  rintro _ w4 ⟨v', rfl, hv, b4⟩
  have B4 := B3'.below b4 B3'.lt
  have B14 := B13.below b4 B13.lt
  have H4 := below_then H3 H3.size b4
  obtain ⟨A', c', hv'⟩ := LOwn.form hv
  subst hv'
  generalize s.recs.length = nr at *
  have ov : (Value.slice A' nr c').oneCell' = true := rfl
  have c4 := B4.cell_ 1 (u := vr) rfl
  have f4 := B4.frozen 1
  have B5 := B4.set 1 (.slice A' nr c')
  have B15 := B14.far (p := ⟨w.heap.size + 1, 1, none⟩) (by simp) (.slice A' nr c')
  have g5 : w4.grownBy (w4.setCell ⟨w.heap.size + 1, 1, none⟩ (.slice A' nr c')) (some (w.heap.size + 1)) := grown_set (World.grownBy.refl _ _) 1 (.slice A' nr c')
  have H5 := below_grown H4 g5 H4.size (by omega)
  have R5 := Hh (LOwn.mono0 (RRsOwn.blk hv g5 B4 (by decide) (by decide)))
  have hone' : ∀ v ∈ [Value.int .i64 vd, .slice A' nr c', vm, .int .i64 ttl], v.oneCell' = true := by
   intro v hv
   simp only [List.mem_cons, List.not_mem_nil, or_false] at hv
   rcases hv with rfl | rfl | rfl | rfl <;> first | rfl | assumption
  clear RC3 B3' B13 B4 B14 hv b4 H3 g5 c1
  go_wp2_with (first
   | (refine at_op (.load 115 (.tmp 3)) rfl ?_; go_must (refine wpList_ldB rfl _ _ rfl (w.heap.size + 1) 0 rfl B5 4 (by simp) _ underlying115 rfl resI4 [.int .i64 vd, .slice A' nr c', vm, .int .i64 ttl] rfl ?_))
   | (refine at_op (.store 115 (.tmp 2) (.tmp 22)) rfl ?_; go_must (refine wpList_stB rfl _ _ _ rfl w.heap.size 0 rfl [.int .i64 vd, .slice A' nr c', vm, .int .i64 ttl] rfl B15 (Nat.le_refl 4) resI4 hone' ?_)))
  intro w6 B6 g6 s6
  have B6' : Blk w6 w.heap.size 115 [.int .i64 vd, .slice A' nr c', vm, .int .i64 ttl] := by simpa [resZ] using B6
  have H6 := below_grown H5 g6 H5.size (Nat.le_refl _)
  have R6 := RRsOwn.blk R5.out g6 B15 (by decide) (by decide)
  go_wp2_with fail
  refine ret_cell rfl w.heap.size rfl B6' _ underlying115 rfl resI4 rfl ?_
  exact E.out w6 _ H6 R6
end
theorem leftP_all {α : Type} (p : α → Bool) : ∀ (l : List α) (n : Nat), (∀ x ∈ l, p x = true) → l.length ≤ n → leftP p l n = l := by
 intro l n h1 h2
 unfold leftP
 rw [List.filter_eq_self.2 h1, List.take_of_length_le h2]
theorem leftP_twice {α : Type} (p : α → Bool) (l : List α) (n : Nat) : leftP p (leftP p l n) n = leftP p l n := by
 refine leftP_all p _ n (fun x hx => ?_) ?_
 ·
  unfold leftP at hx
  exact (List.mem_filter.1 (List.mem_of_mem_take hx)).2
 ·
  unfold leftP
  rw [List.length_take]
  omega
theorem heldR_twice (r : Rs) : heldR (heldR r) = heldR r := by
 unfold heldR
 have h0 : leftP adOk [quadA 127 0 0 1] 3 = [quadA 127 0 0 1] := by decide
 simp only [leftP_twice]
 congr 1
 ·
  split
  ·
   rw [h0]; simp
  ·
   rename_i h; simp only [leftP_twice]; rw [if_neg h]
 all_goals omega
theorem ticks_held (r : Rs) : ticksR (heldR r) = ticksR r := by
 unfold ticksR mostR
 rw [heldR_twice, tries_len, tries_len, heldR_twice]
set_option maxRecDepth 100000
def TyS (w : World) (p : TypeId → Prop) (b i : Nat) : Prop := b ≤ i ∧ ∃ t L, Blk w i t L ∧ p t
theorem Fr.transT {a c d : World} {p : TypeId → Prop} {b : Nat} (h : Fr (TyS a p b) a c) (k : Fr (TyS c p b) c d) : Fr (TyS a p b) a d :=
 ⟨k.os.trans h.os, k.tape.trans h.tape, k.output.trans h.output, Nat.le_trans h.size k.size, fun i hi => by
  rcases h.block i hi with e | e
  ·
   rcases k.block i (Nat.lt_of_lt_of_le hi h.size) with e' | ⟨⟨hb, t, L, hB, hp⟩, t', cs, hb', ht⟩
   ·
    exact .inl (e'.trans e)
   ·
    exact .inr ⟨⟨hb, t, L, e.symm.trans hB, hp⟩, t', cs, e.symm.trans hb', ht⟩
  ·
   exact .inr e⟩
theorem Fr.monoT {a c : World} {p q : TypeId → Prop} {b : Nat} (h : Fr (TyS a p b) a c) (k : ∀ t, p t → q t) : Fr (TyS a q b) a c := h.mono (fun i ⟨h1, t, L, h2, h3⟩ => ⟨h1, t, L, h2, k t h3⟩)
theorem TyS.not {w : World} {p : TypeId → Prop} {b g : Nat} {t : TypeId} {L : List Value} (hb : Blk w g t L) (hp : ¬ p t) : ¬ TyS w p b g := by
 rintro ⟨_, t', L', h, h'⟩
 unfold Blk at h hb
 rw [hb] at h
 injection h with h
 injection h with _ e
 exact hp (e ▸ h')
theorem Fr.toBelowT {w0 w w' : World} {B b : Nat} {p : TypeId → Prop} (h : Fr (TyS w p b) w w') (hb : Below B w0 w) (h1 : B ≤ w.heap.size) (h2 : B ≤ b) : Below B w0 w' := h.toBelow hb h1 (fun i hi k => by have := k.1; omega)
def NmC (w : World) (cs : List Value) (n : List (List UInt8)) : Prop := ∃ v, cs = [v] ∧ NmL w v n
abbrev NmsC (w : World) (v : Value) (l : List (List (List UInt8))) : Prop := LOwn w 0 26 1 (NmC w) v l
theorem NmsC.fr {S : Nat → Prop} {w w' : World} {v : Value} {l : List (List (List UInt8))} (h : NmsC w v l) (k : Fr S w w') : NmsC w' v l :=
 h.stays (fun _ x => k.own x (by unfold StTy; decide)) (fun _ _ ⟨v, e, n⟩ => ⟨v, e, n.stays k.stays⟩)
theorem RRsOwn.fr {S : Nat → Prop} {w w' : World} {B : Nat} {v : Value} {l : List RR} (h : RRsOwn w B v l) (k : Fr S w w') : RRsOwn w' B v l :=
 h.stays (fun _ x => k.own x (by unfold StTy; decide)) (fun _ _ h => h.stays k.stays)
def TdI (cs : List Value) (_ : Unit) : Prop := cs.length = 18 ∧ ∀ u ∈ cs, u.oneCell' = true
def PresAt (w : World) (gl : Nat) (D : Option Nat) : Option Xc → Option Nat → Prop
 | none, none => True
 | some x, some gx => XchgAt w gx gl D x
 | _, _ => False
theorem XchgAt.dl {w : World} {g gl : Nat} {D : Option Nat} {x : Xc} (h : XchgAt w g gl D x) : ∀ i, D = some i → ∃ L, Blk w i 152 L := by
 intro i hi
 obtain ⟨_, vn, hs, eb, qs, _, h1, h2⟩ := h
 cases hd : x.done with
 | true => rw [h1 hd] at hi; cases hi
 | false =>
  obtain ⟨_, _, _, h3, h4⟩ := h2 hd
  by_cases hl : x.lg = 2
  ·
   obtain ⟨gd, e, h5⟩ := h4 hl
   rw [hi] at e
   injection e with e
   subst e
   exact h5.blkD
  ·
   rw [h3 hl] at hi; cases hi
theorem XchgAt.frT {w w' : World} {p : TypeId → Prop} {b g gl : Nat} {D : Option Nat} {x : Xc} (h : XchgAt w g gl D x) (k : Fr (TyS w p b) w w') (h1 : ¬ p 177) (h2 : ¬ p 152) : XchgAt w' g gl D x := by
 obtain ⟨L, hL⟩ := h.blk
 exact h.fr k (TyS.not hL h1) (fun i L _ hb => TyS.not hb h2)
theorem LotAt.frT {w w' : World} {p : TypeId → Prop} {b g : Nat} {L : Lt} (h : LotAt w g L) (k : Fr (TyS w p b) w w') (h1 : ¬ p 180) : LotAt w' g L := by
 obtain ⟨cs, hL⟩ := lot_blk h
 exact h.fr k (TyS.not hL h1)
theorem Fr.ownT {w w' : World} {p : TypeId → Prop} {b B : Nat} {e : TypeId} {s n : Nat} {v : Value} {xs : List Value} (h : Fr (TyS w p b) w w') (ho : w.ownsRow B e s v n xs) (he : ¬ p e) : w'.ownsRow B e s v n xs := by
 obtain ⟨h0, ho⟩ := ho
 refine ⟨h0, ?_⟩
 rcases ho with ho | ⟨g, cap, cur, hv, hB, hg, r⟩
 ·
  exact .inl ho
 ·
  exact .inr ⟨g, cap, cur, hv, hB, h.blk (g := g) (t := e) (cs := cur.toList) hg (TyS.not (L := cur.toList) hg he), r⟩
theorem OusN.frY {w w' : World} {p : TypeId → Prop} {b lo : Nat} {v : Value} {l : List Ou} (h : OusN lo w v l) (k : Fr (TyS w p b) w w') (he : ¬ p 97) : OusN lo w' v l := by
 obtain ⟨css, h1, h2⟩ := h
 exact ⟨css, k.ownT h1 he, h2⟩
theorem XS.ty {w : World} {g gl b : Nat} {D : Option Nat} {x : Xc} {L : Lt} {p : TypeId → Prop} (h : XchgAt w g gl D x) (hl : LotAt w gl L) (hg : b ≤ g) (hgl : b ≤ gl) (hD : ∀ i, D = some i → b ≤ i) (p1 : p 177) (p2 : p 180) (p3 : p 152) : ∀ i, XS g gl D i → TyS w p b i := by
 intro i hi
 rcases hi with rfl | rfl | hi
 ·
  obtain ⟨L, hL⟩ := h.blk; exact ⟨hg, _, _, hL, p1⟩
 ·
  obtain ⟨L, hL⟩ := lot_blk hl; exact ⟨hgl, _, _, hL, p2⟩
 ·
  obtain ⟨L, hL⟩ := h.dl i hi; exact ⟨hD i hi, _, _, hL, p3⟩
def XTy (t : TypeId) : Prop := t = 177 ∨ t = 180 ∨ t = 152
structure SgAt (w0 w : World) (b g gl : Nat) (D : Option Nat) (s : Sg) : Prop where
 c : ∃ T vn vq vt vr vm pp, SgK w g T vn vq vt vr vm gl pp s ∧ RsO w0 w T s.r ∧ NmsC w vn s.nms ∧ NmL w vq s.q.name ∧ LOwn w b 200 18 TdI vt (List.replicate s.told ()) ∧ RRsOwn w 0 vr s.recs ∧ Txts w vm s.nm ∧ PresAt w gl D s.pres pp ∧ ∀ i, pp = some i → b ≤ i
 ba : Below w0.heap.size w0 w
 wb : w0.heap.size ≤ b
 bg : b ≤ g
 bl : b ≤ gl
 bD : ∀ i, D = some i → b ≤ i
 rl : s.recs.length ≤ 65535
 rs : s.r.sv.length ≤ 100 ∧ s.r.se.length ≤ 100 ∧ s.r.so.length ≤ 100
theorem SgAt.frT {w0 w w' : World} {b g gl b' : Nat} {D : Option Nat} {s : Sg} {p : TypeId → Prop} (h : SgAt w0 w b g gl D s) (k : Fr (TyS w p b') w w') (hb : b ≤ b') (hlt : b ≤ w.heap.size) (h1 : ¬ p 177) (h2 : ¬ p 152) (h3 : ¬ p 185) (h4 : ¬ p 200) : SgAt w0 w' b g gl D s := by
 obtain ⟨⟨T, vn, vq, vt, vr, vm, pp, a1, a2, a3, a4, a5, a6, a7, a8, a9⟩, h5, h6, h7, h8, h9, h10, h11⟩ := h
 refine ⟨⟨T, vn, vq, vt, vr, vm, pp, ⟨k.blk a1.1 (TyS.not a1.1 h3), a1.2⟩, a2.fr k, a3.fr k, a4.stays k.stays, a5.stays (fun _ x => k.ownT x h4) (fun _ _ x => x), a6.fr k, k.stays _ _ a7, ?_, a9⟩, k.toBelowT h5 h5.size (by omega), h6, h7, h8, h9, h10, h11⟩
 cases hx : s.pres <;> cases hp : pp <;> rw [hx, hp] at a8
 ·
  trivial
 ·
  exact a8
 ·
  exact a8
 ·
  exact XchgAt.frT a8 k h1 h2
theorem SgAt.below {w0 w w' : World} {b g gl : Nat} {D : Option Nat} {s : Sg} (h : SgAt w0 w b g gl D s) (hlt : b ≤ w.heap.size) (k : Below w.heap.size w w') : SgAt w0 w' b g gl D s :=
 h.frT (p := fun _ => False) (b' := b) (Fr.below k) (Nat.le_refl _) hlt id id id id
theorem LOwn.appFrT {α : Type} {R : List Value → α → Prop} {w w' : World} {b : Nat} {e : TypeId} {k : Nat} {v : Value} {l : List α} {p : TypeId → Prop} (h : LOwn w b e k R v l) (hg : w.grownBy w' v.ownBlock) (he : StTy e) (hp : p e) : Fr (TyS w p b) w w' := by
 obtain ⟨css, h1, _⟩ := h
 rcases h1.2 with ⟨hv, _⟩ | ⟨g', cap, cur, hv, hB, hb, _⟩
 ·
  subst hv
  exact ⟨hg.os, hg.tape, hg.output, hg.size, fun i hi => .inl (hg.block i hi (by intro h; cases h))⟩
 ·
  subst hv
  exact Fr.grown (g := g') (cs := cur.toList) hg hb he ⟨hB, _, cur.toList, hb, hp⟩
def LvTy (t : TypeId) : Prop := t = 185 ∨ t = 200
theorem tdInfo3 : (prog.info? 200).map (fun i => (i.zero, i.size, i.bytes)) = some (some (.agg (qC nilS ⟨[], 0, 0⟩ ++ (Value.int .i64 0 :: msgZ)).toArray), 18, 184) := by kernel_rfl
theorem ocI15 : (prog.info? 92).map (·.size) = some 15 := by kernel_rfl
theorem slI18 : (prog.info? 183).map (·.size) = some 1 := by kernel_rfl
theorem td_bI (a b c o0 o1 o2 o3 o4 o5 o6 o7 o8 o9 o10 o11 o12 o13 o14 : Value) (W : World) : (Instr.build 200 #[(0, .agg #[a, b, c]), (1, .agg [o0, o1, o2, o3, o4, o5, o6, o7, o8, o9, o10, o11, o12, o13, o14].toArray)]).run prog W = .ok (.agg (a :: b :: c :: [o0, o1, o2, o3, o4, o5, o6, o7, o8, o9, o10, o11, o12, o13, o14]).toArray) W := by kernel_rfl
theorem td_build (a b c : Value) (O : List Value) (h : O.length = 15) (W : World) : (Instr.build 200 #[(0, .agg #[a, b, c]), (1, .agg O.toArray)]).run prog W = .ok (.agg (a :: b :: c :: O).toArray) W := by
 match O, h with
 | [o0, o1, o2, o3, o4, o5, o6, o7, o8, o9, o10, o11, o12, o13, o14], _ => exact td_bI ..
theorem res_b1 (n : Int) (W : World) : (Instr.build 115 #[(0, .int .i64 n)]).run prog W = .ok (.agg [Value.int .i64 n, nilS, nilS, .int .i64 0].toArray) W := by kernel_rfl
theorem res_b4 (n t : Int) (A B : Option Addr) (a c b d : Nat) (W : World) : (Instr.build 115 #[(0, .int .i64 n), (1, .slice A a c), (2, .slice B b d), (3, .int .i64 t)]).run prog W = .ok (.agg [Value.int .i64 n, .slice A a c, .slice B b d, .int .i64 t].toArray) W := by kernel_rfl
theorem opw_stB {P : Program} {ops : Array Oper} {Q : Exit → Act → World → Prop} {K : Act → World → Prop} {o : Oper} {a : Act} {w : World} (i : Nat) (ty : TypeId) (x y : Operand) (hi : ops[i]? = some o) (hd : o.dst = none) (ho : o.op = .store ty x y) (hw : Region.wanted o (yielded ops a.tmps) = true)
  (g off : Nat) (hx : a.eval x = .pointer (some ⟨g, off, none⟩)) (sub : List Value) (hy : a.eval y = .agg sub.toArray) {t : TypeId} {L : List Value} (hb : Blk w g t L) (hn : off + sub.length ≤ L.length) (hinf : (P.info? ty).map (·.size) = some sub.length) (h1 : ∀ v ∈ sub, v.oneCell' = true)
  (h : ∀ w', Blk w' g t (L.take off ++ sub ++ L.drop (off + sub.length)) → w.grownBy w' (some g) → w'.heap.size = w.heap.size → K (a.put none undef) w') : wpOp P ops Q i K a w := by
 have hst := run_stB (P := P) hb hn hinf h1
 refine opw_skip i none hi hd hw (w' := w.setCells g off sub) ?_ (h _ (Blk.setCells (w := w) sub L off hb hn) (setCells_grown sub (World.grownBy.refl _ _)) (setCells_size sub w g off))
 unfold execOp
 simp only [ho, hx, hy, Sem.run_bind, hst, Result.andThen_ok, Sem.run_pure]
section
variable {w : World} {g : Nat} {T : List Value} {vn vq vt vr vm : Value} {gl : Nat} {pp : Option Nat} {s : Sg}
theorem SgK.qcut (h : SgK w g T vn vq vt vr vm gl pp s) : ((T ++ sgM vn vq vt vr vm gl pp s).drop 16).take 3 = [vq, .int .i64 s.q.ty, .int .i64 s.q.cl] := by
 rw [show (16 : Nat) = 10 + 6 from rfl, t10_drop h.2]; rfl
theorem sg_put (hT : T.length = 10) {w' : World} (i : Nat) {v : Value} {M : List Value} (hb : Blk w' g 185 ((T ++ sgM vn vq vt vr vm gl pp s).set (10 + i) v)) (hM : (sgM vn vq vt vr vm gl pp s).set i v = M) : Blk w' g 185 (T ++ M) := by
 rw [t10_set hT, hM] at hb; exact hb
theorem sg_puts (hT : T.length = 10) {w' : World} (i : Nat) {qs M : List Value} (hb : Blk w' g 185 ((T ++ sgM vn vq vt vr vm gl pp s).take (10 + i) ++ qs ++ (T ++ sgM vn vq vt vr vm gl pp s).drop (10 + i + qs.length))) (hM : (sgM vn vq vt vr vm gl pp s).take i ++ qs ++ (sgM vn vq vt vr vm gl pp s).drop (i + qs.length) = M) : Blk w' g 185 (T ++ M) := by
 rw [t10_put hT, hM] at hb; exact hb
theorem sg_put24 (hT : T.length = 10) (a b c : Value) (n t : Int) {L : List Value} (hL : Hid (T ++ sgM vn vq vt vr vm gl pp s = L)) : L.take 24 ++ [.int .i64 n, a, b, .int .i64 t] ++ L.drop 28 = T ++ sgM vn vq vt a b gl pp { s with vd := n, ttl := t } := by
 rw [← hL.out]
 exact t10_put hT _ [.int .i64 n, a, b, .int .i64 t] 14
end
def LvRet (w0 : World) (b g gl : Nat) (s' : Sg) (w : World) (e : Ending) (w' : World) : Prop := e = .returned (.bool s'.done) ∧ SgAt w0 w' b g gl none s' ∧ Fr (TyS w LvTy b) w w'
set_option maxHeartbeats 2000000 in
theorem leave_any (w0 : World) (b g gl : Nat) (D : Option Nat) (s : Sg) (x : Xc) (w : World) (h : SgAt w0 w b g gl D s) (hp : s.pres = some x) (hvd : x.vd = 1 → ∃ f, followQ s.q x.msg.an 16 0 s.q.name none = .ok f) (hs : s.done = false) (hsn : s.sent + x.sent ≤ 1000000) (htd : s.told ≤ 1000) (hbw : b ≤ w.heap.size) :
  Calls prog 150 #[.pointer (some ⟨g, 0, none⟩)] w (LvRet w0 b g gl (leaveS s x) w) := by
 obtain ⟨⟨T, vn, vq, vt, vr, vm, pp, a1, a2, a3, a4, a5, a6, a7, a8, a9⟩, h5, h6, h7, h8, h9, h10, h11⟩ := h
 rw [hp] at a8
 cases pp with
 | none => exact a8.elim
 | some gx =>
 have a8 : XchgAt w gx gl D x := a8
 have hT10 := a1.2
 have hglt := a1.1.lt
 have OC := Hh (outcome_any gx gl D x w a8)
 have XSN := Hh (fun V (F : Fr (TyS w LvTy b) w V) => xsent_any (a8.frT F (by unfold LvTy; decide) (by unfold LvTy; decide)))
 obtain ⟨Aq, cq, hvq, hNq⟩ := a4.form
 have hqn := a4.2.1
 have FIN : Hid (∀ V vt' vr' vm' s', Fr (TyS w LvTy b) w V → SgK V g T vn vq vt' vr' vm' gl none s' → s'.r = s.r → s'.nms = s.nms → s'.q = s.q → s'.pres = none → LOwn V b 200 18 TdI vt' (List.replicate s'.told ()) → RRsOwn V 0 vr' s'.recs → Txts V vm' s'.nm → s'.recs.length ≤ 65535 → LvRet w0 b g gl s' w (.returned (.bool s'.done)) V) := Hh (fun V vt' vr' vm' s' F K e1 e2 e3 e4 k1 k2 k3 k4 => by
  refine ⟨rfl, ⟨⟨T, vn, vq, vt', vr', vm', none, K, by rw [e1]; exact a2.fr F, by rw [e2]; exact a3.fr F, by rw [e3]; exact a4.stays F.stays, k1, k2, k3, by rw [e4]; trivial, by simp⟩, F.toBelowT h5 h5.size (by omega), h6, h7, h8, by simp, k4, by rw [e1]; exact h11⟩, F⟩)
 have RK := Hh (fun V (F : Fr (TyS w LvTy b) w V) => And.intro (a6.fr F) (F.stays _ _ a7))
 have FOL := Hh (fun (Al : Option Addr) (cA : Nat) (l : List RR) V (F : Fr (TyS w LvTy b) w V) (hR : RRsOwn V 0 (.slice Al l.length cA) l) (hl : l.length ≤ 65535) => show Calls prog 157 #[.agg #[vq, .int .i64 s.q.ty, .int .i64 s.q.cl], .slice Al l.length cA] V (FolRet (followQ s.q l 16 0 s.q.name none) V) by
  obtain ⟨A', c', e, hN'⟩ := (a4.stays F.stays).form
  rw [hvq] at e
  injection e with e1 _ e2
  subst e1 e2
  rw [hvq]
  exact follow_any s.q Aq Al cq cA l V hN' hqn hR hl)
 obtain ⟨s', hs'⟩ : ∃ s', Hid (leaveS s x = s') := ⟨_, Hh rfl⟩
 rw [hs'.out]
 have d15 : w.cell? ⟨g, 15, none⟩ = some (.pointer (some ⟨gx, 0, none⟩)) := a1.c 5 rfl
 have HK := Hh a1
 have HO5 := Hh a5
 have hbg := h7
 have HRL := Hh h10
 clear hs
 unfold OcRet at OC
 clear a1 a2 a3 a4 a5 a6 a7 a8 h5 h6 h7 h8 h9 h10 h11
 obtain ⟨vd, hvd'⟩ : ∃ vd, x.vd = vd := ⟨_, rfl⟩
 rw [hvd'] at OC hvd
 obtain ⟨xs, hxs⟩ : ∃ xs, x.sent = xs := ⟨_, rfl⟩
 rw [hxs] at XSN hsn
 have HVD := Hh hvd
 clear hvd
 go_enter func150, ntmps150
 go_wp2_with fail
 refine OC.out.mono ?_
 rintro _ w1 ⟨ds, rfl, hM, b1⟩
 have hml := hM.len
 have hm1 := hM.one
 obtain ⟨O, hO⟩ : ∃ O, Value.int .i64 vd :: ds = O := ⟨_, rfl⟩
 have hOl : O.length = 15 := by rw [← hO]; simp [hml]
 have hO1 : ∀ v ∈ O, v.oneCell' = true := by
  rw [← hO]
  intro v hv
  rcases List.mem_cons.1 hv with rfl | hv
  ·
   rfl
  ·
   exact hm1 v hv
 have hO0 : O[0]? = some (.int .i64 vd) := by rw [← hO]; rfl
 obtain ⟨_, va, _, _, hds, _, hA, _, _, _, hAl, _⟩ := hM
 have hO12 : O[12]? = some va := by rw [← hO, hds]; rfl
 rw [hO]
 have Z := Blk.new w1 92 (Value.int .i64 0 :: msgZ)
 have HZ : Below w1.heap.size w1 (w1.alloc (.cells (Value.int .i64 0 :: msgZ).toArray 92)) := (Below.refl _ _).alloc (Nat.le_refl _) _
 clear hO hds hml hm1
 go_wp2_with (refine at_op (.store 92 (.tmp 3) (.tmp 10)) rfl ?_; go_must (refine wpList_stB rfl _ _ _ rfl w1.heap.size 0 rfl O rfl Z (by rw [hOl]; decide) (by rw [hOl]; exact ocI15) hO1 ?_))
 intro w2 B2 g2 sw
 clear sw
 have C2 : Blk w2 w1.heap.size 92 O := blkAll B2 (Nat.le_of_eq msgZ_len)
 have K2 := below_grown HZ g2 HZ.size (Nat.le_refl _)
 have H2 : Below w.heap.size w w2 := below_then b1 b1.size K2
 have hA2 : RRsOwn w2 0 va x.msg.an := RRsOwn.below hA K2
 have hog : w1.heap.size ≠ g := by have := b1.size; omega
 have hogw : w.heap.size ≤ w1.heap.size := b1.size
 have K0 := HK.out.below H2
 have O2 := LOwn.below (R' := TdI) HO5.out H2 (fun _ _ h => h)
 have hw2 : w.heap.size ≤ w2.heap.size := H2.size
 generalize w1.heap.size = go at *
 clear Z HZ B2 g2 K2 hA HK HO5 d15 b1 OC
 have B2 := K0.1
 have hcut := K0.qcut
 have LQ : Hid (∀ V L, Blk V g 185 L → L.length = 28 → (L.drop 16).take 3 = [vq, .int .i64 s.q.ty, .int .i64 s.q.cl] → (Instr.loadAt 28 (.pointer (some ⟨g, 16, none⟩))).run prog V = .ok (.agg #[vq, .int .i64 s.q.ty, .int .i64 s.q.cl]) V) := Hh (fun V L hV hl hc => hV.loads 28 16 3 (by omega) _ underlying28 rfl qInfo _ hc)
 have LQu : Hid (∀ V u p s1, s1.q = s.q → Blk V g 185 (T ++ sgM vn vq u vr vm gl p s1) → (Instr.loadAt 28 (.pointer (some ⟨g, 16, none⟩))).run prog V = .ok (.agg #[vq, .int .i64 s.q.ty, .int .i64 s.q.cl]) V) := Hh (fun V u p s1 he hV => LQ.out V _ hV (sg_len hT10 ..) (by rw [← he]; exact SgK.qcut ⟨hV, hT10⟩))
 have LO : Hid (∀ V, Blk V go 92 O → (Instr.loadAt 92 (.pointer (some ⟨go, 0, none⟩))).run prog V = .ok (.agg O.toArray) V) := Hh (fun V hV => hV.loads 92 0 15 (by omega) _ underlying92 rfl ocI15 _ (tk0 (by omega)))
 obtain ⟨qt, hqt⟩ : ∃ qt, s.q.ty = qt := ⟨_, rfl⟩
 obtain ⟨ql, hql⟩ : ∃ ql, s.q.cl = ql := ⟨_, rfl⟩
 rw [hqt, hql] at LQu
 have TB := Hh (fun V => td_build vq (.int .i64 qt) (.int .i64 ql) O hOl V)
 obtain ⟨TD, hTD⟩ : ∃ TD, vq :: .int .i64 qt :: .int .i64 ql :: O = TD := ⟨_, rfl⟩
 have hTl : TD.length = 18 := by rw [← hTD]; simp [hOl]
 have hT1 : ∀ u ∈ TD, u.oneCell' = true := by
  rw [← hTD, hvq]
  intro v hv
  simp only [List.mem_cons] at hv
  rcases hv with rfl | rfl | rfl | hv
  ·
   rfl
  ·
   rfl
  ·
   rfl
  ·
   exact hO1 v hv
 rw [hTD] at TB
 have RBS := Hh (fun V => run_bsG (P := prog) V 183 200 _ 18 184 underlying183 tdInfo3 (by decide) (by decide) TD hTl)
 clear hTD LQ hcut
 go_upto_region 3 with fail
 go_cut [] (fun wx => ∃ u, Blk wx g 185 (T ++ sgM vn vq u vr vm gl (some gx) { s with told := s.told + 1 }) ∧ Blk wx go 92 O ∧ LOwn wx b 200 18 TdI u (List.replicate (s.told + 1) ()) ∧ Fr (TyS w2 LvTy b) w2 wx)
 case first =>
  have Bd := B2.drew
  have Cd := C2.drew
  have kd : Below w2.heap.size w2 w2.drew := (Below.refl _ _).drew
  have Od := LOwn.below (R' := TdI) O2 kd (fun _ _ h => h)
  have LD : Hid ((Instr.loadAt 183 (.pointer (some ⟨g, 21, none⟩))).run prog w2.drew = .ok vt w2.drew) := Hh (run_load1 underlying183 rfl (SgK.c ⟨Bd, hT10⟩ 11 rfl))
  have kz : Below w2.drew.heap.size w2.drew (w2.drew.alloc (.cells TD.toArray 200)) := (Below.refl _ _).alloc (Nat.le_refl _) _
  have B5 := Bd.alloc (.cells TD.toArray 200)
  have C5 := Cd.alloc (.cells TD.toArray 200)
  have O5 := LOwn.below (R' := TdI) Od kz (fun _ _ h => h)
  have Bz := Blk.new w2.drew 200 TD
  have F5 : Fr (TyS w2 LvTy b) w2 (w2.drew.alloc (.cells TD.toArray 200)) := Fr.transT (Fr.below kd) (Fr.below kz)
  have hwz : w2.heap.size ≤ (w2.drew.alloc (.cells TD.toArray 200)).heap.size := F5.size
  have LD5 : Hid ((Instr.loadAt 183 (.pointer (some ⟨g, 21, none⟩))).run prog (w2.drew.alloc (.cells TD.toArray 200)) = .ok vt (w2.drew.alloc (.cells TD.toArray 200))) := Hh (run_load1 underlying183 rfl (SgK.c ⟨B5, hT10⟩ 11 rfl))
  have RB1 := Hh (RBS.out w2.drew)
  obtain ⟨wz, hwz'⟩ : ∃ wz, wz = w2.drew.alloc (.cells TD.toArray 200) := ⟨_, rfl⟩
  obtain ⟨gz, hgz⟩ : ∃ gz, gz = w2.drew.heap.size := ⟨_, rfl⟩
  rw [← hwz', ← hgz] at RB1 Bz
  rw [← hwz'] at B5 C5 O5 F5 hwz LD5
  refine wp_region_held_drew (S := fun V => (∃ u, Blk V g 185 (T ++ sgM vn vq u vr vm gl (some gx) s)) ∧ Blk V go 92 O) (by kernel_rfl) ⟨⟨_, Bd⟩, Cd⟩ (fun hS => ?_)
  refine held_seq hS 10 [0, 1, 2, 3, 5, 6, 7, 8, 9, 10] rfl (by kernel_rfl) (fun _ _ _ _ _ h => h) rfl rfl ?_
  (refine ⟨_, (.pointer (some ⟨g, 0, none⟩)), rfl, .inl ⟨rfl, fun V hV => rfl⟩, ?_⟩; simp only [Act.put, lsA, lsB, lsC])
  (refine ⟨_, (.pointer (some ⟨g, 0, none⟩)), rfl, .inl ⟨rfl, fun V hV => rfl⟩, ?_⟩; simp only [Act.put, lsA, lsB, lsC])
  (refine ⟨_, (.pointer (some ⟨g, 0, none⟩)), rfl, .inl ⟨rfl, fun V hV => rfl⟩, ?_⟩; simp only [Act.put, lsA, lsB, lsC])
  (refine ⟨_, (.pointer (some ⟨g, 21, none⟩)), rfl, .inl ⟨rfl, fun V hV => rfl⟩, ?_⟩; simp only [Act.put, lsA, lsB, lsC])
  (refine ⟨_, (.pointer (some ⟨g, 0, none⟩)), rfl, .inl ⟨rfl, fun V hV => rfl⟩, ?_⟩; simp only [Act.put, lsA, lsB, lsC])
  (refine ⟨_, (.pointer (some ⟨g, 0, none⟩)), rfl, .inl ⟨rfl, fun V hV => rfl⟩, ?_⟩; simp only [Act.put, lsA, lsB, lsC])
  (refine ⟨_, (.pointer (some ⟨g, 16, none⟩)), rfl, .inl ⟨rfl, fun V hV => rfl⟩, ?_⟩; simp only [Act.put, lsA, lsB, lsC])
  (refine ⟨_, _, rfl, .inl ⟨rfl, fun V hV => (exec_ld 28 (.tmp 18) ⟨g, 16, none⟩ rfl rfl (by obtain ⟨u, hu⟩ := hV.1; exact LQu.out V u _ s rfl hu))⟩, ?_⟩; simp only [Act.put, lsA, lsB, lsC])
  (refine ⟨_, _, rfl, .inl ⟨rfl, fun V hV => (exec_ld 92 (.tmp 3) ⟨go, 0, none⟩ rfl rfl (LO.out V hV.2))⟩, ?_⟩; simp only [Act.put, lsA, lsB, lsC])
  (refine ⟨_, (.agg TD.toArray), rfl, .inl ⟨rfl, fun V hV => (exec_bldH 200 _ rfl #[(0, .agg #[vq, .int .i64 qt, .int .i64 ql]), (1, .agg O.toArray)] (by kernel_rfl) (TB.out V))⟩, ?_⟩; simp only [Act.put, lsA, lsB, lsC])
  simp only [SeqC]
  refine ord_two 4 11 (by kernel_rfl) ?_ ?_
  ·
   refine opw_ld 4 (some 15) 183 (.tmp 14) ⟨g, 21, none⟩ rfl rfl rfl rfl (by kernel_rfl) LD.out ?_
   refine ⟨hS, ?_⟩
   simp only [Act.put, lsA, lsB, lsC]
   refine ord_one 11 (by kernel_rfl) ?_
   refine opw_run 11 (some 22) rfl rfl (by kernel_rfl) (exec_bsG (.tmp 21) rfl rfl RB1.out) ?_
   refine ⟨⟨⟨_, B5⟩, C5⟩, ?_⟩
   simp only [Act.put, lsA, lsB, lsC]
   obtain ⟨v', wb, hr, O6, g6⟩ := run_appL (P := prog) wz 183 183 200 _ 18 184 underlying183 tdInfo3 (by kernel_rfl) (by decide) b vt (List.replicate s.told ()) O5 (by omega) gz TD () Bz hTl hT1 ⟨hTl, hT1⟩ (by simp only [maxLen, List.length_replicate]; omega) (by rw [List.length_replicate]; omega)
   rw [← List.replicate_succ'] at O6
   obtain ⟨Av', cv', hv'⟩ := O6.form
   rw [List.length_replicate] at hv'
   subst hv'
   have B6 := O5.keep B5 (by decide) g6
   have C6 := O5.keep C5 (by decide) g6
   have F6 := Fr.transT F5 (O5.appFrT (p := LvTy) g6 (by unfold StTy; decide) (.inr rfl))
   have hw6 : wz.heap.size ≤ wb.heap.size := g6.size
   refine ord_one 12 (by kernel_rfl) ?_
   refine opw_run 12 (some 23) rfl rfl (by kernel_rfl) (exec_apG (.tmp 15) (.tmp 22) rfl rfl rfl rfl hr) ?_
   refine ⟨⟨⟨_, B6⟩, C6⟩, ?_⟩
   clear hS
   simp only [Act.put, lsA, lsB, lsC]
   have hS : (∃ u, Blk wb g 185 (T ++ sgM vn vq u vr vm gl (some gx) s)) ∧ Blk wb go 92 O := ⟨⟨vt, B6⟩, C6⟩
   refine held_seq hS 2 [13, 14] rfl (by kernel_rfl) (fun _ _ _ _ _ h => h) rfl rfl ?_
   (refine ⟨_, (.pointer (some ⟨g, 0, none⟩)), rfl, .inl ⟨rfl, fun V hV => rfl⟩, ?_⟩; simp only [Act.put, lsA, lsB, lsC])
   (refine ⟨_, (.pointer (some ⟨g, 21, none⟩)), rfl, .inl ⟨rfl, fun V hV => rfl⟩, ?_⟩; simp only [Act.put, lsA, lsB, lsC])
   simp only [SeqC]
   refine ord_one 15 (by kernel_rfl) ?_
   refine opw_stC 15 183 (.tmp 25) (.tmp 23) rfl rfl rfl (by kernel_rfl) g 21 rfl (.slice Av' (s.told + 1) cv') rfl B6 (by rw [sg_len hT10]; omega) slI18 rfl rfl ?_
   intro w7 B7 g7 _
   have B7' := sg_put hT10 11 B7 rfl
   have C7 := C6.grown g7 (by simpa using hog)
   have O7 := O6.blk g7 B6 (by decide)
   have F7 := Fr.transT F6 (Fr.grown g7 B6 (by unfold StTy; decide) ⟨hbg, _, _, B6, .inl rfl⟩)
   refine ⟨⟨⟨_, B7'⟩, C7⟩, ?_⟩
   simp only [Act.put, lsA, lsB, lsC]
   refine wpAnyH_done (by kernel_rfl) ?_ _
   go_wp2_with fail
   go_meet
   case rel => exact ⟨_, B7', C7, O7, F7⟩
  ·
   refine opw_run 11 (some 22) rfl rfl (by kernel_rfl) (exec_bsG (.tmp 21) rfl rfl RB1.out) ?_
   refine ⟨⟨⟨_, B5⟩, C5⟩, ?_⟩
   simp only [Act.put, lsA, lsB, lsC]
   refine ord_one 4 (by kernel_rfl) ?_
   refine opw_ld 4 (some 15) 183 (.tmp 14) ⟨g, 21, none⟩ rfl rfl rfl rfl (by kernel_rfl) LD5.out ?_
   refine ⟨⟨⟨_, B5⟩, C5⟩, ?_⟩
   simp only [Act.put, lsA, lsB, lsC]
   obtain ⟨v', wb, hr, O6, g6⟩ := run_appL (P := prog) wz 183 183 200 _ 18 184 underlying183 tdInfo3 (by kernel_rfl) (by decide) b vt (List.replicate s.told ()) O5 (by omega) gz TD () Bz hTl hT1 ⟨hTl, hT1⟩ (by simp only [maxLen, List.length_replicate]; omega) (by rw [List.length_replicate]; omega)
   rw [← List.replicate_succ'] at O6
   obtain ⟨Av', cv', hv'⟩ := O6.form
   rw [List.length_replicate] at hv'
   subst hv'
   have B6 := O5.keep B5 (by decide) g6
   have C6 := O5.keep C5 (by decide) g6
   have F6 := Fr.transT F5 (O5.appFrT (p := LvTy) g6 (by unfold StTy; decide) (.inr rfl))
   have hw6 : wz.heap.size ≤ wb.heap.size := g6.size
   refine ord_one 12 (by kernel_rfl) ?_
   refine opw_run 12 (some 23) rfl rfl (by kernel_rfl) (exec_apG (.tmp 15) (.tmp 22) rfl rfl rfl rfl hr) ?_
   refine ⟨⟨⟨_, B6⟩, C6⟩, ?_⟩
   clear hS
   simp only [Act.put, lsA, lsB, lsC]
   have hS : (∃ u, Blk wb g 185 (T ++ sgM vn vq u vr vm gl (some gx) s)) ∧ Blk wb go 92 O := ⟨⟨vt, B6⟩, C6⟩
   refine held_seq hS 2 [13, 14] rfl (by kernel_rfl) (fun _ _ _ _ _ h => h) rfl rfl ?_
   (refine ⟨_, (.pointer (some ⟨g, 0, none⟩)), rfl, .inl ⟨rfl, fun V hV => rfl⟩, ?_⟩; simp only [Act.put, lsA, lsB, lsC])
   (refine ⟨_, (.pointer (some ⟨g, 21, none⟩)), rfl, .inl ⟨rfl, fun V hV => rfl⟩, ?_⟩; simp only [Act.put, lsA, lsB, lsC])
   simp only [SeqC]
   refine ord_one 15 (by kernel_rfl) ?_
   refine opw_stC 15 183 (.tmp 25) (.tmp 23) rfl rfl rfl (by kernel_rfl) g 21 rfl (.slice Av' (s.told + 1) cv') rfl B6 (by rw [sg_len hT10]; omega) slI18 rfl rfl ?_
   intro w7 B7 g7 _
   have B7' := sg_put hT10 11 B7 rfl
   have C7 := C6.grown g7 (by simpa using hog)
   have O7 := O6.blk g7 B6 (by decide)
   have F7 := Fr.transT F6 (Fr.grown g7 B6 (by unfold StTy; decide) ⟨hbg, _, _, B6, .inl rfl⟩)
   refine ⟨⟨⟨_, B7'⟩, C7⟩, ?_⟩
   simp only [Act.put, lsA, lsB, lsC]
   refine wpAnyH_done (by kernel_rfl) ?_ _
   go_wp2_with fail
   go_meet
   case rel => exact ⟨_, B7', C7, O7, F7⟩
 obtain ⟨vt3, B3, C3, O3, F3⟩ := hcut
 obtain ⟨w3, rfl⟩ : ∃ w3, w3 = wc := ⟨_, rfl⟩
 clear RBS TB LO B2 C2 O2
 obtain ⟨ss, hss⟩ : ∃ ss, s.sent = ss := ⟨_, rfl⟩
 rw [hss] at hsn
 have d22 : Hid (∀ V M, Blk V g 185 (T ++ M) → M[12]? = some (.int .i64 ss) → (Instr.loadAt 3 (.pointer (some ⟨g, 22, none⟩))).run prog V = .ok (.int .i64 ss) V) := Hh (fun V M hV hM => run_load1 underlying3 rfl (hV.cell_ 22 ((t10_get hT10 _ 12).trans hM)))
 go_upto_region 4 with fail
 go_cut [] (fun wx => Blk wx g 185 (T ++ sgM vn vq vt3 vr vm gl (some gx) { s with sent := ss + xs }) ∧ Blk wx go 92 O ∧ LOwn wx b 200 18 TdI vt3 (List.replicate (s.told + 1) ()) ∧ Fr (TyS w2 LvTy b) w2 wx)
 case first =>
  have kd : Below w3.heap.size w3 w3.drew := (Below.refl _ _).drew
  have B3d := B3.drew
  have C3d := C3.drew
  have O3d := LOwn.below (R' := TdI) O3 kd (fun _ _ h => h)
  have F3d : Fr (TyS w2 LvTy b) w2 w3.drew := Fr.transT F3 (Fr.below kd)
  have LS := Hh (d22.out w3.drew _ B3d (by rw [← hss]; rfl))
  have XS1 := Hh (XSN.out _ (Fr.transT (Fr.below H2) F3d))
  obtain ⟨wd, hwd⟩ : ∃ wd, w3.drew = wd := ⟨_, rfl⟩
  rw [hwd] at B3d C3d O3d F3d LS XS1
  have LP : Hid (∀ V M, Blk V g 185 (T ++ M) → M[5]? = some (.pointer (some ⟨gx, 0, none⟩)) → (Instr.loadAt 76 (.pointer (some ⟨g, 15, none⟩))).run prog V = .ok (.pointer (some ⟨gx, 0, none⟩)) V) := Hh (fun V M hV hM => run_load1 underlying76 rfl (hV.cell_ 15 ((t10_get hT10 _ 5).trans hM)))
  refine wp_region_held_drew (S := fun V => ∃ s1, Blk V g 185 (T ++ sgM vn vq vt3 vr vm gl (some gx) s1)) (by kernel_rfl) ⟨_, B3.drew⟩ (fun hS => ?_)
  rw [hwd] at hS ⊢
  refine held_seq hS 7 [0, 1, 2, 4, 5, 6, 7] rfl (by kernel_rfl) (fun _ _ _ _ _ h => h) rfl rfl ?_
  (refine ⟨_, (.pointer (some ⟨g, 0, none⟩)), rfl, .inl ⟨rfl, fun V hV => rfl⟩, ?_⟩; simp only [Act.put, lsA, lsB, lsC])
  (refine ⟨_, (.pointer (some ⟨g, 0, none⟩)), rfl, .inl ⟨rfl, fun V hV => rfl⟩, ?_⟩; simp only [Act.put, lsA, lsB, lsC])
  (refine ⟨_, (.pointer (some ⟨g, 22, none⟩)), rfl, .inl ⟨rfl, fun V hV => rfl⟩, ?_⟩; simp only [Act.put, lsA, lsB, lsC])
  (refine ⟨_, (.pointer (some ⟨g, 0, none⟩)), rfl, .inl ⟨rfl, fun V hV => rfl⟩, ?_⟩; simp only [Act.put, lsA, lsB, lsC])
  (refine ⟨_, (.pointer (some ⟨g, 0, none⟩)), rfl, .inl ⟨rfl, fun V hV => rfl⟩, ?_⟩; simp only [Act.put, lsA, lsB, lsC])
  (refine ⟨_, (.pointer (some ⟨g, 15, none⟩)), rfl, .inl ⟨rfl, fun V hV => rfl⟩, ?_⟩; simp only [Act.put, lsA, lsB, lsC])
  (refine ⟨_, _, rfl, .inl ⟨rfl, fun V hV => (exec_ld 76 (.tmp 32) ⟨g, 15, none⟩ rfl rfl (by obtain ⟨u, hu⟩ := hV; exact LP.out V _ hu rfl))⟩, ?_⟩; simp only [Act.put, lsA, lsB, lsC])
  simp only [SeqC]
  refine ord_two 3 8 (by kernel_rfl) ?_ ?_
  ·
   refine opw_ld 3 (some 29) 3 (.tmp 28) ⟨g, 22, none⟩ rfl rfl rfl rfl (by kernel_rfl) LS.out ?_
   refine ⟨hS, ?_⟩
   simp only [Act.put, lsA, lsB, lsC]
   refine ord_one 8 (by kernel_rfl) ?_
   refine opw_call 8 (some 34) 39 #[.pointer (some ⟨gx, 0, none⟩)] rfl rfl (by kernel_rfl) (by go_simp) XS1.out ?_
   rintro _ wy ⟨rfl, rfl⟩
   refine ⟨_, rfl, hS, ?_⟩
   simp only [Act.put, lsA, lsB, lsC]
   refine held_seq hS 3 [9, 10, 11] rfl (by kernel_rfl) (fun _ _ _ _ _ h => h) rfl rfl ?_
   (refine ⟨_, (.int .i64 ((ss + xs : Nat) : Int)), rfl, .inl ⟨rfl, fun V hV => (by go_simp; exact IntWalk.i64_in _ (by omega))⟩, ?_⟩; simp only [Act.put, lsA, lsB, lsC])
   (refine ⟨_, (.pointer (some ⟨g, 0, none⟩)), rfl, .inl ⟨rfl, fun V hV => rfl⟩, ?_⟩; simp only [Act.put, lsA, lsB, lsC])
   (refine ⟨_, (.pointer (some ⟨g, 22, none⟩)), rfl, .inl ⟨rfl, fun V hV => rfl⟩, ?_⟩; simp only [Act.put, lsA, lsB, lsC])
   simp only [SeqC]
   refine ord_one 12 (by kernel_rfl) ?_
   refine opw_stC 12 3 (.tmp 37) (.tmp 35) rfl rfl rfl (by kernel_rfl) g 22 rfl (.int .i64 ((ss + xs : Nat) : Int)) rfl B3d (by rw [sg_len hT10]; omega) intInfo1 rfl rfl ?_
   intro w7 B7 g7 _
   have B7' : Blk w7 g 185 (T ++ sgM vn vq vt3 vr vm gl (some gx) { s with sent := ss + xs }) := sg_put hT10 12 B7 rfl
   have C7 := C3d.grown g7 (by simpa using hog)
   have O7 := O3d.blk g7 B3d (by decide)
   have F7 := Fr.transT F3d (Fr.grown g7 B3d (by unfold StTy; decide) ⟨hbg, _, _, B3d, .inl rfl⟩)
   refine ⟨⟨_, B7'⟩, ?_⟩
   simp only [Act.put, lsA, lsB, lsC]
   refine wpAnyH_done (by kernel_rfl) ?_ _
   go_wp2_with fail
   go_meet
   case rel => exact ⟨B7', C7, O7, F7⟩
  ·
   refine opw_call 8 (some 34) 39 #[.pointer (some ⟨gx, 0, none⟩)] rfl rfl (by kernel_rfl) (by go_simp) XS1.out ?_
   rintro _ wy ⟨rfl, rfl⟩
   refine ⟨_, rfl, hS, ?_⟩
   simp only [Act.put, lsA, lsB, lsC]
   refine ord_one 3 (by kernel_rfl) ?_
   refine opw_ld 3 (some 29) 3 (.tmp 28) ⟨g, 22, none⟩ rfl rfl rfl rfl (by kernel_rfl) LS.out ?_
   refine ⟨hS, ?_⟩
   simp only [Act.put, lsA, lsB, lsC]
   refine held_seq hS 3 [9, 10, 11] rfl (by kernel_rfl) (fun _ _ _ _ _ h => h) rfl rfl ?_
   (refine ⟨_, (.int .i64 ((ss + xs : Nat) : Int)), rfl, .inl ⟨rfl, fun V hV => (by go_simp; exact IntWalk.i64_in _ (by omega))⟩, ?_⟩; simp only [Act.put, lsA, lsB, lsC])
   (refine ⟨_, (.pointer (some ⟨g, 0, none⟩)), rfl, .inl ⟨rfl, fun V hV => rfl⟩, ?_⟩; simp only [Act.put, lsA, lsB, lsC])
   (refine ⟨_, (.pointer (some ⟨g, 22, none⟩)), rfl, .inl ⟨rfl, fun V hV => rfl⟩, ?_⟩; simp only [Act.put, lsA, lsB, lsC])
   simp only [SeqC]
   refine ord_one 12 (by kernel_rfl) ?_
   refine opw_stC 12 3 (.tmp 37) (.tmp 35) rfl rfl rfl (by kernel_rfl) g 22 rfl (.int .i64 ((ss + xs : Nat) : Int)) rfl B3d (by rw [sg_len hT10]; omega) intInfo1 rfl rfl ?_
   intro w7 B7 g7 _
   have B7' : Blk w7 g 185 (T ++ sgM vn vq vt3 vr vm gl (some gx) { s with sent := ss + xs }) := sg_put hT10 12 B7 rfl
   have C7 := C3d.grown g7 (by simpa using hog)
   have O7 := O3d.blk g7 B3d (by decide)
   have F7 := Fr.transT F3d (Fr.grown g7 B3d (by unfold StTy; decide) ⟨hbg, _, _, B3d, .inl rfl⟩)
   refine ⟨⟨_, B7'⟩, ?_⟩
   simp only [Act.put, lsA, lsB, lsC]
   refine wpAnyH_done (by kernel_rfl) ?_ _
   go_wp2_with fail
   go_meet
   case rel => exact ⟨B7', C7, O7, F7⟩
 obtain ⟨B4, C4, O4, F4⟩ := hcut
 obtain ⟨w4, rfl⟩ : ∃ w4, w4 = wc := ⟨_, rfl⟩
 clear B3 C3 O3 F3 XSN d22
 have d15 : w4.cell? ⟨g, 15, none⟩ = some (.pointer (some ⟨gx, 0, none⟩)) := SgK.c ⟨B4, hT10⟩ 5 rfl
 have f15 := B4.frozen 15
 have hgl4 := B4.lt
 have B5 := sg_put hT10 (M := sgM vn vq vt3 vr vm gl none { s with sent := ss + xs }) 5 (B4.set 15 (.pointer none)) rfl
 have g5 : w4.grownBy (w4.setCell ⟨g, 15, none⟩ (.pointer none)) (some g) := grown_set (World.grownBy.refl _ _) 15 _
 have C5 := C4.grown g5 (by simpa using hog)
 have O5 := O4.blk g5 B4 (by decide)
 have F5 := Fr.transT F4 (Fr.grown g5 B4 (by unfold StTy; decide) ⟨hbg, _, _, B4, .inl rfl⟩)
 have c0 := C5.cell_ 0 hO0
 have HB5 := Hh (And.intro B5 (And.intro C5 (And.intro O5 F5)))
 obtain ⟨w5, hw5⟩ : ∃ w5, Hid (w4.setCell ⟨g, 15, none⟩ (.pointer none) = w5) := ⟨_, Hh rfl⟩
 rw [hw5.out] at HB5
 clear B4 C4 O4 F4 B5 C5 O5 F5 g5
 have HS' : Hid (s' = leaveS s x) := Hh hs'.out.symm
 unfold leaveS at HS'
 dsimp only at HS'
 rw [hvd', hss, hxs] at HS'
 clear hs'
 by_cases v1 : vd = 1
 case pos =>
  obtain ⟨f, hf⟩ := HVD.out v1
  rw [if_pos v1, hf] at HS'
  dsimp only at HS'
  subst v1
  obtain ⟨Al, cA, hva⟩ := hA2.form
  subst hva
  obtain ⟨B5, C5, O5, F5⟩ := HB5.out
  have hA5 := hA2.fr F5
  have LQ5 : Hid (∀ V, Below w5.heap.size w5 V → (Instr.loadAt 28 (.pointer (some ⟨g, 16, none⟩))).run prog V = .ok (.agg #[vq, .int .i64 qt, .int .i64 ql]) V) := Hh (fun V hV => LQu.out V vt3 none { s with sent := ss + xs } rfl (B5.below hV B5.lt))
  have LA5 : Hid (∀ V, Below w5.heap.size w5 V → (Instr.loadAt 48 (.pointer (some ⟨go, 12, none⟩))).run prog V = .ok (.slice Al x.msg.an.length cA) V) := Hh (fun V hV => run_load1 underlying48 rfl ((C5.below hV C5.lt).cell_ 12 hO12))
  have FL5 : Hid (∀ V, Below w5.heap.size w5 V → Calls prog 157 #[.agg #[vq, .int .i64 qt, .int .i64 ql], .slice Al x.msg.an.length cA] V (FolRet (.ok f) V)) := Hh (fun V hV => by
   have := FOL.out Al cA x.msg.an V (Fr.transT (Fr.transT (Fr.below H2) F5) (Fr.below hV)) (RRsOwn.below hA5 hV) hAl
   rw [hf, hqt, hql] at this
   exact this)
  have hfl : f.recs.length ≤ 65535 := by
   obtain ⟨-, f2⟩ := followQ_recs _ _ _ _ _ _ _ hf
   rw [f2]
   exact Nat.le_trans (List.length_filter_le _ _) hAl
  clear hA2 hA5 FOL LQu hO12 hf
  generalize x.msg.an.length = na at *
  go_upto_region 8 with fail
  go_cut [4] (fun v4 wx => ∃ gf An cn A c, v4 = .pointer (some ⟨gf, 0, none⟩) ∧ Blk wx gf 263 [.slice An f.name.length cn, .slice A f.recs.length c, .int .i64 (f.ttl.getD 0), .int .i64 f.links] ∧ Txts wx (.slice An f.name.length cn) f.name ∧ RRsOwn wx 0 (.slice A f.recs.length c) f.recs ∧ Below w5.heap.size w5 wx ∧ w5.heap.size ≤ gf)
  case first =>
   rw [hw5.out]
   refine wp_region_held_drew (S := fun V => Below w5.heap.size w5 V) (by kernel_rfl) (Below.refl _ _).drew (fun hS => ?_)
   refine held_seq hS 7 [0, 1, 2, 3, 4, 5, 6] rfl (by kernel_rfl) (fun _ _ _ _ _ h => h) rfl rfl ?_
   (refine ⟨_, (.pointer (some ⟨g, 0, none⟩)), rfl, .inl ⟨rfl, fun V hV => rfl⟩, ?_⟩; simp only [Act.put, lsA, lsB, lsC])
   (refine ⟨_, (.pointer (some ⟨g, 0, none⟩)), rfl, .inl ⟨rfl, fun V hV => rfl⟩, ?_⟩; simp only [Act.put, lsA, lsB, lsC])
   (refine ⟨_, (.pointer (some ⟨g, 16, none⟩)), rfl, .inl ⟨rfl, fun V hV => rfl⟩, ?_⟩; simp only [Act.put, lsA, lsB, lsC])
   (refine ⟨_, _, rfl, .inl ⟨rfl, fun V hV => (exec_ld 28 (.tmp 48) ⟨g, 16, none⟩ rfl rfl (LQ5.out V hV))⟩, ?_⟩; simp only [Act.put, lsA, lsB, lsC])
   (refine ⟨_, (.pointer (some ⟨go, 1, none⟩)), rfl, .inl ⟨rfl, fun V hV => rfl⟩, ?_⟩; simp only [Act.put, lsA, lsB, lsC])
   (refine ⟨_, (.pointer (some ⟨go, 12, none⟩)), rfl, .inl ⟨rfl, fun V hV => rfl⟩, ?_⟩; simp only [Act.put, lsA, lsB, lsC])
   (refine ⟨_, _, rfl, .inl ⟨rfl, fun V hV => (exec_ld 48 (.tmp 51) ⟨go, 12, none⟩ rfl rfl (LA5.out V hV))⟩, ?_⟩; simp only [Act.put, lsA, lsB, lsC])
   simp only [SeqC]
   refine ord_two 7 11 (by kernel_rfl) ?_ ?_
   ·
    refine opw_call 7 (some 53) 157 #[.agg #[vq, .int .i64 qt, .int .i64 ql], .slice Al na cA] rfl rfl (by kernel_rfl) (by go_simp) (FL5.out _ hS) ?_
    rintro _ w6 ⟨An, cn, A, c, rfl, hT, hR, b6⟩
    have hS6 := below_then hS hS.size b6
    refine ⟨_, rfl, hS6, ?_⟩
    clear hS b6
    have hS := hS6
    simp only [Act.put, lsA, lsB, lsC]
    refine held_seq hS 3 [8, 9, 10] rfl (by kernel_rfl) (fun _ _ _ _ _ h => h) rfl rfl ?_
    (refine ⟨_, (.tuple #[.agg #[.slice An f.name.length cn, .slice A f.recs.length c, .int .i64 (f.ttl.getD 0), .int .i64 f.links], .int .i64 0]), rfl, .inl ⟨rfl, fun V hV => rfl⟩, ?_⟩; simp only [Act.put, lsA, lsB, lsC])
    (refine ⟨_, (.agg #[.slice An f.name.length cn, .slice A f.recs.length c, .int .i64 (f.ttl.getD 0), .int .i64 f.links]), rfl, .inl ⟨rfl, fun V hV => rfl⟩, ?_⟩; simp only [Act.put, lsA, lsB, lsC])
    (refine ⟨_, (.int .i64 0), rfl, .inl ⟨rfl, fun V hV => rfl⟩, ?_⟩; simp only [Act.put, lsA, lsB, lsC])
    simp only [SeqC]
    have kz : Below w6.heap.size w6 (w6.alloc (.cells #[.slice none 0 0, .slice none 0 0, .int .i64 0, .int .i64 0] 263)) := (Below.refl _ _).alloc (Nat.le_refl _) _
    have Bz := Blk.new w6 263 [.slice none 0 0, .slice none 0 0, .int .i64 0, .int .i64 0]
    have T7 := (Stays.below kz) _ _ hT
    have R7 := RRsOwn.below hR kz
    have hS7 := below_then hS hS.size kz
    refine ord_one 11 (by kernel_rfl) ?_
    refine opw_run 11 (some 4) rfl rfl (by kernel_rfl) (v := .pointer (some ⟨w6.heap.size, 0, none⟩)) (w' := w6.alloc (.cells #[.slice none 0 0, .slice none 0 0, .int .i64 0, .int .i64 0] 263)) (by kernel_rfl) ?_
    refine ⟨hS7, ?_⟩
    have hgf : w5.heap.size ≤ w6.heap.size := hS.size
    simp only [Act.put, lsA, lsB, lsC]
    generalize w6.heap.size = gf at *
    generalize (w6.alloc (.cells #[.slice none 0 0, .slice none 0 0, .int .i64 0, .int .i64 0] 263)) = wz at *
    clear hS
    have hS := hS7
    refine ord_one 12 (by kernel_rfl) ?_
    refine opw_stB 12 263 (.tmp 4) (.tmp 54) rfl rfl rfl (by kernel_rfl) gf 0 rfl [.slice An f.name.length cn, .slice A f.recs.length c, .int .i64 (f.ttl.getD 0), .int .i64 f.links] rfl Bz (by simp) fndI4 (by simp [Value.oneCell']) ?_
    intro w7 B7 g7 s7
    have B7' : Blk w7 gf 263 [.slice An f.name.length cn, .slice A f.recs.length c, .int .i64 (f.ttl.getD 0), .int .i64 f.links] := by simpa using B7
    have hS8 := below_grown hS g7 hS.size hgf
    have T8 := (Stays.blk g7 Bz (by decide)) _ _ T7
    have R8 := RRsOwn.blk R7 g7 Bz (by decide) (by decide)
    refine ⟨hS8, ?_⟩
    clear hS
    have hS := hS8
    simp only [Act.put, lsA, lsB, lsC]
    refine held_seq hS 1 [13] rfl (by kernel_rfl) (fun _ _ _ _ _ h => h) rfl rfl ?_
    (refine ⟨_, (.int .i64 0), rfl, .inl ⟨rfl, fun V hV => rfl⟩, ?_⟩; simp only [Act.put, lsA, lsB, lsC])
    simp only [SeqC]
    refine wpAnyH_done (by kernel_rfl) ?_ _
    go_wp2_with fail
    go_meet
    case rel => exact ⟨gf, An, cn, A, c, rfl, B7', T8, R8, hS, hgf⟩
   ·
    have kz : Below w5.heap.size w5 (w5.drew.alloc (.cells #[.slice none 0 0, .slice none 0 0, .int .i64 0, .int .i64 0] 263)) := hS.alloc hS.size _
    have Bz0 := Blk.new w5.drew 263 [.slice none 0 0, .slice none 0 0, .int .i64 0, .int .i64 0]
    refine opw_run 11 (some 4) rfl rfl (by kernel_rfl) (v := .pointer (some ⟨w5.drew.heap.size, 0, none⟩)) (w' := w5.drew.alloc (.cells #[.slice none 0 0, .slice none 0 0, .int .i64 0, .int .i64 0] 263)) (by kernel_rfl) ?_
    refine ⟨kz, ?_⟩
    have hgf : w5.heap.size ≤ w5.drew.heap.size := hS.size
    simp only [Act.put, lsA, lsB, lsC]
    generalize w5.drew.heap.size = gf at *
    generalize (w5.drew.alloc (.cells #[.slice none 0 0, .slice none 0 0, .int .i64 0, .int .i64 0] 263)) = wy at *
    refine ord_one 7 (by kernel_rfl) ?_
    refine opw_call 7 (some 53) 157 #[.agg #[vq, .int .i64 qt, .int .i64 ql], .slice Al na cA] rfl rfl (by kernel_rfl) (by go_simp) (FL5.out _ kz) ?_
    rintro _ wz ⟨An, cn, A, c, rfl, T7, R7, b6⟩
    have hS6 := below_then kz kz.size b6
    have Bz := Bz0.below b6 Bz0.lt
    refine ⟨_, rfl, hS6, ?_⟩
    clear hS b6
    have hS := hS6
    simp only [Act.put, lsA, lsB, lsC]
    refine held_seq hS 3 [8, 9, 10] rfl (by kernel_rfl) (fun _ _ _ _ _ h => h) rfl rfl ?_
    (refine ⟨_, (.tuple #[.agg #[.slice An f.name.length cn, .slice A f.recs.length c, .int .i64 (f.ttl.getD 0), .int .i64 f.links], .int .i64 0]), rfl, .inl ⟨rfl, fun V hV => rfl⟩, ?_⟩; simp only [Act.put, lsA, lsB, lsC])
    (refine ⟨_, (.agg #[.slice An f.name.length cn, .slice A f.recs.length c, .int .i64 (f.ttl.getD 0), .int .i64 f.links]), rfl, .inl ⟨rfl, fun V hV => rfl⟩, ?_⟩; simp only [Act.put, lsA, lsB, lsC])
    (refine ⟨_, (.int .i64 0), rfl, .inl ⟨rfl, fun V hV => rfl⟩, ?_⟩; simp only [Act.put, lsA, lsB, lsC])
    simp only [SeqC]
    refine ord_one 12 (by kernel_rfl) ?_
    refine opw_stB 12 263 (.tmp 4) (.tmp 54) rfl rfl rfl (by kernel_rfl) gf 0 rfl [.slice An f.name.length cn, .slice A f.recs.length c, .int .i64 (f.ttl.getD 0), .int .i64 f.links] rfl Bz (by simp) fndI4 (by simp [Value.oneCell']) ?_
    intro w7 B7 g7 s7
    have B7' : Blk w7 gf 263 [.slice An f.name.length cn, .slice A f.recs.length c, .int .i64 (f.ttl.getD 0), .int .i64 f.links] := by simpa using B7
    have hS8 := below_grown hS g7 hS.size hgf
    have T8 := (Stays.blk g7 Bz (by decide)) _ _ T7
    have R8 := RRsOwn.blk R7 g7 Bz (by decide) (by decide)
    refine ⟨hS8, ?_⟩
    clear hS
    have hS := hS8
    simp only [Act.put, lsA, lsB, lsC]
    refine held_seq hS 1 [13] rfl (by kernel_rfl) (fun _ _ _ _ _ h => h) rfl rfl ?_
    (refine ⟨_, (.int .i64 0), rfl, .inl ⟨rfl, fun V hV => rfl⟩, ?_⟩; simp only [Act.put, lsA, lsB, lsC])
    simp only [SeqC]
    refine wpAnyH_done (by kernel_rfl) ?_ _
    go_wp2_with fail
    go_meet
    case rel => exact ⟨gf, An, cn, A, c, rfl, B7', T8, R8, hS, hgf⟩
  obtain ⟨gf, An, cn, A, c, rfl, B7', T7, R7, hS, hgf⟩ := hcut
  obtain ⟨w7, rfl⟩ : ∃ w7, w7 = wc := ⟨_, rfl⟩
  have hfg : gf ≠ g := by have := B5.lt; omega
  have B8 := B5.below hS B5.lt
  have O8 := LOwn.below (R' := TdI) O5 hS (fun _ _ h => h)
  have F8 := Fr.transT F5 (Fr.below hS)
  have e0 := B7'.cell_ 0 (u := .slice An f.name.length cn) rfl
  have e1 := B7'.cell_ 1 (u := .slice A f.recs.length c) rfl
  have e2 := B7'.cell_ 2 (u := .int .i64 (f.ttl.getD 0)) rfl
  have RB := Hh (fun V => res_b4 1 (f.ttl.getD 0) A An f.recs.length c f.name.length cn V)
  clear LQ5 LA5 FL5 B5 O5 F5 B7' C5 HB5
  obtain ⟨s1, hs1⟩ : ∃ s1 : Sg, s1 = { s with sent := ss + xs } := ⟨_, rfl⟩
  rw [← hs1] at B8
  obtain ⟨L8, hL8⟩ : ∃ L8, Hid (T ++ sgM vn vq vt3 vr vm gl none s1 = L8) := ⟨_, Hh rfl⟩
  have SL : L8.length = 28 := by rw [← hL8.out]; exact sg_len hT10 ..
  rw [hL8.out] at B8
  go_wp2_with (first
   | (refine at_op (.build 115 #[(0, .const (.int .i64 1)), (1, .tmp 58), (2, .tmp 60), (3, .tmp 62)]) rfl ?_; go_must (refine wpList_bld rfl 115 _ rfl #[(0, .int .i64 1), (1, .slice A f.recs.length c), (2, .slice An f.name.length cn), (3, .int .i64 (f.ttl.getD 0))] (by simp [Act.eval, Act.put]) (RB.out _) ?_))
   | (refine at_op (.store 115 (.tmp 65) (.tmp 63)) rfl ?_; go_must (refine wpList_stB rfl _ _ _ rfl g 24 rfl [.int .i64 1, .slice A f.recs.length c, .slice An f.name.length cn, .int .i64 (f.ttl.getD 0)] rfl B8 (by rw [SL]; exact Nat.le_refl 28) resI4 (by simp [Value.oneCell', nilS]) ?_)))
  intro w9 B9 g9 sw
  clear sw
  have B9' : Blk w9 g 185 (T ++ sgM vn vq vt3 (.slice A f.recs.length c) (.slice An f.name.length cn) gl none { s1 with vd := 1, ttl := f.ttl.getD 0 }) := by
   rw [← sg_put24 hT10 _ _ nilS 1 _ hL8]
   simpa only [List.append_assoc, List.cons_append, List.nil_append] using B9
  have O9 := O8.blk g9 B8 (by decide)
  have F9 := Fr.transT F8 (Fr.grown g9 B8 (by unfold StTy; decide) ⟨hbg, _, _, B8, .inl rfl⟩)
  have k9 : Fr (fun i => i = g) w7 w9 := Fr.grown g9 B8 (by unfold StTy; decide) rfl
  have T9 := k9.stays _ _ T7
  have R9 := R7.fr k9
  clear B9 g9 B8 O8 F8 k9 T7 R7 e0 e1 e2 RB SL
  have d23 : w9.cell? ⟨g, 23, none⟩ = some (.bool s1.done) := SgK.c (pp := none) ⟨B9', hT10⟩ 13 rfl
  have f23 := B9'.frozen 23
  have hg9 := B9'.lt
  have B10 := sg_put hT10 13 (B9'.set 23 (.bool true)) rfl
  have g10 : w9.grownBy (w9.setCell ⟨g, 23, none⟩ (.bool true)) (some g) := grown_set (World.grownBy.refl _ _) 23 _
  have O10 := O9.blk g10 B9' (by decide)
  have k10 : Fr (fun i => i = g) w9 (w9.setCell ⟨g, 23, none⟩ (.bool true)) := Fr.grown g10 B9' (by unfold StTy; decide) rfl
  have F10 := Fr.transT F9 (Fr.grown g10 B9' (by unfold StTy; decide) ⟨hbg, _, _, B9', .inl rfl⟩)
  have T10 := k10.stays _ _ T9
  have R10 := R9.fr k10
  have c23 : (w9.setCell ⟨g, 23, none⟩ (.bool true)).cell? ⟨g, 23, none⟩ = some (.bool true) := B10.cell_ 23 ((t10_get hT10 _ 13).trans rfl)
  clear g10 k10 O9 F9 T9 R9 B9'
  go_wp2_with fail
  go_ret
  rw [HS'.out]
  subst hs1
  exact FIN.out _ _ _ _ { s with pres := none, told := s.told + 1, sent := ss + xs, done := true, vd := 1, recs := f.recs, nm := f.name, ttl := f.ttl.getD 0 } (Fr.transT (Fr.below H2) F10) ⟨B10, hT10⟩ rfl rfl rfl rfl O10 R10 T10 hfl
 clear hO12 hA2
 obtain ⟨s1, hs1⟩ : ∃ s1 : Sg, s1 = { s with sent := ss + xs } := ⟨_, rfl⟩
 have v1' : (vd == 1) = false := by simpa using v1
 by_cases v5 : vd = 5
 case pos =>
  rw [if_neg v1, if_pos v5] at HS'
  subst v5
  obtain ⟨B8, C5, O8, F8⟩ := HB5.out
  rw [← hs1] at B8
  obtain ⟨L8, hL8⟩ : ∃ L8, Hid (T ++ sgM vn vq vt3 vr vm gl none s1 = L8) := ⟨_, Hh rfl⟩
  have SL : L8.length = 28 := by rw [← hL8.out]; exact sg_len hT10 ..
  rw [hL8.out] at B8
  have RB := Hh (fun V => res_b1 5 V)
  clear FOL LQu HB5 C5
  go_wp2_with (first
   | (refine at_op (.build 115 #[(0, .const (.int .i64 5))]) rfl ?_; go_must (refine wpList_bld rfl 115 _ rfl #[(0, .int .i64 5)] (by simp [Act.eval, Act.put]) (RB.out _) ?_))
   | (rw [hw5.out]; refine at_op (.store 115 (.tmp 74) (.tmp 72)) rfl ?_; go_must (refine wpList_stB rfl _ _ _ rfl g 24 rfl [.int .i64 5, nilS, nilS, .int .i64 0] rfl B8 (by rw [SL]; exact Nat.le_refl 28) resI4 (by simp [Value.oneCell', nilS]) ?_)))
  intro w9 B9 g9 sw
  clear sw
  have B9' : Blk w9 g 185 (T ++ sgM vn vq vt3 nilS nilS gl none { s1 with vd := 5, ttl := 0 }) := by
   rw [← sg_put24 hT10 _ _ nilS 5 _ hL8]
   simpa only [List.append_assoc, List.cons_append, List.nil_append] using B9
  have O9 := O8.blk g9 B8 (by decide)
  have F9 := Fr.transT F8 (Fr.grown g9 B8 (by unfold StTy; decide) ⟨hbg, _, _, B8, .inl rfl⟩)
  have R9 : RRsOwn w9 0 nilS [] := RRsOwn.nil _ _
  have T9 : Txts w9 nilS [] := World.ownsRow_nil _ _ _ _
  clear B9 g9 B8 O8 F8 RB SL
  have d23 : w9.cell? ⟨g, 23, none⟩ = some (.bool s1.done) := SgK.c (pp := none) ⟨B9', hT10⟩ 13 rfl
  have f23 := B9'.frozen 23
  have hg9 := B9'.lt
  have B10 := sg_put hT10 13 (B9'.set 23 (.bool true)) rfl
  have g10 : w9.grownBy (w9.setCell ⟨g, 23, none⟩ (.bool true)) (some g) := grown_set (World.grownBy.refl _ _) 23 _
  have O10 := O9.blk g10 B9' (by decide)
  have k10 : Fr (fun i => i = g) w9 (w9.setCell ⟨g, 23, none⟩ (.bool true)) := Fr.grown g10 B9' (by unfold StTy; decide) rfl
  have F10 := Fr.transT F9 (Fr.grown g10 B9' (by unfold StTy; decide) ⟨hbg, _, _, B9', .inl rfl⟩)
  have T10 := k10.stays _ _ T9
  have R10 := R9.fr k10
  have c23 : (w9.setCell ⟨g, 23, none⟩ (.bool true)).cell? ⟨g, 23, none⟩ = some (.bool true) := B10.cell_ 23 ((t10_get hT10 _ 13).trans rfl)
  clear g10 k10 O9 F9 T9 R9 B9'
  go_wp2_with fail
  go_ret
  rw [HS'.out]
  subst hs1
  exact FIN.out _ _ _ _ { s with pres := none, told := s.told + 1, sent := ss + xs, done := true, vd := 5, recs := [], nm := [], ttl := 0 } (Fr.transT (Fr.below H2) F10) ⟨B10, hT10⟩ rfl rfl rfl rfl O10 R10 T10 (by simp)
 have v5' : (vd == 5) = false := by simpa using v5
 obtain ⟨B9', C9, O9, F9⟩ := HB5.out
 rw [← hs1] at B9'
 obtain ⟨R9, T9⟩ := RK.out _ (Fr.transT (Fr.below H2) F9)
 clear FOL LQu HB5 RK
 obtain ⟨L9, hL9⟩ : ∃ L9, Hid (T ++ sgM vn vq vt3 vr vm gl none s1 = L9) := ⟨_, Hh rfl⟩
 have SL9 : L9.length = 28 := by rw [← hL9.out]; exact sg_len hT10 ..
 have B9n := B9'
 rw [hL9.out] at B9n
 by_cases v4 : vd = 4
 case pos =>
  rw [if_neg v1, if_neg v5, if_pos v4] at HS'
  subst v4
  go_wp2_with (rw [hw5.out]; refine at_op (.store 4 (.tmp 82) (.const (.bool true))) rfl ?_; go_must (refine wpList_stC rfl 4 (.tmp 82) (.const (.bool true)) rfl g 19 rfl (.bool true) rfl B9n (by rw [SL9]; decide) boolInfo1 rfl rfl ?_))
  intro w9 B9 g9 sw
  clear sw
  have O10 := O9.blk g9 B9' (by decide)
  have k9 : Fr (fun i => i = g) w5 w9 := Fr.grown g9 B9' (by unfold StTy; decide) rfl
  have F10 := Fr.transT F9 (Fr.grown g9 B9' (by unfold StTy; decide) ⟨hbg, _, _, B9', .inl rfl⟩)
  have T10 := k9.stays _ _ T9
  have R10 := R9.fr k9
  rw [← hL9.out] at B9
  have B10 := sg_put hT10 9 B9 rfl
  have d23 : w9.cell? ⟨g, 23, none⟩ = some (.bool s1.done) := B10.cell_ 23 ((t10_get hT10 _ 13).trans rfl)
  clear B9 g9 O9 k9 F9 T9 R9 B9' B9n
  go_wp2_with fail
  go_ret
  rw [HS'.out]
  subst hs1
  exact FIN.out _ _ _ _ { s with pres := none, told := s.told + 1, sent := ss + xs, again := true } (Fr.transT (Fr.below H2) F10) ⟨B10, hT10⟩ rfl rfl rfl rfl O10 R10 T10 HRL.out
 have v4' : (vd == 4) = false := by simpa using v4
 by_cases v2 : vd = 2
 case pos =>
  rw [if_neg v1, if_neg v5, if_neg v4, if_pos v2] at HS'
  subst v2
  go_wp2_with (rw [hw5.out]; refine at_op (.store 4 (.tmp 87) (.const (.bool true))) rfl ?_; go_must (refine wpList_stC rfl 4 (.tmp 87) (.const (.bool true)) rfl g 20 rfl (.bool true) rfl B9n (by rw [SL9]; decide) boolInfo1 rfl rfl ?_))
  intro w9 B9 g9 sw
  clear sw
  have O10 := O9.blk g9 B9' (by decide)
  have k9 : Fr (fun i => i = g) w5 w9 := Fr.grown g9 B9' (by unfold StTy; decide) rfl
  have F10 := Fr.transT F9 (Fr.grown g9 B9' (by unfold StTy; decide) ⟨hbg, _, _, B9', .inl rfl⟩)
  have T10 := k9.stays _ _ T9
  have R10 := R9.fr k9
  rw [← hL9.out] at B9
  have B10 := sg_put hT10 10 B9 rfl
  have d23 : w9.cell? ⟨g, 23, none⟩ = some (.bool s1.done) := B10.cell_ 23 ((t10_get hT10 _ 13).trans rfl)
  clear B9 g9 O9 k9 F9 T9 R9 B9' B9n
  go_wp2_with fail
  go_ret
  rw [HS'.out]
  subst hs1
  exact FIN.out _ _ _ _ { s with pres := none, told := s.told + 1, sent := ss + xs, nodata := true } (Fr.transT (Fr.below H2) F10) ⟨B10, hT10⟩ rfl rfl rfl rfl O10 R10 T10 HRL.out
 have v2' : (vd == 2) = false := by simpa using v2
 rw [if_neg v1, if_neg v5, if_neg v4, if_neg v2] at HS'
 have d23 : (w4.setCell ⟨g, 15, none⟩ (.pointer none)).cell? ⟨g, 23, none⟩ = some (.bool s1.done) := by rw [hw5.out]; exact B9'.cell_ 23 ((t10_get hT10 _ 13).trans rfl)
 go_wp2_with fail
 go_ret
 rw [HS'.out, hw5.out]
 subst hs1
 exact FIN.out _ _ _ _ { s with pres := none, told := s.told + 1, sent := ss + xs } (Fr.transT (Fr.below H2) F9) ⟨B9', hT10⟩ rfl rfl rfl rfl O9 R9 T9 HRL.out
theorem leaveS_g (s : Sg) (x : Xc) : (leaveS s x).sent = s.sent + x.sent ∧ (leaveS s x).told = s.told + 1 ∧ (leaveS s x).q = s.q := by
 unfold leaveS
 dsimp only
 split
 ·
  split <;> exact ⟨rfl, rfl, rfl⟩
 ·
  split
  ·
   exact ⟨rfl, rfl, rfl⟩
  ·
   split
   ·
    exact ⟨rfl, rfl, rfl⟩
   ·
    split <;> exact ⟨rfl, rfl, rfl⟩
structure SgI (s : Sg) (L : Lt) (tk k H : Nat) : Prop where
 inv : InvS (ticksR s.r) (triesR s.r 0).length s tk
 us : L.us ≤ 2 * k + 2 * s.begun
 ds : L.ds.length ≤ 17592186044416
 sn : s.sent + (if s.pres = none then 0 else 45) ≤ 45 * s.begun
 td : s.told + (if s.pres = none then 0 else 1) ≤ s.begun
 nl : s.nms.length ≤ 10
 hd : ∀ x, s.pres = some x → x.d.heard.length ≤ H
theorem SgI.x45 {s : Sg} {L : Lt} {tk k H : Nat} (h : SgI s L tk k H) {x : Xc} (hp : s.pres = some x) : x.sent ≤ 45 := by
 obtain ⟨⟨t, h1⟩, _⟩ := h.inv.pr x hp
 have h2 := h1.rst
 have h3 := (ticks_le s.r).2
 unfold mostR at h3
 omega
theorem SgI.fol {s : Sg} {L : Lt} {tk k H : Nat} (h : SgI s L tk k H) {x : Xc} (hp : s.pres = some x) (hd : x.done = true) : x.vd = 1 → ∃ f, followQ s.q x.msg.an 16 0 s.q.name none = .ok f := by
 intro hv
 obtain ⟨_, h2, h3, _⟩ := h.inv.pr x hp
 rcases h2 hd with c | c
 ·
  omega
 ·
  rw [h3] at c; exact c.2
theorem SgI.leave {s : Sg} {L : Lt} {tk k H : Nat} (h : SgI s L tk k H) {x : Xc} (hp : s.pres = some x) (hd : x.done = true) (hs : s.done = false) : SgI (leaveS s x) L tk k H := by
 obtain ⟨f1, f2, f3, f4, f5, f6⟩ := leaveS_f s x
 obtain ⟨g1, g2, g3⟩ := leaveS_g s x
 have h1 := h.x45 hp
 have h2 := h.sn
 have h3 := h.td
 have h4 := h.us
 rw [hp, if_neg (by simp)] at h2 h3
 refine ⟨by rw [f5]; exact leaveS_inv h.inv hp hd hs, by rw [f2]; exact h4, h.ds, ?_, ?_, by rw [f3]; exact h.nl, fun x c => by rw [f1] at c; cases c⟩
 ·
  rw [f1, if_pos rfl, g1, f2]; omega
 ·
  rw [f1, if_pos rfl, g2, f2]; omega
theorem SgI.end_ {s : Sg} {L : Lt} {tk k H : Nat} (h : SgI s L tk k H) (hp : s.pres = none) : SgI (endS s) L tk k H := by
 have h2 := h.sn
 have h3 := h.td
 rw [hp] at h2 h3
 exact ⟨endS_inv h.inv hp, h.us, h.ds, by rw [show (endS s).pres = s.pres from rfl, hp]; exact h2, by rw [show (endS s).pres = s.pres from rfl, hp]; exact h3, h.nl, fun x c => by rw [show (endS s).pres = s.pres from rfl, hp] at c; cases c⟩
theorem SgI.new {s : Sg} {L : Lt} {tk k H : Nat} (h : SgI s L tk k H) (hp : s.pres = none) (hs : s.done = false) (hb : s.begun < s.nms.length) (ok : (exS s L).1.ok) : SgI (newS s (exS s L).1) (exS s L).2.1 tk k H := by
 obtain ⟨n1, n2, n3, n4⟩ := newS_inv L h.inv hp hs hb ok
 have h2 := h.sn
 have h3 := h.td
 have h4 := h.us
 rw [hp, if_pos rfl] at h2 h3
 refine ⟨n1, ?_, by rw [n3]; exact h.ds, ?_, ?_, h.nl, fun x c => ?_⟩
 ·
  show (exS s L).2.1.us ≤ 2 * k + 2 * (s.begun + 1); omega
 ·
  rw [if_neg (by simp [newS])]; show s.sent + 45 ≤ 45 * (s.begun + 1); omega
 ·
  rw [if_neg (by simp [newS])]; show s.told + 1 ≤ s.begun + 1; omega
 ·
  injection c with c
  subst c
  rw [n4]; exact Nat.zero_le _
theorem SgI.hear1 {s : Sg} {L : Lt} {tk k H : Nat} (h : SgI s L tk k H) {x : Xc} (hp : s.pres = some x) (ok : x.ok) (e : Ev) (hs : s.done = false) : SgI { s with pres := some (hearX x L e).1 } (hearX x L e).2.1 (tk + if e.kind = 1 ∧ x.done = false then 1 else 0) (k + 1) (H + e.data.length) := by
 obtain ⟨⟨t, h1⟩, _⟩ := h.inv.pr x hp
 obtain ⟨_, _, i3, i4, i5⟩ := h1.hear ok L e
 have h2 := h.sn
 have h3 := h.td
 have h4 := h.us
 have h5 := h.hd x hp
 rw [hp, if_neg (by simp)] at h2 h3
 refine ⟨hear1_inv h.inv hp ok L e hs, ?_, by rw [i4]; exact h.ds, ?_, ?_, h.nl, fun y c => ?_⟩
 ·
  show (hearX x L e).2.1.us ≤ 2 * (k + 1) + 2 * s.begun; omega
 ·
  rw [if_neg (by simp)]; exact h2
 ·
  rw [if_neg (by simp)]; exact h3
 ·
  injection c with c
  subst c
  omega
def onS (f : Nat) (s : Sg) (L : Lt) (o : List Ou) : SR := if s.begun = s.nms.length then (endS s, L, o) else goS f (newS s (exS s L).1) (exS s L).2.1 (o ++ (exS s L).2.2)
theorem goS_none {f : Nat} {s : Sg} (L : Lt) (o : List Ou) (h : s.pres = none) : goS (f + 1) s L o = onS f s L o := by
 unfold goS
 rw [h]
 rfl
theorem goS_wait {f : Nat} {s : Sg} {x : Xc} (L : Lt) (o : List Ou) (h : s.pres = some x) (hd : x.done = false) : goS (f + 1) s L o = (s, L, o) := by
 unfold goS
 rw [h]
 dsimp only
 rw [if_pos (.inl hd), if_pos hd]
theorem goS_end {f : Nat} {s : Sg} {x : Xc} (L : Lt) (o : List Ou) (h : s.pres = some x) (hd : x.done = true) (he : (leaveS s x).done = true) : goS (f + 1) s L o = (leaveS s x, L, o) := by
 unfold goS
 rw [h]
 dsimp only
 rw [if_pos (.inr he), if_neg (by rw [hd]; decide)]
theorem goS_on {f : Nat} {s : Sg} {x : Xc} (L : Lt) (o : List Ou) (h : s.pres = some x) (hd : x.done = true) (he : (leaveS s x).done = false) : goS (f + 1) s L o = onS f (leaveS s x) L o := by
 unfold goS
 rw [h]
 dsimp only
 rw [if_neg (by rw [hd, he]; decide)]
 obtain ⟨-, f2, f3, -⟩ := leaveS_f s x
 unfold onS
 rw [f2, f3]
structure SgR (w0 w : World) (b : Nat) (T : List Value) (vn vt vr vm : Value) (s : Sg) : Prop where
 r : RsO w0 w T s.r
 n : NmsC w vn s.nms
 t : LOwn w b 200 18 TdI vt (List.replicate s.told ())
 c : RRsOwn w 0 vr s.recs
 m : Txts w vm s.nm
theorem SgR.frT {w0 w w' : World} {b b' : Nat} {T : List Value} {vn vt vr vm : Value} {s : Sg} {p : TypeId → Prop} (h : SgR w0 w b T vn vt vr vm s) (k : Fr (TyS w p b') w w') (h4 : ¬ p 200) : SgR w0 w' b T vn vt vr vm s :=
 ⟨h.r.fr k, h.n.fr k, h.t.stays (fun _ x => k.ownT x h4) (fun _ _ x => x), h.c.fr k, k.stays _ _ h.m⟩
def SgTy (t : TypeId) : Prop := t = 185 ∨ t = 200 ∨ t = 177 ∨ t = 180 ∨ t = 152 ∨ t = 97
def SgRet (w0 : World) (b g gl : Nat) (R : SR) (w : World) (e : Ending) (w' : World) : Prop := ∃ v D', e = .returned v ∧ OusN b w' v R.2.2 ∧ SgAt w0 w' b g gl D' R.1 ∧ LotAt w' gl R.2.1 ∧ Fr (TyS w SgTy b) w w'
def SgRetI (w0 : World) (b g gl : Nat) (R : SR) (tk k H : Nat) (w : World) (e : Ending) (w' : World) : Prop := SgRet w0 b g gl R w e w' ∧ SgI R.1 R.2.1 tk k H ∧ (R.1.pres = none → R.1.done = true) ∧ ∀ x, R.1.pres = some x → x.done = false
end Go.Proofs.YthnbcmlnpdabhaaGreat

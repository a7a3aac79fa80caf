/-
  Layer 35 (single), plain: one question, put for one name after the other.
-/
import Derived.Test.YteimenplbanooaaGreatDoorRBGq
namespace Go.Proofs.YteimenplbanooaaGreatDoor
open _root_.Go.Proofs.Tryz
open Go.RowKit
set_option linter.unusedVariables false
set_option linter.unusedSimpArgs false
def VdX (x : Xc) : Prop := x.done = true → (x.vd = 2 ∨ x.vd = 3 ∨ x.vd = 4 ∨ x.vd = 5) ∨ (x.vd = 1 ∧ ∃ f, followQ x.q x.msg.an 16 0 x.q.name none = .ok f)
theorem VdX.open_ {x : Xc} (h : x.done = false) : VdX x := fun c => absurd c (by rw [h]; decide)
theorem legX_vd {x : Xc} (h : x.done = false) (L : Lt) (lg : Nat) : VdX (legX x L lg).1 := VdX.open_ ((legX_f x L lg).1.trans h)
theorem tryX_vd {x : Xc} (h : x.done = false) (L : Lt) : VdX (tryX x L).1 := by
 unfold tryX
 split
 ·
  exact legX_vd h _ _
 ·
  intro _
  show ((if x.hard then (5 : Int) else 4) = 2 ∨ _) ∨ _
  left
  cases hh : x.hard with
  | true => exact .inr (.inr (.inr (by simp [hh])))
  | false => exact .inr (.inr (.inl (by simp [hh])))
theorem newX_vd (tmo : Int) (vc ed : Bool) (q : Qn) (tr : List Adr) (L : Lt) : VdX (newX tmo vc ed q tr L).1 := by
 unfold newX
 split
 ·
  exact fun _ => .inl (.inr (.inl rfl))
 ·
  exact tryX_vd (x := startX tmo vc ed q tr) rfl L
theorem followQ_recs (q : Qn) (l : List RR) : ∀ (f k : Nat) (n : List (List UInt8)) (t : Option Int) (o : Fnd), followQ q l f k n t = .ok o → o.recs ≠ [] ∧ o.recs = ofR l o.name q.ty q.cl
 | f, k, n, t, o, h => by
  rw [followQ_eq] at h
  split at h
  ·
   rename_i r rs hr
   injection h with h
   subst h
   exact ⟨by simp, hr.symm⟩
  ·
   split at h
   ·
    cases h
   ·
    split at h
    ·
     cases h
    ·
     exact followQ_recs q l _ _ _ _ o h
 termination_by f => f
structure Sg where
 r : Rs
 nms : List (List (List UInt8))
 kind : Int
 turn : Int
 begun : Nat
 pres : Option Xc
 q : Qn
 again : Bool
 nodata : Bool
 told : Nat
 sent : Nat
 done : Bool
 vd : Int
 recs : List RR
 nm : List (List UInt8)
 ttl : Int
theorem t10_get {T : List Value} (h : T.length = 10) (M : List Value) (i : Nat) : (T ++ M)[10 + i]? = M[i]? := by
 rw [List.getElem?_append_right (by omega), h, Nat.add_sub_cancel_left]
theorem t10_set {T : List Value} (h : T.length = 10) (M : List Value) (i : Nat) (v : Value) : (T ++ M).set (10 + i) v = T ++ M.set i v := by
 rw [List.set_append, if_neg (by omega), h, Nat.add_sub_cancel_left]
section
variable {w : World} {g : Nat} {T : List Value} {vn vq vt vr vm : Value} {gl : Nat} {pp : Option Nat} {s : Sg}
end
section
variable {w : World} {g : Nat} {T : List Value} {vn vq vt vr vm : Value} {gl : Nat} {pp : Option Nat} {s : Sg}
end
section
variable {w : World} {g : Nat} {T : List Value} {vn vq vt vr vm : Value} {gl : Nat} {pp : Option Nat} {s : Sg}
end
theorem leftP_all {α : Type} (p : α → Bool) : ∀ (l : List α) (n : Nat), (∀ x ∈ l, p x = true) → l.length ≤ n → leftP p l n = l := by
 intro l n h1 h2
 unfold leftP
 rw [List.filter_eq_self.2 h1, List.take_of_length_le h2]
theorem leftP_twice {α : Type} (p : α → Bool) (l : List α) (n : Nat) : leftP p (leftP p l n) n = leftP p l n := by
 refine leftP_all p _ n (fun x hx => ?_) ?_
 ·
  unfold leftP at hx
  exact (List.mem_filter.1 (List.mem_of_mem_take hx)).2
 ·
  unfold leftP
  rw [List.length_take]
  omega
theorem heldR_twice (r : Rs) : heldR (heldR r) = heldR r := by
 unfold heldR
 have h0 : leftP adOk [quadA 127 0 0 1] 3 = [quadA 127 0 0 1] := by decide
 simp only [leftP_twice]
 congr 1
 ·
  split
  ·
   rw [h0]; simp
  ·
   rename_i h; simp only [leftP_twice]; rw [if_neg h]
 all_goals omega
set_option maxRecDepth 100000
def TyS (w : World) (p : TypeId → Prop) (b i : Nat) : Prop := b ≤ i ∧ ∃ t L, Blk w i t L ∧ p t
theorem Fr.transT {a c d : World} {p : TypeId → Prop} {b : Nat} (h : Fr (TyS a p b) a c) (k : Fr (TyS c p b) c d) : Fr (TyS a p b) a d :=
 ⟨k.os.trans h.os, k.tape.trans h.tape, k.output.trans h.output, Nat.le_trans h.size k.size, fun i hi => by
  rcases h.block i hi with e | e
  ·
   rcases k.block i (Nat.lt_of_lt_of_le hi h.size) with e' | ⟨⟨hb, t, L, hB, hp⟩, t', cs, hb', ht⟩
   ·
    exact .inl (e'.trans e)
   ·
    exact .inr ⟨⟨hb, t, L, e.symm.trans hB, hp⟩, t', cs, e.symm.trans hb', ht⟩
  ·
   exact .inr e⟩
theorem Fr.monoT {a c : World} {p q : TypeId → Prop} {b : Nat} (h : Fr (TyS a p b) a c) (k : ∀ t, p t → q t) : Fr (TyS a q b) a c := h.mono (fun i ⟨h1, t, L, h2, h3⟩ => ⟨h1, t, L, h2, k t h3⟩)
theorem TyS.not {w : World} {p : TypeId → Prop} {b g : Nat} {t : TypeId} {L : List Value} (hb : Blk w g t L) (hp : ¬ p t) : ¬ TyS w p b g := by
 rintro ⟨_, t', L', h, h'⟩
 unfold Blk at h hb
 rw [hb] at h
 injection h with h
 injection h with _ e
 exact hp (e ▸ h')
theorem Fr.toBelowT {w0 w w' : World} {B b : Nat} {p : TypeId → Prop} (h : Fr (TyS w p b) w w') (hb : Below B w0 w) (h1 : B ≤ w.heap.size) (h2 : B ≤ b) : Below B w0 w' := h.toBelow hb h1 (fun i hi k => by have := k.1; omega)
theorem XchgAt.dl {w : World} {g gl : Nat} {D : Option Nat} {x : Xc} (h : XchgAt w g gl D x) : ∀ i, D = some i → ∃ L, Blk w i 437 L := by
 intro i hi
 obtain ⟨_, vn, hs, eb, qs, _, h1, h2⟩ := h
 cases hd : x.done with
 | true => rw [h1 hd] at hi; cases hi
 | false =>
  obtain ⟨_, _, _, h3, h4⟩ := h2 hd
  by_cases hl : x.lg = 2
  ·
   obtain ⟨gd, e, h5⟩ := h4 hl
   rw [hi] at e
   injection e with e
   subst e
   exact h5.blkD
  ·
   rw [h3 hl] at hi; cases hi
theorem XchgAt.frT {w w' : World} {p : TypeId → Prop} {b g gl : Nat} {D : Option Nat} {x : Xc} (h : XchgAt w g gl D x) (k : Fr (TyS w p b) w w') (h1 : ¬ p 331) (h2 : ¬ p 437) : XchgAt w' g gl D x := by
 obtain ⟨L, hL⟩ := h.blk
 exact h.fr k (TyS.not hL h1) (fun i L _ hb => TyS.not hb h2)
theorem LotAt.frT {w w' : World} {p : TypeId → Prop} {b g : Nat} {L : Lt} (h : LotAt w g L) (k : Fr (TyS w p b) w w') (h1 : ¬ p 135) : LotAt w' g L := by
 obtain ⟨cs, hL⟩ := lot_blk h
 exact h.fr k (TyS.not hL h1)
theorem Fr.ownT {w w' : World} {p : TypeId → Prop} {b B : Nat} {e : TypeId} {s n : Nat} {v : Value} {xs : List Value} (h : Fr (TyS w p b) w w') (ho : w.ownsRow B e s v n xs) (he : ¬ p e) : w'.ownsRow B e s v n xs := by
 obtain ⟨h0, ho⟩ := ho
 refine ⟨h0, ?_⟩
 rcases ho with ho | ⟨g, cap, cur, hv, hB, hg, r⟩
 ·
  exact .inl ho
 ·
  exact .inr ⟨g, cap, cur, hv, hB, h.blk (g := g) (t := e) (cs := cur.toList) hg (TyS.not (L := cur.toList) hg he), r⟩
theorem OusN.frY {w w' : World} {p : TypeId → Prop} {b lo : Nat} {v : Value} {l : List Ou} (h : OusN lo w v l) (k : Fr (TyS w p b) w w') (he : ¬ p 415) : OusN lo w' v l := by
 obtain ⟨css, h1, h2⟩ := h
 exact ⟨css, k.ownT h1 he, h2⟩
def XTy (t : TypeId) : Prop := t = 331 ∨ t = 135 ∨ t = 437
theorem LOwn.appFrT {α : Type} {R : List Value → α → Prop} {w w' : World} {b : Nat} {e : TypeId} {k : Nat} {v : Value} {l : List α} {p : TypeId → Prop} (h : LOwn w b e k R v l) (hg : w.grownBy w' v.ownBlock) (he : StTy e) (hp : p e) : Fr (TyS w p b) w w' := by
 obtain ⟨css, h1, _⟩ := h
 rcases h1.2 with ⟨hv, _⟩ | ⟨g', cap, cur, hv, hB, hb, _⟩
 ·
  subst hv
  exact ⟨hg.os, hg.tape, hg.output, hg.size, fun i hi => .inl (hg.block i hi (by intro h; cases h))⟩
 ·
  subst hv
  exact Fr.grown (g := g') (cs := cur.toList) hg hb he ⟨hB, _, cur.toList, hb, hp⟩
theorem tdInfo3 : (prog.info? 284).map (fun i => (i.zero, i.size, i.bytes)) = some (some (.agg (qC nilS ⟨[], 0, 0⟩ ++ (Value.int .i64 0 :: msgZ)).toArray), 18, 184) := by kernel_rfl
theorem td_bI (a b c o0 o1 o2 o3 o4 o5 o6 o7 o8 o9 o10 o11 o12 o13 o14 : Value) (W : World) : (Instr.build 284 #[(0, .agg #[a, b, c]), (1, .agg [o0, o1, o2, o3, o4, o5, o6, o7, o8, o9, o10, o11, o12, o13, o14].toArray)]).run prog W = .ok (.agg (a :: b :: c :: [o0, o1, o2, o3, o4, o5, o6, o7, o8, o9, o10, o11, o12, o13, o14]).toArray) W := by kernel_rfl
theorem td_build (a b c : Value) (O : List Value) (h : O.length = 15) (W : World) : (Instr.build 284 #[(0, .agg #[a, b, c]), (1, .agg O.toArray)]).run prog W = .ok (.agg (a :: b :: c :: O).toArray) W := by
 match O, h with
 | [o0, o1, o2, o3, o4, o5, o6, o7, o8, o9, o10, o11, o12, o13, o14], _ => exact td_bI ..
section
variable {w : World} {g : Nat} {T : List Value} {vn vq vt vr vm : Value} {gl : Nat} {pp : Option Nat} {s : Sg}
end
def OuTy (t : TypeId) : Prop := t = 415
theorem run_bq3 (A : Option Addr) (n c : Nat) (t : Int) (W : World) : (Instr.build 218 #[(0, .slice A n c), (1, .int .i64 t), (2, .int .i64 1)]).run prog W = .ok (.agg [Value.slice A n c, .int .i64 t, .int .i64 1].toArray) W := by kernel_rfl
theorem OusN.ownTy {lo : Nat} {w : World} {v : Value} {l : List Ou} {p : TypeId → Prop} (h : OusN lo w v l) (hp : p 415) : ∀ i, v.ownBlock = some i → TyS w p lo i := by
 intro i e
 obtain ⟨css, h1, _⟩ := h
 rcases h1.2 with ⟨hv, _⟩ | ⟨g', cap, cur, hv, hB, hg, _⟩
 ·
  rw [hv] at e; cases e
 ·
  rw [hv] at e
  injection e with e
  have e : g' = i := e
  subst e
  exact ⟨hB, _, cur.toList, hg, hp⟩
theorem heldR_len (r : Rs) : (heldR r).sv.length ≤ 100 ∧ (heldR r).se.length ≤ 100 ∧ (heldR r).so.length ≤ 100 := by
 have h1 := (held_sv r).2
 refine ⟨by omega, ?_, ?_⟩ <;> (unfold heldR leftP; simp only [List.length_take]; omega)
end Go.Proofs.YteimenplbanooaaGreatDoor

/-
  Layer 29, the laws' own: XchgEnds.
-/
import Derived.Test.YthnbcmlnpdabhaaGreatILq
namespace Go.Proofs.YthnbcmlnpdabhaaGreat
open _root_.Go.Proofs.Tryz
open Go.RowKit
set_option maxRecDepth 100000
set_option linter.unusedVariables false
set_option linter.unusedSimpArgs false
structure InvX (n T : Nat) (x : Xc) (tk : Nat) : Prop where
 tr : x.tr.length = n
 rst : x.sent + x.rest ≤ 3 * n
 phi : x.phi ≤ T - tk
 lg : x.lg ≤ 2
 vd : x.done = true → x.vd ≠ 0
theorem InvX.hear {n T : Nat} {x : Xc} {tk : Nat} (h : InvX n T x tk) (ok : x.ok) (L : Lt) (e : Ev) : InvX n T (hearX x L e).1 (tk + if e.kind = 1 then 1 else 0) ∧ (hearX x L e).1.sent = x.sent + begunL (hearX x L e).2.2 ∧ (hearX x L e).2.1.us ≤ L.us + 2 ∧ (hearX x L e).2.1.ds = L.ds ∧ (hearX x L e).1.d.heard.length ≤ x.d.heard.length + e.data.length := by
 have E := hearX_end ok.st (fun hd => (ok.go hd).2.1) h.lg h.vd L e
 have h1 := h.rst
 have h2 := h.phi
 have h3 := E.snt
 have h4 := E.rst
 have h5 := E.phi
 refine ⟨⟨by rw [E.tr]; exact h.tr, by omega, ?_, E.lg, E.vd⟩, E.snt, E.us, E.ds, E.hd⟩
 split at h5 <;> rename_i hk
 ·
  rw [if_pos hk]; omega
 ·
  rw [if_neg hk]; omega
theorem newX_st (r : Rs) (q : Qn) (turn : Int) (L : Lt) (ok : (newX (heldR r).tmo (heldR r).vc (heldR r).ed q (triesR r turn) L).1.ok) (he : (encM (askM q 0 (heldR r).ed) false).2 = 0) : (startX (heldR r).tmo (heldR r).vc (heldR r).ed q (triesR r turn)).st := by
 have hl := (tries_le r turn).1
 unfold newX at ok
 rw [if_neg (by rw [he]; decide)] at ok
 unfold tryX at ok
 rw [if_pos (by show 0 < (triesR r turn).length; omega)] at ok
 obtain ⟨f1, f2, f3, f4, f5, f6, f7, f8, f9⟩ := legX_f (startX (heldR r).tmo (heldR r).vc (heldR r).ed q (triesR r turn)) L (if (startX (heldR r).tmo (heldR r).vc (heldR r).ed q (triesR r turn)).vc then 2 else 0)
 have st := ok.st (f1.trans rfl)
 exact ⟨by have := st.ips; rwa [f2] at this, by have := st.to1; rwa [f4] at this, by have := st.to2; rwa [f4] at this, by have := st.trl; rwa [f2] at this, by have := st.err; rwa [f8] at this⟩
theorem newX_len (tmo : Int) (vc ed : Bool) (q : Qn) (tr : List Adr) (L : Lt) : (newX tmo vc ed q tr L).2.2.length ≤ 1 := by
 unfold newX
 split
 ·
  exact Nat.zero_le _
 ·
  exact tryX_len _ _
theorem ticks_le (r : Rs) : ticksR r ≤ 1350 ∧ mostR r ≤ 45 := by
 obtain ⟨h1, h2⟩ := tries_le r 0
 obtain ⟨h3, h4⟩ := tmo_le r
 have hm : mostR r ≤ 45 := by unfold mostR; omega
 refine ⟨?_, hm⟩
 unfold ticksR
 have : (heldR r).tmo.toNat ≤ 30 := by omega
 exact Nat.le_trans (Nat.mul_le_mul this hm) (by decide)
end Go.Proofs.YthnbcmlnpdabhaaGreat

/-
  Layer 29, the laws' own: XchgEnds.
-/
import Derived.Test.YthnbcmlnpdabhaaGreatILq
namespace Go.Proofs.YthnbcmlnpdabhaaGreat
open _root_.Go.Proofs.Tryz
open Go.RowKit
set_option maxRecDepth 100000
set_option linter.unusedVariables false
set_option linter.unusedSimpArgs false
structure Kp (n T : Nat) (x : Xc) (tk : Nat) : Prop where
 tr : x.tr.length = n
 rst : x.sent + x.rest <= 3 * n
 Iu : x.Iu <= T - tk
 lg : x.lg <= 2
 vd : x.done = true -> x.vd ≠ 0
theorem Kp.WO {n T : Nat} {x : Xc} {tk : Nat} (h : Kp n T x tk) (ok : x.ok) (L : Lt) (e : Ev) : Kp n T (oI x L e).1 (tk + if e.kind = 1 then 1 else 0) /\ (oI x L e).1.sent = x.sent + qT (oI x L e).2.2 /\ (oI x L e).2.1.us <= L.us + 2 /\ (oI x L e).2.1.ds = L.ds /\ (oI x L e).1.d.heard.length <= x.d.heard.length + e.data.length := by
 have E := Nz ok.st (fun hd => (ok.go hd).2.1) h.lg h.vd L e;have h1 := h.rst;have h2 := h.Iu;have h3 := E.snt;have h4 := E.rst;have h5 := E.Iu;refine ⟨⟨by rw [E.tr]; exact h.tr, ak, ?_, E.lg, E.vd⟩, E.snt, E.us, E.ds, E.hd⟩;split at h5 <;> rename_i hk
 ·rw [if_pos hk]; omega
 ·rw [if_neg hk]; omega
theorem LW (r : Rs) (q : Qn) (turn : Int) (L : Lt) (ok : (rF (nw r).tmo (nw r).vc (nw r).ed q (nY r turn) L).1.ok) (he : (oT (pf q 0 (nw r).ed) false).2 = 0) : (sy (nw r).tmo (nw r).vc (nw r).ed q (nY r turn)).st := by
 have hl := (v8 r turn).1;unfold rF at ok;rw [if_neg (by rw [he]; decide)] at ok;unfold th at ok;rw [if_pos (by show 0 < (nY r turn).length; omega)] at ok;obtain ⟨f1, f2, f3, f4, f5, f6, f7, f8, f9⟩ := uw (sy (nw r).tmo (nw r).vc (nw r).ed q (nY r turn)) L (if (sy (nw r).tmo (nw r).vc (nw r).ed q (nY r turn)).vc then 2 else 0);have st := ok.st (f1.trans rfl);exact ⟨by have := st.ips; rwa [f2] at this, by have := st.to1; rwa [f4] at this, by have := st.to2; rwa [f4] at this, by have := st.trl; rwa [f2] at this, by have := st.err; rwa [f8] at this⟩
theorem Ro (tmo : Int) (vc ed : Bool) (q : Qn) (tr : List oi) (L : Lt) : (rF tmo vc ed q tr L).2.2.length <= 1 := by
 unfold rF;split
 ·exact Nat.zero_le _
 ·exact uP _ _
theorem Kp.new (r : Rs) (q : Qn) (turn : Int) (L : Lt) (hu : L.us = 0) (ok : (rF (nw r).tmo (nw r).vc (nw r).ed q (nY r turn) L).1.ok) : Kp (nY r 0).length (BF r) (rF (nw r).tmo (nw r).vc (nw r).ed q (nY r turn) L).1 0 /\ (rF (nw r).tmo (nw r).vc (nw r).ed q (nY r turn) L).1.sent = qT (rF (nw r).tmo (nw r).vc (nw r).ed q (nY r turn) L).2.2 /\ (rF (nw r).tmo (nw r).vc (nw r).ed q (nY r turn) L).2.1.us <= 2 /\ (rF (nw r).tmo (nw r).vc (nw r).ed q (nY r turn) L).2.1.ds = L.ds /\ (rF (nw r).tmo (nw r).vc (nw r).ed q (nY r turn) L).1.d.heard.length = 0 := by
 have hl : (nY r turn).length = (nY r 0).length := by rw [yK, yK]
 have E := QA (nw r).tmo (nw r).vc (nw r).ed q (nY r turn) L (LW r q turn L ok);have h3 := E.snt;have h4 := E.rst;have h5 := E.Iu;have h6 := E.us;have h7 := E.hd;have h0 : (sy (nw r).tmo (nw r).vc (nw r).ed q (nY r turn)).sent = 0 := rfl;have hT : BF r = (nw r).tmo.toNat * (3 * (nY r 0).length) := rfl;rw [hl] at h4 h5;refine ⟨⟨by rw [E.tr]; exact hl, ak, by rw [hT]; exact h5, E.lg, E.vd⟩, ak, ak, E.ds, ak⟩
theorem Rp (r : Rs) : BF r <= 1350 /\ Ed r <= 45 := by
 obtain ⟨h1, h2⟩ := v8 r 0;obtain ⟨h3, h4⟩ := BD r;have hm : Ed r <= 45 := by unfold Ed; omega
 refine ⟨?_, hm⟩;unfold BF;have : (nw r).tmo.toNat <= 30 := ak;exact Nat.le_trans (Nat.mul_le_mul this hm) aj
theorem Kq {vs vn : Value} {cs : List Value} {q : Qn} {turn : Int} (h : cs.length = 10) : (uQ vs vn cs q turn).length = 15 /\ ((uQ vs vn cs q turn).drop 0).take 10 = cs /\ ((uQ vs vn cs q turn).drop 10).take 3 = qC vn q /\ (uQ vs vn cs q turn)[13]? = some (.int .i64 turn) /\ (uQ vs vn cs q turn)[14]? = some vs := by
 unfold uQ;refine ⟨by simp [qC, h], by rw [List.drop_zero]; exact List.take_left' h, ?_, ?_, ?_⟩
 ·rw [List.drop_left' h]; rfl
 ·exact lF
 ·exact lF
theorem TD : (prog.info? 72).map (·.size) = some 15 := by kernel_rfl
end Go.Proofs.YthnbcmlnpdabhaaGreat

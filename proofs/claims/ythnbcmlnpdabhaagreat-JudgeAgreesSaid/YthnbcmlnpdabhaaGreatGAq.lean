/-
  The common words of this seat's proofs: what a call comes to, and how memory is kept.
-/
import Derived.Test.YthnbcmlnpdabhaaGreatRows
import Derived.WalkKit
import Derived.WalkSpells
import Derived.WalkLawsBesides
import Derived.Deep.QuietTactic
import Derived.BigQuiet
import Derived.Lib.Hide
import Derived.Handy
import Derived.Deep.RegionHeld3
import Derived.StillTailTactics
import Derived.Deep.LoopGhost
import Derived.Deep.RegionLaw
import Derived.Deep.DeepCutAuto
import Derived.Deep.Slices
import Derived.Maps.AppendAt
import Derived.Deep.AppendLies
import Derived.Lib.BufferWrite
import Derived.Laws.CopyOwn
namespace Go.Proofs.YthnbcmlnpdabhaaGreat
section
variable {p : Prop}
theorem ag (h : p := by simp) : p := h
theorem ah (h : p := by simpa using h) : p := h
theorem aj (h : p := by decide) : p := h
theorem ak (h : p := by omega) : p := h
theorem al (h : p := by simp; omega) : p := h
theorem ao (h : p := by rw [xG _ _ _ h1]; exact h2) : p := h
theorem aq (h : p := by simp at hl ⊢; omega) : p := h
theorem ar (h : p := by rw [hl]; exact hi) : p := h
theorem av (h : p := by simpa using hb.there o sub.length hn) : p := h
theorem aw (h : p := by simpa using hi) : p := h
theorem ax (h : p := by cases d <;> first | rfl | cases hd) : p := h
theorem ay (h : p := by simp [World.setCell]) : p := h
theorem az (h : p := by simp [oK]; omega) : p := h
theorem aA (h : p := by simp only [maxLen]; omega) : p := h
theorem aB (h : p := by unfold Program.fieldsOf; rw [underlying24]) : p := h
theorem aC (h : p := by simpa using hb) : p := h
theorem aD (h : p := by have := hB.size; simp; omega) : p := h
theorem aE (h : p := by have := hB2.size; simp; omega) : p := h
theorem aF (h : p := by simp only [maxLen, List.length_drop]; omega) : p := h
theorem aG (h : p := by assumption) : p := h
theorem aH (h : p := by rw [HR.out, HRN.out, List.append_nil]) : p := h
theorem aI (h : p := by rfl) : p := h
theorem aJ (h : p := by simp [Value.oneCell']) : p := h
theorem aK (h : p := by intro k hk; injection hk with hk; omega) : p := h
theorem aL (h : p := by simp [go_sem]) : p := h
theorem aM (h : p := by have := hA.2.2.1; omega) : p := h
theorem aN (h : p := by simp [n7, h.2]) : p := h
theorem aO (h : p := by simp [h0]) : p := h
theorem aP (h : p := by simpa using hk) : p := h
theorem aQ (h : p := by rw [xP]; omega) : p := h
theorem aR (h : p := by rw [hl]; exact oG) : p := h
theorem aS (h : p := by go_simp) : p := h
theorem aT (h : p := by rw [L4l]; exact oG) : p := h
theorem aU (h : p := by have := hN.2.2.1; omega) : p := h
theorem aV (h : p := by rw [hcs]; exact xO hr) : p := h
theorem aW (h : p := by go_grown) : p := h
theorem aX (h : p := by rw [List.length_drop]; omega) : p := h
theorem aY (h : p := by rw [List.length_drop, H12.out]; omega) : p := h
theorem aZ (h : p := by rw [hcs]; rfl) : p := h
theorem bd (h : p := by rw [hds]; rfl) : p := h
theorem bf (h : p := by rw [h]) : p := h
theorem bh (h : p := by simp [pf]) : p := h
theorem bj (h : p := by rw [show MA.length = 33 from pn ⟨rfl, rfl⟩]; omega) : p := h
theorem bl (h : p := by rw [tV, show nR.length = 14 from rfl]; omega) : p := h
theorem bm (h : p := by have := b4.size; simp; omega) : p := h
theorem bn (h : p := by simpa using hgn.symm) : p := h
theorem bp (h : p := by simpa using hgn) : p := h
theorem br (h : p := by simp only [List.length_set]; omega) : p := h
theorem bu (h : p := by rw [hW, hz1, KL]) : p := h
theorem bw (h : p := by rw [hL]; exact qg rfl rfl rfl) : p := h
theorem bx (h : p := by rw [ll]; exact oG) : p := h
theorem bz (h : p := by rw [hd]; simpa using hn) : p := h
theorem bB (h : p := by rw [xP]; exact oG) : p := h
theorem bC (h : p := by rw [hL]; exact qg rfl nv.one rfl) : p := h
theorem bD (h : p := by rw [hsize]; decide) : p := h
theorem bE (h : p := by rw [HK.out]; rfl) : p := h
theorem bF (h : p := by rw [hcl]; exact vp) : p := h
theorem bG (h : p := by rw [hadz, hcl]; decide) : p := h
theorem bH (h : p := by have := g1.size; simp at this; omega) : p := h
theorem bI (h : p := by have := H2.size; simp; omega) : p := h
theorem bJ (h : p := by unfold Hj; decide) : p := h
theorem bK (h : p := by rw [hcl]; exact KT) : p := h
theorem bL (h : p := by rw [ckl]; exact oG) : p := h
theorem bQ (h : p := by have := HBr.size; simp; omega) : p := h
theorem bS (h : p := by simp only [List.length_take]; omega) : p := h
theorem bU (h : p := by rw [<- PL.eq]; exact hl) : p := h
theorem bV (h : p := by unfold oh.y7; simp) : p := h
theorem bX (h : p := by rw [tV]; decide) : p := h
theorem bY (h : p := by simp [HAL.out]) : p := h
theorem bZ (h : p := by simp only [List.length_append, np]; omega) : p := h
theorem cf (h : p := by simp only [List.length_append]; omega) : p := h
theorem cC (h : p := by simp [l]) : p := h
theorem cD (h : p := by simp [oK]) : p := h
theorem cE (h : p := by rw [y.sv.nV h]; omega) : p := h
theorem cF (h : p := by rw [hdl, tX]; omega) : p := h
theorem cG (h : p := by rw [hdl]; exact oy) : p := h
theorem cH (h : p := by have := tX; omega) : p := h
theorem cI (h : p := by rw [hO]; simp [pZ, hr]) : p := h
theorem cJ (h : p := by simp [oO]) : p := h
theorem cK (h : p := by cases h) : p := h
theorem cL (h : p := by rw [hop]; decide) : p := h
theorem cM (h : p := by simp [Act.eval, Act.put]) : p := h
theorem cN (h : p := by rw [hl1]; exact vx) : p := h
theorem cO (h : p := by rw [hcl]; exact Ub) : p := h
theorem cP (h : p := by rw [<- B1'.cell 1]; exact d1) : p := h
theorem cQ (h : p := by rw [hfl]; simp) : p := h
theorem cR (h : p := by rw [E.out]; rfl) : p := h
theorem cS (h : p := by rw [<- HV.out]; rfl) : p := h
theorem cT (h : p := by show x.Iu <= _; omega) : p := h
theorem cU (h : p := by show L.us + 1 <= 1000000000; omega) : p := h
theorem cV (h : p := by rw [hOl]; exact qx) : p := h
theorem cW (h : p := by rw [FV.out]; rfl) : p := h
theorem cX (h : p := by simp; exact h37) : p := h
theorem cY (h : p := by rw [l15]; exact qx) : p := h
theorem cZ (h : p := by rw [tw h1 hq]; omega) : p := h
theorem c6 (h : p := by rw [hMl]; omega) : p := h
theorem c8 (h : p := by rw [hdn]; decide) : p := h
theorem db (h : p := by intro e; injection e with e; omega) : p := h
theorem dc (h : p := by go_simp; exact CF.out _ _ _) : p := h
theorem dd (h : p := by rw [hl15]; exact qx) : p := h
theorem df (h : p := by rw [HRR.out, if_pos he]) : p := h
theorem dg (h : p := by cases c) : p := h
theorem dh (h : p := by rw [hup.dn] at c; cases c) : p := h
theorem di (h : p := by unfold Cw; decide) : p := h
theorem dj (h : p := by rw [Nat.zero_add, sB tX]; decide) : p := h
theorem dr (h : p := by rw [sB tX]; exact IK) : p := h
theorem dv (h : p := by rw [sB tX]; decide) : p := h
theorem dz (h : p := by intro c; injection c with c; have := hc.lt; omega) : p := h
theorem dA (h : p := by rw [Nat.zero_add, sB hdl]; decide) : p := h
theorem dB (h : p := by rw [sB hdl]; exact IK) : p := h
theorem dC (h : p := by rw [sB hdl]; decide) : p := h
theorem dD (h : p := by intro c; injection c with c; omega) : p := h
theorem dE (h : p := by unfold Ge; decide) : p := h
theorem dF (h : p := by rw [FL hla]; omega) : p := h
theorem dG (h : p := by cases he) : p := h
theorem dH (h : p := by rw [hel]; exact Ek) : p := h
theorem dI (h : p := by have := hkl.out; simp only [maxLen]; omega) : p := h
theorem dJ (h : p := by rw [if_pos hm, <- List.append_assoc]; exact HL7) : p := h
theorem dK (h : p := by rw [Nat.zero_add, hl17]; decide) : p := h
theorem dL (h : p := by rw [hl17]; exact IK) : p := h
theorem dM (h : p := by first | (rw [hl17]; decide) | decide) : p := h
theorem dN (h : p := by intro e; injection e with e; exact gne e) : p := h
theorem dO (h : p := by rw [HQL.out.1, tI]; omega) : p := h
theorem dP (h : p := by unfold Gf; decide) : p := h
theorem dQ (h : p := by first | (rw [hOl]; decide) | decide) : p := h
theorem dR (h : p := by first | exact hEk | exact hEk.below bA) : p := h
theorem dS (h : p := by rw [hl9, zl0]; decide) : p := h
theorem dT (h : p := by rw [hl9]; exact qx) : p := h
theorem dU (h : p := by first | (rw [hl9]; decide) | decide) : p := h
theorem dV (h : p := by rw [List.take_of_length_le ak]) : p := h
theorem dW (h : p := by rw [HRR.out, if_neg aj]) : p := h
theorem dX (h : p := by intro e; injection e with e; exact h2.pk h.c aj e) : p := h
theorem dY (h : p := by intro e; injection e with e; exact h3.pk h.c aj e) : p := h
theorem dZ (h : p := by intro e; injection e with e; exact C6.pk B6 aj e) : p := h
theorem ea (h : p := by intro e; injection e with e; exact BZ5.pk hb5 aj e) : p := h
theorem ec (h : p := by intro e; injection e with e; exact B5.pk hb5 aj e) : p := h
theorem ee (h : p := by intro e; injection e with e; exact BQ7.pk BZ7 aj e) : p := h
theorem eg (h : p := by intro e; injection e with e; exact hb7.pk BZ7 aj e) : p := h
theorem eh (h : p := by go_num) : p := h
theorem ei (h : p := by simp only; omega) : p := h
theorem ej (h : p := by simpa using hown) : p := h
theorem en (h : p := by simpa using h2) : p := h
theorem eo (h : p := by show 1 <= x.left - 1; omega) : p := h
theorem et (h : p := by show x.left - 1 <= x.tmo; omega) : p := h
theorem eu (h : p := by trivial) : p := h
theorem ew (h : p := by show u.2.2.2.length + u.2.2.1.length <= _; omega) : p := h
theorem ey (h : p := by show u.2.1.d.heard.length + tK u.2.2.1 <= _; omega) : p := h
theorem eC (h : p := by exact (Below.refl _ _).alloc (Nat.le_refl _) _) : p := h
theorem eD (h : p := by exact ⟨_, Hh rfl⟩) : p := h
theorem eE (h : p := by exact ⟨_, rfl⟩) : p := h
theorem eF (h : p := by rw [hW, hz1]; exact ((Below.refl _ _).alloc (Nat.le_refl _) _).alloc ag _) : p := h
theorem eG (h : p := by exact ((Below.refl _ _).alloc (Nat.le_refl _) _).alloc ag _) : p := h
theorem eH (h : p := by rw [hW, hz1]; exact (nj.new w 119 pr).alloc _) : p := h
theorem eI (h : p := by rw [hW, hz1]; exact nj.ph _ _ pr _ ag) : p := h
theorem eJ (h : p := by obtain ⟨_, _, _, _, _, _, rfl, hr, _⟩ := h; rfl) : p := h
theorem eK (h : p := by exact ng ((((Below.refl _ _).alloc (Nat.le_refl _) _).alloc ag _).alloc al _) hg3 al ak) : p := h
theorem eL (h : p := by exact fun x w => by simp [part, isAgg, run_underlying underlying4, Hd.pc]) : p := h
theorem eM (h : p := by exact pW.oL (w := wr.drew) (oQ.below (Below.refl _ _).drew) g3 (nj.drew R) aj aj) : p := h
theorem eO (h : p := by exact ng (w := wr.drew) bR.drew g3 bR.size ak) : p := h
theorem eP (h : p := by exact (nj.ph _ _ [.int .i64 c0, .int .i64 c1, .int .i64 c2, .int .i64 c3] _ ag).below b1 ag) : p := h
theorem eQ (h : p := by rw [List.drop_of_length_le aQ, List.append_nil] at hb3; exact hb3) : p := h
theorem eR (h : p := by obtain ⟨_, _, _, _, _, _, rfl, hr, _⟩ := h; exact pn hr) : p := h
theorem eS (h : p := by exact Hh (fun w' hS => ⟨nA, v, nA, hL, hwf, by rw [hr]; exact vo.nil _, by rw [hr]; exact nv.stays hS, by rw [hr]; exact vo.nil _, by rw [hr]; simp [RR.zero]⟩)) : p := h
theorem eT (h : p := by exact Hh (fun W hW => by rw [hR2.out, hs2.out]; exact Wi HE.out (ng HX hW HX.size ak) rfl)) : p := h
theorem eU (h : p := by unfold Addr.add; split <;> simp_all) : p := h
theorem eV (h : p := by rw [hW, hz1]; simp) : p := h
theorem eW (h : p := by exact run_equalIn_int w 9998 _ _ _ _ _ underlying3) : p := h
theorem eX (h : p := by exact run_equalIn_bool w 9998 _ _ _ underlying4) : p := h
theorem eY (h : p := by exact ((nj.ph _ 119 pr _ ag).alloc _).grown hg3 ag) : p := h
theorem eZ (h : p := by exact ng ((Below.refl _ _).alloc (Nat.le_refl _) _) g8 ag (Nat.le_refl _)) : p := h
theorem ff (h : p := by exact List.length_eq_zero_iff.1 ak) : p := h
theorem fg (h : p := by exact fun o1 o2 => ((Below.refl _ _).alloc (Nat.le_refl _) _).alloc ag _) : p := h
theorem fh (h : p := by simpa using HE5.out) : p := h
theorem fi (h : p := by exact ((B0.alloc _).alloc _).grown hg3 al) : p := h
theorem fk (h : p := by exact ((nj.new w _ h.pc).alloc _).below b1 al) : p := h
theorem ft (h : p := by exact pW.app (v' := v5) hE oq4 S5 o5) : p := h
theorem fw (h : p := by exact (Below.refl _ _).drew) : p := h
theorem fy (h : p := by exact ng ((Below.refl _ _).alloc (Nat.le_refl _) _) hg4 ag (Nat.le_refl _)) : p := h
theorem fA (h : p := by exact ng ((Below.refl _ _).alloc (Nat.le_refl _) _) g4 ag (Nat.le_refl _)) : p := h
theorem fB (h : p := by exact ng ((Below.refl _ _).alloc (Nat.le_refl _) _) g3 ag (Nat.le_refl _)) : p := h
theorem fC (h : p := by simpa [Hd.ok, and_assoc] using hk) : p := h
theorem fD (h : p := by simpa using he) : p := h
theorem fE (h : p := by exact ng HB hg6 HB.size ak) : p := h
theorem fF (h : p := by exact fun x w => by simp [part, isAgg, run_underlying underlying3, Hd.pc]) : p := h
theorem fG (h : p := by first | exact B8 | exact vf B8 cH) : p := h
theorem fH (h : p := by exact Hh ⟨dsh, A7, c7, rfl, hM7.u9 g8 BZ7 aj aj aj, hL7.hd g8 BZ7, hE7, N8 LO7.out g8 BZ7 aj aj, FW7.out.new g8 ak, hc7⟩) : p := h
theorem fI (h : p := by exact ⟨B1''.grown hg6 ag, B4''.grown hg6 ag⟩) : p := h
theorem fJ (h : p := by unfold sk; rw [hk]; rfl) : p := h
theorem fK (h : p := by rw [IntKind.wrap_u64]; exact Int.emod_eq_of_lt ak ak) : p := h
theorem fL (h : p := by obtain ⟨_, _, _, _, _, _, rfl, hr, _⟩ := hR; rfl) : p := h
theorem fM (h : p := by unfold wW; rw [hk]; rfl) : p := h
theorem fN (h : p := by unfold tG; rw [hk]; rfl) : p := h
theorem fO (h : p := by simp [r.ad.nV h.1]) : p := h
theorem fP (h : p := by simpa [Value.ownBlock] using hk) : p := h
theorem fQ (h : p := by exact hW ▸ below_drewN HX _) : p := h
theorem fR (h : p := by exact ns (pj f0 b4) g5 (.inr (fun k hk => by injection hk with hk; subst hk; exact f0.size))) : p := h
theorem fS (h : p := by simpa using hx) : p := h
theorem fT (h : p := by exact ng (HBr.alloc HBr.size _) hg3 bQ HBr.size) : p := h
theorem fU (h : p := by exact nj.grown R5 g6 al) : p := h
theorem fV (h : p := by exact fun i hi => (hD9 i hi).imp id (fun h => by omega)) : p := h
theorem fW (h : p := by exact ng HB'' hg6 HB''.size ak) : p := h
theorem fX (h : p := by exact Hh (fun t ht => Nat.le_trans (JT _ _ (Nat.le_refl _) t ht) (by simp [maxLen]; omega))) : p := h
theorem fY (h : p := by exact pE R4 ow2 aj g5) : p := h
theorem fZ (h : p := by exact hW ▸ below_drewN hB nq) : p := h
theorem gf (h : p := by exact HB2.trans (Kr.1.mono HB2.size)) : p := h
theorem gh (h : p := by exact ns (nG HW _) (nT (World.grownBy.refl _ _) _ _) (.inl rfl)) : p := h
theorem gi (h : p := by exact ns (rX G7 _) g8 (.inr (fun k hk => by injection hk with hk; omega))) : p := h
theorem gk (h : p := by rw [<- LS.out]; simpa only [oi.OT, List.append_assoc] using hb4) : p := h
theorem gu (h : p := by exact fun o1 o2 o3 => (((Below.refl _ _).alloc (Nat.le_refl _) _).alloc ag _).alloc al _) : p := h
theorem gv (h : p := by exact decide_eq_false ak) : p := h
theorem gA (h : p := by rw [hcs]; exact tV _ _ _ _ _) : p := h
theorem gB (h : p := by exact (nj.ph (w.alloc (.cells nR.toArray 50)) 142 [.int .i64 0] _ ag).below b1 ag) : p := h
theorem gC (h : p := by exact fun x hx w => by simp [part, isAgg, run_underlying underlying3, x.zi hx]) : p := h
theorem gD (h : p := by exact Hh (F7'.WN HLo5.out (fun i hi => ⟨_, _, hi ▸ hb5.drew, aj, aj⟩) dE dE)) : p := h
theorem gE (h : p := by exact HF6.out.toBelow hw0 hw0.size (fun i hi h => by rcases h with h | h <;> omega)) : p := h
theorem gF (h : p := by exact ng ((Below.refl _ _).alloc (Nat.le_refl _) _) g6 ag (Nat.le_refl _)) : p := h
theorem gG (h : p := by simpa [World.setCell] using hs3) : p := h
theorem gH (h : p := by simpa [Value.ownBlock] using he) : p := h
theorem gI (h : p := by exact nT (World.grownBy.refl _ _) _ _) : p := h
theorem gJ (h : p := by exact Hh (fun V hV => hV.pF 37 0 23 ak _ underlying37 rfl Bj _ (qj ak))) : p := h
theorem gK (h : p := by exact hW ▸ below_drewN (Below.refl _ _) _) : p := h
theorem gL (h : p := by exact hW ▸ E.drewN _) : p := h
theorem gM (h : p := by exact Hh (fun V hV => hV.pF 42 0 22 ak _ underlying42 rfl Ek _ (qj ak))) : p := h
theorem gN (h : p := by simpa using hc) : p := h
theorem gO (h : p := by simpa using h1) : p := h
theorem gP (h : p := by rw [hr]; exact ⟨rfl, rfl⟩) : p := h
theorem gQ (h : p := by exact fun x w => by simp [part, isAgg, run_underlying underlying3, oi.cells]) : p := h
theorem gR (h : p := by exact nc aW al b1) : p := h
theorem gS (h : p := by exact ⟨[], pL.nil _, ag, h3, g3', by simp [Value.ownBlock], ag, rfl⟩) : p := h
theorem gT (h : p := by simp [hdl]) : p := h
theorem gU (h : p := by exact hW ▸ k1.drewN nq) : p := h
theorem gV (h : p := by exact hW ▸ k0.drewN nq) : p := h
theorem gX (h : p := by exact fun j t cs hne hb => hW ▸ I6 hb.drew _ (hb.pk q3 hne)) : p := h
theorem gY (h : p := by exact fun _ _ _ _ => rfl) : p := h
theorem gZ (h : p := by unfold oq; split <;> rfl) : p := h
theorem hU (h : p := by simp at hn; omega) : p := h
theorem ic (h : p := by rw [<- hsub]; simp; omega) : p := h
theorem ie (h : p := by rw [<- hM]; simp) : p := h
theorem ig (h : p := by rw [hcs]; exact pn hr) : p := h
theorem ij (h : p := by unfold rR; rw [if_pos h]; simp [Gp, pb]) : p := h
theorem ik (h : p := by exact (wQ (x := { x with left := x.left - 1 }) hd).trans hr.symm) : p := h
theorem il (h : p := by rw [h2.hcs]; rfl) : p := h
theorem im (h : p := by rw [<- hX]; exact (nj.ph _ _ _ _ ag).alloc _) : p := h
theorem ir (h : p := by simpa using hlt) : p := h
theorem iu (h : p := by simpa using he0) : p := h
theorem iw (h : p := by simp [tX]) : p := h
theorem ix (h : p := by exact hW ▸ qK (nT (World.grownBy.refl _ _) 28 _)) : p := h
theorem iy (h : p := by rw [<- HO.out, Nat.sub_self]; exact Mt) : p := h
theorem iz (h : p := by exact hW ▸ qK (nT (World.grownBy.refl _ _) 2 _)) : p := h
theorem iA (h : p := by exact nc (w := w4.drew) (below_drewN HB' 1) HB'.size b5) : p := h
theorem iB (h : p := by simpa using hs) : p := h
theorem iC (h : p := by simpa using h0) : p := h
theorem iD (h : p := by unfold oq; split <;> exact ⟨rfl, rfl⟩) : p := h
theorem iE (h : p := by simp [pO]) : p := h
theorem iF (h : p := by exact Ha hL hwf) : p := h
theorem iG (h : p := by exact fun i hi h => h.elim id (fun h => absurd (HEb i h) ak)) : p := h
theorem iH (h : p := by simp [maxLen]; omega) : p := h
theorem iI (h : p := by exact IntWalk.i64_in _ ak) : p := h
theorem iJ (h : p := by exact nj.ph _ _ _ _ ag) : p := h
theorem iK (h : p := by rw [<- zE, List.take_append_drop]) : p := h
theorem iL (h : p := by rw [List.length_append, np, hB]) : p := h
theorem iM (h : p := by rw [List.length_append, np, hA]) : p := h
theorem iN (h : p := by exact hW ▸ (Wb hpl hk (.int .u8 (a.toNat : Int))).drew) : p := h
theorem iO (h : p := by exact Hh (fun V hV => LQ.out V (nc H3 H3.size hV))) : p := h
theorem iP (h : p := by simpa using (congrArg Prod.fst ha).symm) : p := h
theorem iQ (h : p := by exact hW ▸ (WT hpl hk (.int .u8 (a.toNat : Int))).drew) : p := h
theorem iR (h : p := by rw [<- hX]; exact nj.ph _ _ _ _ ag) : p := h
theorem iS (h : p := by exact qz E0) : p := h
theorem iT (h : p := by exact Hh (fun k hk => MK.r _ bV)) : p := h
theorem iU (h : p := by exact (j5.vU (fun _ _ _ _ hb => hb.alloc _)).vU hkp) : p := h
theorem iV (h : p := by exact hW ▸ om.drew _ _ (om.QW hk 2 _ _ _ hc)) : p := h
theorem iW (h : p := by exact hW ▸ om.drew _ _ (om.set hk 28 _ _ _ hc)) : p := h
theorem iX (h : p := by simp at hj; omega) : p := h
theorem iY (h : p := by exact xP) : p := h
theorem iZ (h : p := by exact ns (rX f5 _) g6 (.inr OB.out)) : p := h
theorem ja (h : p := by exact Hh (fun W => by rw [hce]; exact MS.out _ hip W)) : p := h
theorem jc (h : p := by simpa [Addr.add] using Ey h00) : p := h
theorem jd (h : p := by rw [isv]; exact zw hst.ips _) : p := h
theorem je (h : p := by rw [hL, hr]; rfl) : p := h
theorem jf (h : p := by exact ⟨hT2, by rw [HNN.out]; exact hn, hll.out⟩) : p := h
theorem jg (h : p := by exact hW ▸ below_setRow q4.drew (Nat.le_refl _) _) : p := h
theorem jh (h : p := by exact run_equalIn_int w 9997 _ _ _ _ _ underlying3) : p := h
theorem ji (h : p := by exact Hh (fun V => by rw [hcs]; exact Bl ..)) : p := h
theorem jj (h : p := by simpa using hty) : p := h
theorem jk (h : p := by simpa using hin) : p := h
theorem jl (h : p := by simpa using hck) : p := h
theorem jm (h : p := by simpa [Value.ownBlock] using hv) : p := h
theorem jn (h : p := by rw [hce]; exact oi.qb _) : p := h
theorem jo (h : p := by rw [hy1.1]; exact hN.stays HS6) : p := h
theorem js (h : p := by rw [h.hcs]; exact qS h.ip) : p := h
theorem jt (h : p := by exact hf 1 _ rfl) : p := h
theorem ju (h : p := by exact hf 0 _ rfl) : p := h
theorem jv (h : p := by simpa using hn) : p := h
theorem jw (h : p := by simpa using h6) : p := h
theorem jx (h : p := by simpa using h3) : p := h
theorem jy (h : p := by rcases h with h | h <;> omega) : p := h
theorem jz (h : p := by exact ((nj.new w 50 nR).alloc _).below b1 al) : p := h
theorem jA (h : p := by rw [hvt]; rfl) : p := h
theorem jB (h : p := by rw [hcl]; rfl) : p := h
theorem jC (h : p := by rw [pb]; exact hs') : p := h
theorem jD (h : p := by
 go_wp2_with (first
  | (refine nh (.load 119 (.tmp 12)) rfl ?_; go_must (refine ni rfl _ _ rfl (w.heap.size + 1) 0 rfl B2 33 ak _ underlying119 rfl oG L (qj ak) ?_))
  | (refine nh (.store 119 (.tmp 10) (.tmp 79)) rfl (ab rfl w.heap.size 0 L A2 aQ bx l1.out ?_)))
 intro w3 hb3 hg3 _;rw [List.drop_of_length_le aQ, List.append_nil] at hb3;have S3 := nQ.oL hg3 A2 aj;have HB3 := ng HB2 hg3 HB2.size (Nat.le_refl _);clear hg3 A2 B2 HB2;go_wp2_with fail;refine oF rfl w.heap.size rfl hb3 _ underlying119 rfl bx rfl (.int .i64 0) rfl ?_;exact ⟨L, rfl, OW.out _ S3, HB3⟩
 ) : p := h
theorem jE (h : p := by
 go_wp2_with (first
  | (refine nh (.load 119 (.tmp 76)) rfl ?_; go_must (refine pv rfl 119 (.tmp 76) rfl ba (oa + k * 33) rfl ck hRk _ underlying119 rfl bL ?_))
  | (refine nh (.store 119 (.tmp 17) (.tmp 77)) rfl (ab rfl wr.heap.size 0 ck (nj.ph _ _ pr _ ag) aQ bL ck1.out ?_)))
 intro w4 hb4 hg4 hs4;rw [List.drop_of_length_le aQ, List.append_nil] at hb4;have bo : Below wr.heap.size wr w4 := fy;have W4 := Wr.below bo;have K4 := Kr.trans (o9.xK bo hlo);have HB4 := nc HBr HBr.size bo;have hlo4 := Nat.le_trans hlo bo.size;clear hg4 hs4 hRk HBr bo Wr Kr hlo;go_wp2_with (refine nh (.load 119 (.tmp 17)) rfl ?_; go_must (refine ni rfl _ _ rfl wr.heap.size 0 rfl hb4 33 ak _ underlying119 rfl oG ck (qj ak) ?_));refine (RC.out _ W4 HB4 hlo4).mono ?_;rintro _ w5 ⟨rfl, W5, K5⟩;have K5' := K4.trans K5;clear RC hb4 W4 K4 HB4 hlo4 K5;have RM := Hh (fun hl => GP w2.heap.size gw sn.1 p sn.2 0 w5 W5 hl);by_cases h5 : 65535 < sn.1.length
 ·obtain ⟨rfl, rfl⟩ := RL.out (Nat.lt_of_lt_of_le h5 LN.out);have RM' := Hh (RM.out hmax);rw [if_pos ⟨rfl, h5⟩] at RM';clear RM hmax;go_wp2_with fail;refine RM'.out.mono ?_;rintro _ w6 ⟨rfl, rfl⟩;clear RM' h5 LN ST;go_wp2_with fail;go_ret2;exact nM.mk rfl (HB2.trans (K5'.1.mono HB2.size))
 ·
  have RM' := Hh (RM.out ak);rw [if_neg (fun h => h5 h.2)] at RM';clear RM;go_wp2_with fail;refine RM'.out.mono ?_;rintro _ w6 ⟨rfl, rfl⟩;clear RM' LN;go_wp2_with fail;go_roundw
  case rel => exact ⟨k + 1, ak, eh, by rw [HSN.out]; omega, by rw [HSN.out]; exact W5, K5'⟩
  case measure => simp [intOf]; omega
 ) : p := h
theorem jF (h : p := by
 go_wp2_with fail;refine leaves_cons (f := 214) (args := #[.pointer (some ⟨w.heap.size, 0, none⟩), .pointer (some ⟨w.heap.size + 1, 0, none⟩)]) ag aL ?_;refine (MO w.heap.size _ (tV _ _ _ _ _) _ _ _ M3 E3).mono ?_;rintro e u' w4 ⟨rfl, rfl, c0, c1, k4⟩;have b4 := b3.trans k4;simp only [settle];refine xi rfl rfl c0 rfl c1 ?_;exact ⟨NE.out _ rfl, rfl, b4⟩
 ) : p := h
theorem jG (h : p := by
 have k1 : (0 : Int) <= a := ak;have k2 : (0 : Int) <= n := ak;have k3 : (a : Int) <= m.length := ak;have k4 : (n : Int) <= (m.length : Int) - a := ak;have k5 : (a : Int) + n <= m.length := ak;have hs0 : ((a : Int) + n).toNat = a + n := ak;obtain ⟨z1, hz1⟩ : ∃ z1, z1 = w.alloc (.cells pr.toArray 119) := eE;obtain ⟨W, hW⟩ : ∃ W, W = z1.alloc (.cells pr.toArray 119) := eE;have B10 : nj W w.heap.size 119 pr := eH;have B12 : nj W (w.heap.size + 1) 119 pr := eI;have HB : Below w.heap.size w W := eF;have HW : Hid ((w.alloc (.cells #[.slice none 0 0, .int .i64 0, .int .i64 0, .int .i64 0, .int .i64 0, .int .u8 0, .int .u8 0, .int .u8 0, .int .u8 0, .int .u8 0, .int .u8 0, .int .u8 0, .int .u8 0, .int .u8 0, .int .u8 0, .int .u8 0, .int .u8 0, .int .u8 0, .int .u8 0, .int .u8 0, .int .u8 0, .int .i64 0, .slice none 0 0, .slice none 0 0, .int .i64 0, .int .i64 0, .int .i64 0, .int .i64 0, .int .i64 0, .int .i64 0, .int .i64 0, .int .i64 0, .string ⟨#[]⟩] 119)).alloc (.cells #[.slice none 0 0, .int .i64 0, .int .i64 0, .int .i64 0, .int .i64 0, .int .u8 0, .int .u8 0, .int .u8 0, .int .u8 0, .int .u8 0, .int .u8 0, .int .u8 0, .int .u8 0, .int .u8 0, .int .u8 0, .int .u8 0, .int .u8 0, .int .u8 0, .int .u8 0, .int .u8 0, .int .u8 0, .int .i64 0, .slice none 0 0, .slice none 0 0, .int .i64 0, .int .i64 0, .int .i64 0, .int .i64 0, .int .i64 0, .int .i64 0, .int .i64 0, .int .i64 0, .string ⟨#[]⟩] 119) = W) := Hh bu;have hWs : W.heap.size = w.heap.size + 1 + 1 := eV;clear hW hz1;go_enter func251, ntmps251;go_wp2_with fail;rw [HW.out];refine (K.out W).mono ?_;rintro _ w1 ⟨rfl, rfl⟩;clear K HW;go_wp2_with fail;refine (TG.out (w.heap.size + 1) W B12).mono ?_;rintro _ w2 ⟨hx, rfl, B2, g2⟩;have hxz : (x != 0) = true := fS;have A2 := B10.grown g2 ag;have HB2 := ng HB g2 HB.size ak;clear B12 B10 HB TG g2;go_wp2_with (refine nh (.store 119 (.tmp 10) (.tmp 77)) rfl (ab rfl w.heap.size 0 pr A2 aQ bB xU ?_));intro w3 hb3 hg3 _;rw [List.drop_of_length_le aQ, List.append_nil] at hb3;have HB3 := ng HB2 hg3 HB2.size (Nat.le_refl _);clear hg3 A2 HB2;go_wp2_with fail;refine oF rfl w.heap.size rfl hb3 _ underlying119 rfl bB rfl (.int .i64 x) rfl ?_;exact ⟨hx, rfl, HB3⟩
 ) : p := h
theorem jH (h : p := by
 clear hn hd;have k1 : (0 : Int) <= a := ak;have k2 : (0 : Int) <= n := ak;have k3 : (a : Int) <= m.length := ak;have k4 : (n : Int) <= (m.length : Int) - a := ak;have k5 : (a : Int) + n <= m.length := ak;have hs0 : ((a : Int) + n).toNat = a + n := ak;obtain ⟨z1, hz1⟩ : ∃ z1, z1 = w.alloc (.cells pr.toArray 119) := eE;obtain ⟨W, hW⟩ : ∃ W, W = z1.alloc (.cells pr.toArray 119) := eE;have B10 : nj W w.heap.size 119 pr := eH;have B12 : nj W (w.heap.size + 1) 119 pr := eI;have HB : Below w.heap.size w W := eF;have HW : Hid ((w.alloc (.cells #[.slice none 0 0, .int .i64 0, .int .i64 0, .int .i64 0, .int .i64 0, .int .u8 0, .int .u8 0, .int .u8 0, .int .u8 0, .int .u8 0, .int .u8 0, .int .u8 0, .int .u8 0, .int .u8 0, .int .u8 0, .int .u8 0, .int .u8 0, .int .u8 0, .int .u8 0, .int .u8 0, .int .u8 0, .int .i64 0, .slice none 0 0, .slice none 0 0, .int .i64 0, .int .i64 0, .int .i64 0, .int .i64 0, .int .i64 0, .int .i64 0, .int .i64 0, .int .i64 0, .string ⟨#[]⟩] 119)).alloc (.cells #[.slice none 0 0, .int .i64 0, .int .i64 0, .int .i64 0, .int .i64 0, .int .u8 0, .int .u8 0, .int .u8 0, .int .u8 0, .int .u8 0, .int .u8 0, .int .u8 0, .int .u8 0, .int .u8 0, .int .u8 0, .int .u8 0, .int .u8 0, .int .u8 0, .int .u8 0, .int .u8 0, .int .u8 0, .int .i64 0, .slice none 0 0, .slice none 0 0, .int .i64 0, .int .i64 0, .int .i64 0, .int .i64 0, .int .i64 0, .int .i64 0, .int .i64 0, .int .i64 0, .string ⟨#[]⟩] 119) = W) := Hh bu;have hWs : W.heap.size = w.heap.size + 1 + 1 := eV;clear hW hz1;go_enter func251, ntmps251;go_wp2_with fail;rw [HW.out];refine (K.out W).mono ?_;rintro _ w1 ⟨rfl, rfl⟩;clear K HW;go_wp2_with fail;rw [List.take_take, Nat.min_self];refine (GA.out (w.heap.size + 1) W).mono ?_;rintro _ w2 ⟨rfl, rfl⟩;have A2 := B10;have HB2 := HB;clear B12 B10 HB GA;go_wp2_with (refine nh (.store 119 (.tmp 10) (.tmp 77)) rfl (ab rfl w.heap.size 0 pr A2 aQ bB xU ?_));intro w3 hb3 hg3 _;rw [List.drop_of_length_le aQ, List.append_nil] at hb3;have HB3 := ng HB2 hg3 HB2.size (Nat.le_refl _);clear hg3 A2 HB2;go_wp2_with fail;refine oF rfl w.heap.size rfl hb3 _ underlying119 rfl bB rfl (.int .i64 5) rfl ?_;exact ⟨hx, rfl, HB3⟩
 ) : p := h
theorem jI (h : p := by
 go_wp2_with (first
  | (refine nh (.load 119 (.tmp 66)) rfl ?_; go_must (refine pv rfl 119 (.tmp 66) rfl ba (oa + k * 33) rfl ck hRk _ underlying119 rfl bL ?_))
  | (refine nh (.store 119 (.tmp 12) (.tmp 67)) rfl (ab rfl wr.heap.size 0 ck (nj.ph _ _ pr _ ag) aQ bL ck1.out ?_)))
 intro w3 hb3 hg3 hs3;rw [List.drop_of_length_le aQ, List.append_nil] at hb3;have HB3 : Below w.heap.size w w3 := fT;clear hg3 hs3 hRk HBr;go_wp2_with (refine nh (.load 119 (.tmp 12)) rfl ?_; go_must (refine ni rfl _ _ rfl wr.heap.size 0 rfl hb3 33 ak _ underlying119 rfl oG ck (qj ak) ?_));refine (CK.out _ HB3).mono ?_;rintro _ w4 ⟨rfl, b4⟩;have HB4 := nc HB3 HB3.size b4;clear CK hb3 b4 HB3;by_cases he0 : ek = 0
 ·
  subst he0;go_wp2_with fail;go_roundw
  case rel => exact ⟨k + 1, ak, eh, Hh (HJ2.out trivial), HB4⟩
  case measure => simp [intOf]; omega
 ·have e1 : (ek != 0) = true := iu;have e2 := FK.out he0;subst e2;have hr0 := HEX.out.trans (if_pos he0);subst hr0;clear HEX FK HJ2 he0;go_wp2_with fail;go_ret;exact nM.mk rfl HB4
 ) : p := h
theorem jJ (h : p := by
 obtain ⟨kk, next, rfl, r1, r2, r3⟩ := q1;obtain rfl : o = some ⟨kk, 0, none⟩ := ho;obtain ⟨o2, ho2⟩ : ∃ o2 : Option Addr, o2 = next.map fun k => ⟨k, 0, none⟩ := eE
 rw [<- ho2] at r2;have HO := Hh ho2;clear ho2;have c0 := r2.nf 0 rfl;have c1 := r2.nf 1 rfl;rw [vT] at q2;have hlen : (tu rest).length + t.length + done.length = p.length := by rw [<- q2]; simp; omega
 have hpos : 0 < t.length := List.length_pos_iff.2 r1;have hl1 : t.length + done.length <= p.length := ak;obtain ⟨m, hm1⟩ : ∃ m, m = p.length - (t.length + done.length) := eE;rw [show p.length - done.length = m + t.length by omega];have hfl := Fk p.length done ak;have hcp := xI wr.drew w.heap.size m (p.length - m) (p.length - m) t (s9 p.length done) q3.drew ak ak;have hfc := JM p.length t done hl1;rw [<- hm1] at hfc;rw [hfc] at hcp;have hmp : m <= p.length := ak;have hne : ¬ p.length = m := ak;have hgk := r2.lt;have Q2 := Hh q2;have HL := Hh hlen;have HM := Hh hm1;clear hfc hfl q2 hlen hm1;generalize hF : s9 p.length (t ++ done) = F at *;have HF := Hh hF;clear hF;go_wp2_with fail;go_region;obtain ⟨W, hW⟩ : ∃ W, W = wr.drew.setRow w.heap.size F.toArray := eE;rw [<- hW];have hkeep : ∀ j t cs, t ≠ 5 -> nj wr j t cs -> nj W j t cs := gX;have s0 := hkeep _ _ _ aj q0;have s2 := hkeep _ _ _ aj r2;have s3 := om.vU (fun j cs hb => hkeep j _ cs aj hb) _ _ r3;have s4 : nj W w.heap.size 5 F := hW ▸ xg q3.drew F;have s5 : Below w.heap.size w W := jg;clear hW hkeep hcp q0 q3 q4 r2 r3 c0 c1;have c1 := s2.nf 1 rfl;go_wp2_with fail;go_roundw
 case rel => refine ⟨next, rest, t ++ done, o2, HO.out, ?_, rfl, s0, s3, by rw [<- List.append_assoc]; exact Q2.out, by rw [HF.out]; exact s4, s5⟩;have := HM.out;rw [List.length_append, this]
 case measure => simp [intOf]; omega
 ) : p := h
theorem jK (h : p := by
 generalize e.fr.cells = fc at *;generalize y.sv.cells = sc at *;go_enter func228, ntmps228;go_wp2_with (first
  | (refine nh (.load 24 (.tmp 10)) rfl ?_; go_must (refine pS 24 (.tmp 10) rfl aS (w.heap.size + 1) 1 rfl B3 18 ak _ underlying24 rfl yb _ SE.out ?_))
  | (refine nh (.load 24 (.tmp 12)) rfl ?_; go_must (refine pS 24 (.tmp 12) rfl aS w.heap.size 0 rfl B2 18 ak _ underlying24 rfl yb _ SQ.out ?_))
  | (refine nh (.store 50 (.tmp 4) (.tmp 28)) rfl (ab rfl (w.heap.size + 1 + 1) 0 nR B4 cH oy vP ?_)))
 intro w8 B8 g8 _;replace B8 : nj w8 (w.heap.size + 1 + 1) 50 nR := fG;have HB8 := ng HB g8 HB.size ak;clear g8 HB B4;go_wp2_with fail;refine oF rfl (w.heap.size + 1 + 1) rfl B8 _ underlying50 rfl oy rfl (.bool false) rfl ?_;rw [HF.out];exact ⟨nR, rfl, nL.zero _, HB8⟩
 ) : p := h
theorem jL (h : p := by
 clear hS M4 M3 E3 C3 b3 kn ow hE ow2 Bn hrg oq4 oq3 b4 R3 R4 E4 C4 hr5 o5 g5 S5 q5 M5 R5 E5 C5 b5 g6 g3 QC hcl;go_wp2_with fail;go_roundw
 case rel => exact ⟨k + 1, acc ++ [q], p', _, ak, eh, Hh bY, M6, q6, R6, l3, E6, C6, b6, HO1⟩
 case measure => simp [intOf]; omega
 ) : p := h
theorem jM (h : p := by
 intro w6 hb6 hg6 hs6;rw [List.drop_of_length_le aQ, List.append_nil] at hb6;have HB6 : Below w.heap.size w w6 := fE;clear hg6;go_wp2_with fail;refine oF rfl (w.heap.size + 1) rfl hb6 _ underlying119 rfl aT rfl _ rfl ?_;exact nM.mk rfl HB6
 ) : p := h
theorem jN (h : p := by
 go_wp2_with (refine nh (.store 119 (.tmp 10) (.tmp 77)) rfl (ab rfl w.heap.size 0 pr A2 aQ bB xU ?_));intro w3 hb3 hg3 _;rw [List.drop_of_length_le aQ, List.append_nil] at hb3;have HB3 := ng HB2 hg3 HB2.size (Nat.le_refl _);clear hg3 A2 HB2;go_wp2_with fail;refine oF rfl w.heap.size rfl hb3 _ underlying119 rfl bB rfl (.int .i64 x) rfl ?_;exact ⟨hx, rfl, HB3⟩
 ) : p := h
theorem jO (h : p := by
 rintro e w7 ⟨rfl, j7, g7⟩;go_wp2_with fail;go_ret;obtain ⟨_, _, _, _, _, jb, _⟩ := j5.below b6;exact ⟨_, rfl, by rw [E1.out, (oZ _ hno).1, List.append_nil]; exact (t5.below b6).grown g7 jb aj, by rw [E2.out, (oZ _ hno).2]; exact j7, ns (pj f5 b6) g7 (.inl rfl)⟩
 ) : p := h
theorem jP (h : p := by
 rcases HT with rfl | ⟨rfl, rfl⟩;all_goals
  go_enter func196, ntmps196;go_wp2_with fail;go_ret;exact nM.mk cR HX
 ) : p := h
theorem jQ (h : p := by
 have FF := Hh (FIN.out _ g7);clear g7 FIN BZ;go_wp2_with fail;refine oP rfl (w.heap.size + 1) rfl B7 _ underlying305 rfl dr rfl ?_;exact FF.out
 ) : p := h
theorem jR (h : p := by
 go_enter func18, ntmps18;go_wp2_with fail;go_quiet (fail);obtain ⟨W, hW⟩ : ∃ W, W = (w.alloc (.cells es.toArray 42)).drewN nq := eE;rw [<- hW];have HW : Below w.heap.size w W := fQ;have EW : nj W w.heap.size 42 es := gL;have JW := hJ.below HW;clear hW c18 c24 d20 E hJ HX;obtain ⟨vn, L, ds, hbk, hL, _, _, _, _, _, c23, c24, c25, _⟩ := JW.oL;have a23 := hbk.nf 23 c23;have a24 := hbk.nf 24 c24;have a25 := hbk.nf 25 c25;have f24 := hbk.frozen 24;have f25 := hbk.frozen 25;have hgl := hbk.lt;have d0 := EW.nf 0 E0;have d21 := EW.nf 21 E21;clear c23 c24 c25 EW hbk hL;rw [hop] at a25;clear hop;go_wp2_with fail;go_ret;rw [HR2.out];exact ⟨_, rfl, pX.nil _ _, ⟨p, JW, HK.out⟩, nG HW _⟩
 ) : p := h
theorem jS (h : p := by
 have f6 : w.grownBy w6 (some g) := iZ;have t6 : pL w6 (.slice (some ⟨gg, 0, none⟩) (done.length + 1) cap) (done ++ [y8 r]) := by unfold pL;rw [M1.out];simpa using own6
 have ob6 : w.heap.size <= gg := by
  rcases hat with e | e
  ·exact OB.out _ e
  ·have := f5.size; omega
 have OB6 := Hh ob6;have T6 := Hh t6;clear hkp own6 g6 hat OB t5 j5 f5 ob6 t6;go_wp2_with fail;go_roundw
 case rel =>
  refine ⟨r.drop (2 + n), rfl, done ++ [y8 r], T6.out, ?_, j6, f6, ?_, ?_, ?_⟩
  ·simp; omega
  ·intro k hk;have : gg = k := fP;subst this; exact OB6.out
  ·rw [E1.out, F1.out.1, R1.out]; simp
  ·rw [E2.out, F1.out.2, R1.out]
 case measure => simp [JN]; omega
 ) : p := h
theorem jT (h : p := by
 go_wp2_with fail;go_ret;exact nM.mk rfl HB
 ) : p := h
theorem jU (h : p := by
 go_wp2_with fail;refine (C.out).mono ?_;intro e1 w9 hx;have hx := hx.back FW.out;obtain ⟨v, D', rfl, hx2⟩ := hx;have HX := Hh hx2;clear hx2 hx;go_wp2_with fail;go_ret;rw [HR2.out];exact ⟨v, D', rfl, HX.out⟩
 ) : p := h
theorem jV (h : p := by
 generalize x.fam = fm at *;generalize x.cells = L at *;clear hf h6 hr;go_enter func183, ntmps183;go_wp2_with fail;go_ret;exact nM.mk (ru HR.out.symm) ((Below.refl _ _).alloc (Nat.le_refl _) _)
 ) : p := h
theorem jW (h : p := by
 obtain ⟨A', c', rfl⟩ := sT h2;unfold Oper.wp execOp;simp only [ho, resolve, invoke, builtin, Sem.run_bind, Sem.run_pure, Result.andThen_ok, List.map_toArray, List.map_cons, List.map_nil, hs, hx, hr];exact hK _ _ (h A' c' w' h2 h3)
 ) : p := h
theorem jX (h : p := by
 refine FJ4.out.mono ?_;rintro _ w9 ⟨rfl, hL9, F9⟩;have FIN : Hid (yo J w (.returned (.pointer (some ⟨gx, 0, none⟩))) w9) := Hh (by
  rw [HR3.out];exact ⟨gx, gl, .slice A1 nl c1, AA, _, rfl, hL9, (F9.Vk (p := Gf) (B := w.heap.size) (S' := fun i => i = gx) (fun _ h => h)).toBelow (nc HB HB.size k8) (Nat.le_trans HB.size k8.size) (fun i hi h => by have := hL9.lo; omega)⟩)
 clear FJ4 hL9 F9 HR3;go_wp2_with fail;go_ret;exact FIN.out
 ) : p := h
theorem jY (h : p := by
 go_ret;exact nM.mk rfl HB
 ) : p := h
theorem jZ (h : p := by
 have hfin := And.left ‹Below w.heap.size w _ /\ _›;go_wp2_with fail;go_ret;refine nM.mk (sd ?_) hfin;rw [IntWalk.i64_in _ ak];have := HN.out;simp only [List.length_cons] at this;simp only [oO, List.length_cons, List.take_succ_cons, List.take_zero];rw [Bool.eq_iff_iff];simp only [decide_eq_true_eq, Bool.and_eq_true];constructor
 ·intro hh;refine ⟨ak, decide_eq_true ?_⟩;omega
 ·rintro ⟨_, hh⟩;have := of_decide_eq_true hh;omega
 ) : p := h
theorem j2 (h : p := by
 go_wp2_with fail;go_ret;exact rN.mk rfl rfl
 ) : p := h
theorem j8 (h : p := by
 go_ret;exact rN.mk rfl rfl
 ) : p := h
theorem j9 (h : p := by
 have H8 := ng VH g8 VH.size h2;go_wp2_with fail;refine oP rfl g3 rfl B8' _ underlying92 rfl cY rfl ?_;rw [E.out];exact nM.mk rfl H8
 ) : p := h
theorem ka (h : p := by
 clear hS;go_wp2_with fail;refine oF rfl (w.heap.size + 1) rfl hb6 _ underlying119 rfl aT rfl (.int .i64 e) rfl ?_;exact nM.mk rfl HB6
 ) : p := h
theorem kc (h : p := by
 go_wp2_with fail;go_meet
 case rel => exact ⟨A9, c9, _, ds9, rfl, rfl, rfl, nZ.oL hO9 g10 BG aj, B10, hM9.u9 g10 BG aj aj aj, hS10⟩
 ) : p := h
theorem ke (h : p := by
 go_wp2_with (refine nh (.load 92 (.tmp 3)) rfl ?_; go_must (refine ni rfl _ _ rfl gz 0 rfl BV 15 (by rw [ZL]; decide) _ underlying92 rfl qx _ (qj ak) ?_));refine (FV.out _ HV).mono ?_;intro e9 w9 hf;obtain ⟨he, hx⟩ := hf.x (L := L) (D := dp) (HLT.out.below HV) gne;rw [he];have HX := Hh (hx.back (Fr.below HV));clear he hf FV hx;go_wp2_with fail;go_ret;rw [HR2.out];exact HX.out
 ) : p := h
theorem kg (h : p := by
 rw [rounds_succ];go_wp2_with fail;rw [rounds_succ];go_wp2_with fail;go_ret;exact nM.mk rfl ((Below.refl _ _).alloc (Nat.le_refl _) _)
 ) : p := h
theorem kh (h : p := by
 have hcv := zI _ w.heap.size done.length done _ (q3.grown hg4 al) (by unfold s9; rw [Nat.sub_self, List.take_of_length_le (by simp [oM])]; rfl);have HK := Hh hk4;have HG := Hh hg4;clear hk4 hg4;go_wp2_with fail;go_ret;refine ⟨rfl, ⟨none, [], 0, 0, hpl, HK.out, rfl, rfl, ag, ag⟩, ?_⟩;exact ns (nG q4 (some g)) HG.out (.inl rfl)
 ) : p := h
theorem ki (h : p := by
 simp only [Op.eqFields, ne_eq, String.reduceEq, not_false_eq_true, if_true, Sem.run_bind, p0, p1 a ha, p1 b hb, p2 a ha, p2 b hb, e0, e1, e2, Result.andThen_ok, Sem.run_ite, Sem.run_pure];obtain ⟨fa, ia, za⟩ := a;obtain ⟨fb, ib, zb⟩ := b;simp only [oi.mk.injEq];by_cases h1 : fa = fb <;> by_cases h2 : ia = ib <;> by_cases h3 : za = zb <;> simp [h1, h2, h3]
 ) : p := h
theorem kj (h : p := by
 have hlt' : ¬ (k : Int) < l.length := ak;go_wp2_with fail;go_ret;refine ⟨_, rfl, ?_, hB⟩;rw [List.take_of_length_le ak] at ho hle;rw [List.take_of_length_le ak, PE hle];exact ho
 ) : p := h
theorem kl (h : p := by
 have := Bn.range 0 3 ak;rwa [List.drop_zero, List.take_of_length_le ak] at this
 ) : p := h
theorem km (h : p := by
 go_wp2_with (refine nh (.store 50 (.tmp 4) (.tmp 21)) rfl (ab rfl gr 0 nR B4 ak oy vP ?_));intro w8 B8 g8 _;replace B8 := vf B8 cH;have HB8 := ng HB4 g8 HB4.size hgr;clear g8 HB4 B4;go_wp2_with fail;refine oF rfl gr rfl B8 _ underlying50 rfl oy rfl (.bool false) rfl ?_;rw [HF.out];exact ⟨nR, rfl, nL.zero _, HB8⟩
 ) : p := h
theorem ko (h : p := by
 refine sM.same rfl rfl rfl rfl ?_ ?_ hlg hv (Nat.le_add_right _ _) rfl
 ·exact ((wQ (x := { x with left := x.left - 1 }) hd).trans hr.symm)
 ·have e := (Ka (x := { x with left := x.left - 1 }) hd);have e2 : Xc.rest { x with left := x.left - 1 } = x.rest := ik;rw [e, e2, hp];show (x.left - 1).toNat + x.tmo.toNat * x.rest <= _;omega
 ) : p := h
theorem kq (h : p := by
 subst hty;unfold execOp;simp only [ho, resolve, invoke, builtin, Sem.run_bind, Sem.run_pure, Result.andThen_ok, List.map_toArray, List.map_cons, List.map_nil, hs, hy, hr]
 ) : p := h
theorem kr (h : p := by
 go_wp2_with fail;go_roundw
 case rel => exact ⟨k + 1, ak, eh, by rw [FS.out]; exact O4, by rw [FS.out]; simp; omega, H4⟩
 case measure => simp [intOf]; omega
 ) : p := h
theorem ks (h : p := by
 intro v' w' hO' f';have FIN := Hh (rM.app hA9 hL9 F9 hD9 O9 hlo hO' f');clear hA9 hL9 F9 hD9 O9 hO9 hO' f';go_wp2_with fail;go_ret;rw [HR2.out];exact FIN.out
 ) : p := h
theorem kt (h : p := by
 go_wp2_with fail;go_roundw
 case rel => exact ⟨k + 1, ak, eh, by rw [U1.out], by rw [U2.out]; exact O2.out, H2, BX3⟩
 case measure => simp [intOf]; omega
 ) : p := h
theorem ku (h : p := by
 go_wp2_with fail;go_roundw
 case rel => exact ⟨k + 1, ak, eh, by rw [U1.out], by rw [U2.out]; exact O1.out, H1, BX2⟩
 case measure => simp [intOf]; omega
 ) : p := h
theorem kx (h : p := by
 have hp' : (p.length : Int) < 2 := ak;have hd : decide ((2 : Int) <= p.length) = false := al;have hw0 : oO p = false := by simp [oO]; omega
 rw [hw0];clear hw0;go_enter func174, ntmps174;go_wp2_with fail;go_quiet (fail);go_wp2_with fail;go_ret;exact nM.mk rfl (below_drewN (Below.refl _ _) _)
 ) : p := h
theorem ky (h : p := by
 have e : (rest.length < 2) = False := al;have h' := zf g rest false 2 w h hl;rw [show rY rest false (hw 2) = rest.take 2 by simp [rY, hw, e], show rh rest false (hw 2) = rest.drop 2 by simp [rh, hw, e], show qV rest false (hw 2) = false by simp [qV, hw, e]] at h';exact h'
 ) : p := h
theorem kA (h : p := by
 intro v hv;rcases List.mem_cons.1 hv with rfl | hv
 ·rfl
 ·exact hM.one v hv
 ) : p := h
theorem kB (h : p := by
 obtain ⟨last, ts, b0, b1, hpl, hb, hc, r⟩ := h;refine ⟨last, ts, b0, b1, hpl, hb.grown hg ?_, om.vU (fun j cs hj => hj.grown hg ?_) _ _ hc, r⟩
 ·intro e; injection e with e; exact hb.pk hk (Ne.symm h1) e
 ·intro e; injection e with e; exact hj.pk hk (Ne.symm h2) e
 ) : p := h
theorem kC (h : p := by
 rcases hown.2 with ⟨rfl, rfl⟩ | ⟨g, cap, cur, rfl, _, _, hc, _⟩
 ·exact ⟨none, 0, rfl, Nat.le_refl _⟩
 ·exact ⟨_, _, rfl, hc⟩
 ) : p := h
theorem kD (h : p := by
 unfold execOp;simp only [ho, Sem.run_bind, Sem.run_pure, Result.andThen_ok, List.map_toArray, List.map_cons, List.map_nil, hx, hr]
 ) : p := h
theorem kE (h : p := by
 obtain ⟨R1, R2⟩ := ER (x := x) (Nat.le_trans hlo b1.size) h1 (h2.below b1 h2.lt) (h3.below b1) (h4.below b1) k1 g1 hb3 hg3;have R3 := (o9.xK b1 hlo).trans R2;clear hb3 hg3 hs3 B2 g1 k1 hr R2;go_wp2_with fail;go_end0;exact ⟨rfl, R1, R3⟩
 ) : p := h
theorem kF (h : p := by simp [sa, List.set_append, hT, hq, qC]) : p := h
theorem kG (h : p := by
 go_enter func203, ntmps203;go_wp2_with (go_at_call 207; first | (refine (pQ _ _ _ aG).mono ?_; rintro e w' ⟨rfl, rfl⟩) | (refine (tM _ _ _ aG).mono ?_; rintro e w' ⟨rfl, rfl⟩));go_ret;exact nM.mk rfl aW
 ) : p := h
theorem kH (h : p := by
 have := hcell' j hj;rw [Deep.add_add] at this;rw [<- this];congr 1;unfold Addr.add;split
 ·rename_i h0;have h0' : i * P.cellsOf e = 0 /\ j = 0 := ak;simp only [Addr.mk.injEq, true_and, and_true];omega
 ·simp [Nat.add_assoc]
 ) : p := h
theorem kI (h : p := by
 rintro o ⟨g, next, h1, h2, h3, h4⟩;refine ⟨g, next, h1, h2, h3.grown hg ?_, ih next h4⟩;rintro e;injection e with e;subst e;unfold nj at h3 hj;rw [h3] at hj;injection hj with hj;injection hj with _ ht;exact absurd ht aj
 ) : p := h
theorem kJ (h : p := by
 go_enter func180, ntmps180;go_wp2_with (refine nh (.load 28 (.tmp 32)) rfl ?_; go_must (refine wpList_load_mid rfl 28 (.tmp 32) rfl ba oa rfl _ _ hrg underlying28 rfl rD ?_));go_ret;exact nM.mk rfl (HB3'.out _)
 ) : p := h
theorem kK (h : p := by
 clear H2;generalize r.se.length = n2 at *;go_enter func86, ntmps86;go_wp2_with fail;go_ret;exact ⟨_, rfl, HX⟩
 ) : p := h
theorem kL (h : p := by
 go_wp2_with fail;go_ret;exact FIN.out
 ) : p := h
theorem kO (h : p := by
 go_wp2_with fail;go_quiet (fail);go_wp2_with fail;exact ⟨rfl, rfl, sS (World.grownBy.refl _ _) _⟩
 ) : p := h
theorem kP (h : p := by
 rw [hpk] at FS;have HP := Hh hpk;clear hpk;go_wp2_with fail;go_roundw
 case rel => exact ⟨k + 1, ak, eh, by rw [FS.out]; simpa using O2, by rw [FS.out]; simpa using hle, H2⟩
 case measure => simp [intOf]; omega
 ) : p := h
theorem kQ (h : p := by
 go_enter func18, ntmps18;go_wp2_with fail;go_quiet (fail);go_wp2_with fail;go_ret;rw [HR2.out];exact ⟨_, rfl, pX.nil _ _, ⟨p, hJ.below (below_drewN HX _), HK.out⟩, nG (below_drewN HX _) _⟩
 ) : p := h
theorem kR (h : p := by
 rintro _ w' ⟨rfl, hB⟩;have e1 : sk T at_ r = (if nX r.ty r.cl = 1 then r.ad.ip.take 4 else r.ad.ip) := fJ;have e2 : wW T at_ r = T := fM;rw [e1, e2];exact ⟨rfl, hT.below hB, sC.xK hB hlo⟩
 ) : p := h
theorem kS (h : p := by
 go_wp2_with fail;go_round
 case rel => exact ⟨k + 1, ak, eh, Hh (fun j hj h => by
  by_cases e : j = k
  ·subst e; exact HB.out
  ·
   exact H.out j hj ak)⟩
 case measure => simp [intOf]; omega
 ) : p := h
theorem kU (h : p := by
 go_ret;exact nM.mk rfl hB5
 ) : p := h
theorem kV (h : p := by
 go_wp2_with fail;go_ret;exact nM.mk rfl hB
 ) : p := h
theorem kW (h : p := by exact ⟨b1, b2, b3, b4, b5, b6, b7, by show (oV L).us <= _; omega, hds, one _, ew, ey⟩) : p := h
theorem kX (h : p := by
 simp only [part, isAgg, Sem.run_bind, run_underlying underlying22, Result.andThen_ok, Sem.run_pure, if_true, RQ, Sem.run_ite];rw [show 1 + 16 = 17 from rfl, x.RS hx]
 ) : p := h
theorem kY (h : p := by
 have e2 : qe = 4 := HQ.out;subst e2;have e3 := FK.out aj;subst e3;have hr0 := HE2.out.trans (if_pos aj);subst hr0;clear HE2 FK HJ2 HQ;go_wp2_with fail;go_ret;exact nM.mk rfl HBn
 ) : p := h
theorem kZ (h : p := by
 have RR := Hh R;clear R;go_wp2_with fail;refine (L6 A c n _ hA hm ak).mono ?_;rintro e w1 ⟨rfl, rfl⟩;go_wp2_with fail;go_ret;exact rN.mk (ru RR.out.symm) rfl
 ) : p := h
theorem ld (h : p := by
 intro e1 w1 hx;have hx := hx.back HFW.out;obtain ⟨v, D', rfl, hx2⟩ := hx;have HX := Hh hx2;clear hx2 hx;go_wp2_with fail;go_ret;rw [HR.out];exact ⟨v, D', rfl, HX.out⟩
 ) : p := h
theorem lh (h : p := by
 refine ⟨h.1, fun hp => ?_⟩;obtain ⟨b, off, h1, h2, h3⟩ := h.2 hp;exact ⟨b, off, h1, Nat.lt_of_lt_of_le h2 hb.size, fun i hi => nO (h3 i hi) hb h2⟩
 ) : p := h
theorem lj (h : p := by
 subst hd;refine wpAnyH_all hr ag fun j hj => ?_
 rw [List.mem_singleton] at hj;subst hj;unfold wpOp;simp only [hi, hw, if_true];left;unfold Oper.wp;rw [he];exact ⟨hS, h⟩
 ) : p := h
theorem lr (h : p := by injection h with h; omega) : p := h
theorem lx (h : p := by
 go_wp2_with fail;go_ret;exact nM.mk rfl (Below.refl _ _)
 ) : p := h
theorem ly (h : p := by exact ⟨rfl, hT.below hB, sC.xK hB hlo⟩) : p := h
theorem lz (h : p := by
 obtain ⟨last, ts, b0, b1, hpl, hb, hc, r⟩ := h;exact ⟨last, ts, b0, b1, hpl, hk _ _ _ aj hb, om.vU (fun j cs hb => hk j _ cs aj hb) _ _ hc, r⟩
 ) : p := h
theorem lC (h : p := by
 clear BQ8 hb8 hb7 BQ7 BZ7 g8 UN F7 F7' hL7 hM7;go_wp2_with fail;refine oP rfl (w.heap.size + 1) rfl B8 _ underlying305 rfl dL rfl ?_;exact FIN.out
 ) : p := h
theorem lD (h : p := by simpa [List.append_assoc] using this) : p := h
theorem lE (h : p := by
 clear hu;go_wp2;first | go_end0 | refine bodyPost_ret (results_none rfl _ _ _) rfl ?_
 first | exact ⟨rfl, rfl, rfl⟩ | exact ⟨rfl, rfl⟩ | rfl
 ) : p := h
theorem lF (h : p := by rw [List.getElem?_append_right ak, h]; rfl) : p := h
theorem lG (h : p := by
 refine wpList_plain hgd fun K hK => ?_
 unfold Oper.wp execOp;simp only [ho, hx, Sem.run_bind, hr, Result.andThen_ok, Sem.run_pure];exact hK _ _ h
 ) : p := h
theorem lH (h : p := by
 simp only [List.flatten_cons, List.flatten_nil, List.append_nil, List.length_singleton, Nat.one_mul];exact List.take_of_length_le ak
 ) : p := h
theorem lI (h : p := by simp only [List.size_toArray, List.length_append, List.length_take, List.length_drop, Array.length_toList, oK]; omega) : p := h
theorem lJ (h : p := by
 go_enter func173, ntmps173;go_wp2;refine bodyPost_ret (results_none rfl _ _ _) rfl ?_;exact ⟨rfl, ah, World.grownBy.refl _ _⟩
 ) : p := h
theorem lK (h : p := by
 rw [HW.out];rintro e w2 ⟨rfl, b2⟩;go_wp2_with fail;go_ret;exact ⟨_, rfl, pL.nil _, h1.below b2, pj g1 b2⟩
 ) : p := h
theorem lM (h : p := by
 rw [List.take_succ_eq_append_getElem hk, xr, h];show (if (pZ y (qR l[k])).2 then _ else _) = _;rw [hf]; rfl
 ) : p := h
theorem lN (h : p := by
 rw [if_neg aO];have := ih (k := k) aP (fun j hj hjk => by have := h (j + 1) al ak; simpa using this) aC;simpa using this
 ) : p := h
theorem lO (h : p := by
 go_wp2_with fail;go_ret2;exact nM.mk rfl HB
 ) : p := h
theorem lP (h : p := by rw [<- Bool.not_eq_true, sK]; omega) : p := h
theorem lQ (h : p := by
 simp only [uc, Bool.and_eq_true, decide_eq_true_eq] at h;rw [h2];exact Int.emod_eq_of_lt h.1 (by have := h.2; omega)
 ) : p := h
theorem lR (h : p := by
 rw [Array.toArray_toList] at this;exact this
 ) : p := h
theorem lS (h : p := by
 refine (AC.out _).mono ?_;rintro _ w1 ⟨rfl, b1⟩;go_wp2_with fail;go_ret;exact nM.mk bE (nc HB HB.size b1)
 ) : p := h
theorem lT (h : p := by show x.tmo.toNat * (3 * (x.tr.length - x.k - 1)) <= _; omega) : p := h
theorem lU (h : p := by
 clear g7 BZ6 B56;go_wp2_with fail;refine oP rfl w.heap.size rfl B7 _ underlying305 rfl dL rfl ?_;exact FIN.out
 ) : p := h
theorem lV (h : p := by
 have := hk1.alloc (.cells #[.string (bs s), .pointer (last.map fun k => ⟨k, 0, none⟩)] 320);simpa using this
 ) : p := h
theorem lW (h : p := by exact ⟨An, cn, At, ct, Am, cm, rfl, ⟨rfl, hr.2⟩, hN.below hB, hT.below hB, hM.below hB, hraw⟩) : p := h
theorem lX (h : p := by
 subst this;unfold nj at hb;rw [hh] at hb;injection hb with hb;injection hb with _ ht;exact hne ht.symm
 ) : p := h
theorem lY (h : p := by rwa [List.drop_of_length_le hM, List.append_nil] at h) : p := h
theorem lZ (h : p := by
 intro hi;rcases Ds hi with ⟨s', h, _⟩ | ⟨h, _⟩
 ·rw [e] at h; cases h
 ·rwa [e] at h
 ) : p := h
theorem l6 (h : p := by
 go_wp2_with fail;go_ret2;exact FIN.out
 ) : p := h
theorem l8 (h : p := by
 rw [g9] at k2 k3;exact IH.more k2 k3 ⟨g2.trans hkp.1, g3.trans hkp.2.1, hvc.trans hkp.2.2⟩
 ) : p := h
theorem l9 (h : p := by
 have e : tK (l[k] :: l.drop (k + 1)) = l[k].data.length + tK (l.drop (k + 1)) := rfl;omega
 ) : p := h
theorem ma (h : p := by
 obtain ⟨gt', gq', e', _⟩ := h2.f;rw [hh] at e';injection e' with e' _ _;exact absurd e' aj
 ) : p := h
theorem mc (h : p := by obtain ⟨_, _, At, ct, _, _, rfl, hr, _, hR, _⟩ := h; exact ⟨At, ct, uV hr, hR⟩) : p := h
theorem me (h : p := by
 rw [this, hd];simp only [pO, oi.cells, uA, List.append_assoc, List.cons_append];rfl
 ) : p := h
theorem mf (h : p := by
 rcases hown'.2 with ⟨_, h0⟩ | ⟨g, cap, _, hv, _⟩
 ·omega
 ·exact ⟨g, cap, hv⟩
 ) : p := h
theorem mg (h : p := by
 rintro e w2 ⟨rfl, hg⟩;go_wp2_with fail;exact ⟨rfl, rfl, zQ hB1 hg hg1 hlo⟩
 ) : p := h
theorem mh (h : p := by
 unfold execOp;simp only [ho, hx, hy, Sem.run_bind, hst, Result.andThen_ok, Sem.run_pure]
 ) : p := h
theorem mi (h : p := by
 unfold execOp;simp only [ho, hx, Sem.run_bind, hv w hC, Result.andThen_ok, Sem.run_pure]
 ) : p := h
theorem mj (h : p := by
 go_wp2_with fail;go_ret;rw [HT.out];exact FIN.out
 ) : p := h
theorem mn (h : p := by exact ⟨An, cn, none, 0, Am, cm, rfl, hr, hN.below hB, rQ.nil _, hM.below hB, hraw⟩) : p := h
theorem mo (h : p := by exact nj.ph _ _ [.string (bs s), .pointer (last.map fun k => ⟨k, 0, none⟩)] _ ag) : p := h
theorem mr (h : p := by
 refine ⟨css ++ [cs], ?_, (h.Mv hr).mono (fun _ _ x => x.stays hs)⟩;simpa using ho
 ) : p := h
theorem mu (h : p := by
 split at h
 ·rename_i ht; injection h with h; subst h; exact MB ht
 ·cases h
 ) : p := h
theorem mv (h : p := by
 unfold execOp;simp only [ho, hx, Sem.run_bind, hv, Result.andThen_ok, Sem.run_pure]
 ) : p := h
theorem mw (h : p := by
 unfold execOp;simp only [ho, hv, Sem.run_bind, hr, Result.andThen_ok, Sem.run_pure]
 ) : p := h
theorem mx (h : p := by show 3 * (x.tr.length - x.k - 1) <= _; omega) : p := h
theorem my (h : p := by
 go_wp2_with fail;go_ret;exact nM.mk rfl HBr
 ) : p := h
theorem mz (h : p := by
 go_wp2_with fail;go_ret;exact nM.mk rfl HB2
 ) : p := h
theorem mC (h : p := by
 go_wp2_with fail;go_ret;exact nM.mk rfl HB1
 ) : p := h
theorem mD (h : p := by
 clear h1 h2 SET KEEP;go_enter func198, ntmps198;go_wp2_with fail;go_end0;exact S.out
 ) : p := h
theorem mE (h : p := by
 subst hd;unfold wpOp;simp only [hi, hw, if_true];left;unfold Oper.wp;rw [he];exact h
 ) : p := h
theorem mF (h : p := by
 rw [if_neg aO];exact ih (fun j hj => by have := h (j + 1) al; simpa using this)
 ) : p := h
theorem mG (h : p := by
 rw [hro] at d6;go_wp2_with fail;go_meet
 case rel => exact ⟨by rw [hro], rfl⟩
 ) : p := h
theorem mH (h : p := by
 go_wp2_with fail;go_meet
 case rel => exact ⟨gz, ds, rfl, rfl, B8, hM8, hS8⟩
 ) : p := h
theorem mI (h : p := by exact ⟨v, D', rfl, HX2.out⟩) : p := h
theorem mJ (h : p := by
 go_wp2_with fail;go_ret;exact nM.mk bE HB
 ) : p := h
theorem mK (h : p := by exact ⟨v', w', hr, h2, h3⟩) : p := h
theorem mL (h : p := by exact nM.mk rfl (((Below.refl _ _).alloc (Nat.le_refl _) _).alloc ag _)) : p := h
theorem mM (h : p := by
 rw [hh] at b1';injection b1' with b1';injection b1' with _ b1';exact n1 b1'
 ) : p := h
theorem mN (h : p := by
 clear he hr;go_wp2_with fail;go_ret;exact nM.mk (ru HR.out.symm) hB
 ) : p := h
theorem mO (h : p := by
 clear h0 hbd;go_wp2_with fail;go_ret;exact rN.mk (ru R.out.symm) rfl
 ) : p := h
theorem mP (h : p := by rw [if_pos h1] at h; exact absurd h h1) : p := h
theorem mQ (h : p := by
 subst b2 b3 b4 b5 b6 b7 b8;unfold KW;simp only [RR.zero];rw [<- e]
 ) : p := h
theorem mR (h : p := by exact ⟨_, uR rfl L l, uR rfl L [], rfl, rfl, rfl⟩) : p := h
theorem mS (h : p := by exact decide_eq_false (TT hlt hlb (of_decide_eq_false hs.out))) : p := h
theorem mT (h : p := by
 go_wp2_with fail;go_ret;exact ⟨false, rfl, fun h => cK, hW⟩
 ) : p := h
theorem mU (h : p := by
 go_wp2_with fail;go_ret;exact rN.mk (sd HN.out.symm) rfl
 ) : p := h
theorem mV (h : p := by
 go_wp2_with fail;go_meet
 case rel => exact ⟨Hh HL7, C7, F7⟩
 ) : p := h
theorem mW (h : p := by
 go_wp2_with fail;go_meet
 case rel => exact ⟨rfl, rfl, hS⟩
 ) : p := h
theorem mX (h : p := by
 go_wp2_with fail;go_ret;exact ⟨_, rfl, fun h => cK, H1⟩
 ) : p := h
theorem mY (h : p := by
 go_wp2_with fail;go_ret2;exact Dm HO.out aH hT2 hB3
 ) : p := h
theorem mZ (h : p := by
 go_wp2_with fail;go_meet
 case rel => exact ⟨Hh dJ, F7⟩
 ) : p := h
theorem m4 (h : p := by
 rw [HF3.out];exact ⟨_, _, _, _, _, _, _, _, rfl, H7⟩
 ) : p := h
theorem m5 (h : p := by
 have := MC m a w hl;rw [h] at this;exact this
 ) : p := h
theorem m6 (h : p := by exact ⟨ds, rfl, hM8, HB8⟩) : p := h
theorem m7 (h : p := by
 go_wp2_with fail;go_ret3;exact ⟨v, rfl, hT, hB⟩
 ) : p := h
theorem m8 (h : p := by obtain ⟨b, _, rfl⟩ := List.mem_map.1 hv; rfl) : p := h
theorem m9 (h : p := by exact FIN.out _ (below_drewN (Below.refl _ _) _)) : p := h
theorem nb (h : p := by
 clear FIN TS;go_wp2_with fail;go_ret;exact FIN2.out
 ) : p := h
end
theorem nB {α : Type _} (l : List α) (i : Nat) (a : α) : l.toArray.setIfInBounds i a = (l.set i a).toArray := List.setIfInBounds_toArray ..
theorem nC {α : Type _} (x : α) (l : List α) (a : α) : (x :: l).set 0 a = a :: l := List.set_cons_zero ..
theorem nD {α : Type _} (x : α) (l : List α) (n : Nat) (a : α) : (x :: l).set (n + 1) a = x :: l.set n a := List.set_cons_succ ..
theorem qj {L : List Value} {n : Nat} (h : L.length <= n) : (L.drop 0).take n = L := by rw [List.drop_zero, List.take_of_length_le h]
theorem Hh {p : Prop} (h : p) : RowKit.Hid p := Lib.hid h
open _root_.Go.Proofs.Tryz
open Go.RowKit
def rN (v : Value) (w : World) (e : Ending) (w' : World) : Prop := e = .returned v /\ w = w'
def nM (v : Value) (w : World) (e : Ending) (w' : World) : Prop := e = .returned v /\ Below w.heap.size w w'
theorem rN.mk {v : Value} {w w' : World} {e : Ending} (h : e = .returned v) (hw : w = w') : rN v w e w' := ⟨h, hw⟩
theorem nM.mk {v : Value} {w w' : World} {e : Ending} (h : e = .returned v) (hw : Below w.heap.size w w') : nM v w e w' := ⟨h, hw⟩
theorem rN.Vk {v : Value} {w w' : World} {e : Ending} (h : rN v w e w') : nM v w e w' := ⟨h.1, h.2 ▸ Below.refl _ _⟩
theorem rN.quiet {P : Program} {f : FuncId} {args : Array Value} {w : World} {n : Nat} {v : Value} (h : Calls P f args (w.drewN n) (rN v (w.drewN n))) : Calls P f args (w.drewN n) fun e w'' => e = .returned v /\ ∃ m, w'' = w.drewN m :=
 h.mono fun _ _ ⟨he, hm⟩ => ⟨he, n, hm.symm⟩
theorem LX {A W w1 : World} (h : Below A.heap.size A W) (b : Below W.heap.size W w1) : Below A.heap.size A w1 := h.trans (b.mono h.size)
theorem ru {k : IntKind} {a b : Int} (h : a = b) : Ending.returned (.int k a) = .returned (.int k b) := by rw [h]
theorem sd {a b : Bool} (h : a = b) : Ending.returned (.bool a) = .returned (.bool b) := by rw [h]
theorem below_drewN {B : Nat} {a w : World} (h : Below B a w) (n : Nat) : Below B a (w.drewN n) := ⟨h.os, h.tape, h.output, h.size, h.block⟩
theorem nc {B : Nat} {a w w' : World} (h : Below B a w) (hB : B <= w.heap.size) (k : Below w.heap.size w w') : Below B a w' := h.trans (k.mono hB)
theorem sP {B : Nat} {a w : World} (h : Below B a w) (hB : B <= a.heap.size) : B <= w.heap.size := Nat.le_trans hB h.size
theorem zA {P : Program} (w : World) {ops : Array Oper} {rest : List Oper} {o : Oper} {a : Act} {Q : Exit -> Act -> World -> Prop} (hgd : o.guard = none) (s x : Operand) (t : TypeId)
  (ho : o.op = .call { callee := .builtin .append, args := #[s, x], argTypes := #[t, t] })
  (e : TypeId) (z : Value) (size bytes : Nat) (ht : P.underlying t = some (.slice e)) (hi : (P.info? e).map (fun i => (i.zero, i.size, i.bytes)) = some (some z, size, bytes)) (hzs : z.cells.size = size) (hsz : 0 < size)
  (v : Value) (n : Nat) (xs : List Value) (hs : a.eval s = v) (hown : w.ownsRow 0 e size v n xs)
  (ad : Addr) (m c : Nat) (news : List Value) (hx : a.eval x = .slice (some ad) m c) (hl : news.length = m * size) (hnews : ∀ j u, news[j]? = some u -> w.cell? (ad.add j) = some u) (h1 : ∀ u ∈ news, u.oneCell' = true)
  (hm : 0 < m) (h63 : n + m <= maxLen) (hbytes : (n + m) * bytes <= 140737488355328)
  (h : ∀ g cap w', w'.ownsRow 0 e size (.slice (some ⟨g, 0, none⟩) (n + m) cap) (n + m) (xs ++ news) -> w.grownBy w' v.ownBlock -> (v.ownBlock = some g \/ g = w.heap.size) -> wpList P ops Q rest (a.put o.dst (.slice (some ⟨g, 0, none⟩) (n + m) cap)) w') :
  wpList P ops Q (o :: rest) a w := by
 obtain ⟨i, hi, hz, hsize, hby⟩ := info_parts hi;refine wpList_append_own_at w hgd s x t ho 0 e i z size bytes ht hi hz hsize hby hzs hsz v n xs hs hown ad m c news hx hl hnews h1 h63 hbytes (Nat.zero_le _) ?_;intro v' w' hown' hg _ hat;obtain ⟨g, cap, rfl⟩ : ∃ g cap, v' = .slice (some ⟨g, 0, none⟩) (n + m) cap := by exact mf
 refine h g cap w' hown' hg ?_;rcases hat with h | h
 ·exact .inl h.symm
 ·exact .inr (by simpa [Value.ownBlock] using h)
theorem uT {w w' : World} {row : Option Nat} (h : w.grownBy w' row) (p : Addr) (hp : p.block < w.heap.size) (hr : some p.block ≠ row) : w'.cell? p = w.cell? p := World.cell?_of_block (h.block _ hp hr)
theorem ns {a b c : World} {row row' : Option Nat} (h : a.grownBy b row) (k : b.grownBy c row') (hr : row' = row \/ ∀ g, row' = some g -> a.heap.size <= g) : a.grownBy c row :=
 ⟨k.os.trans h.os, k.tape.trans h.tape, k.output.trans h.output, Nat.le_trans h.size k.size, fun i hi hne => (k.block i (Nat.lt_of_lt_of_le hi h.size) (by
  rcases hr with rfl | hr
  ·exact hne
  ·
   intro e; have := hr i e.symm; omega)).trans (h.block i hi hne)⟩
def nj (w : World) (g : Nat) (t : TypeId) (cs : List Value) : Prop := w.heap[g]? = some (.cells cs.toArray t (0, 0))
section
variable {w w' : World} {g : Nat} {t : TypeId} {cs : List Value}
theorem nj.lt (h : nj w g t cs) : g < w.heap.size := by
 rcases Nat.lt_or_ge g w.heap.size with hlt | hge
 ·exact hlt
 ·unfold nj at h; rw [Array.getElem?_eq_none hge] at h; cases h
theorem nj.cell (h : nj w g t cs) (i : Nat) : w.cell? ⟨g, i, none⟩ = cs[i]? := by
 rw [cell_of_row w g i cs.toArray t (0, 0) h]; simp
theorem nj.nf {u : Value} (h : nj w g t cs) (i : Nat) (hi : cs[i]? = some u) : w.cell? ⟨g, i, none⟩ = some u := (h.cell i).trans hi
theorem nj.frozen (h : nj w g t cs) (i : Nat) : w.frozen? ⟨g, i, none⟩ = false := by
 unfold nj at h;simp [World.frozen?, h]
theorem nj.new (w : World) (t : TypeId) (cs : List Value) : nj (w.alloc (.cells cs.toArray t)) w.heap.size t cs := heap_alloc_new w _
theorem nj.ph (w : World) (t : TypeId) (cs : List Value) (k : Nat) (hk : k = w.heap.size) : nj (w.alloc (.cells cs.toArray t)) k t cs := hk ▸ heap_alloc_new w _
theorem nj.drew (h : nj w g t cs) : nj w.drew g t cs := h
theorem nj.drewN (h : nj w g t cs) (n : Nat) : nj (w.drewN n) g t cs := h
theorem nj.alloc (h : nj w g t cs) (o : Obj) : nj (w.alloc o) g t cs := (Below.heap_alloc w o g h.lt).trans h
theorem nj.set (h : nj w g t cs) (i : Nat) (u : Value) : nj (w.setCell ⟨g, i, none⟩ u) g t (cs.set i u) := by
 unfold nj at h ⊢;simp [World.setCell, Array.getElem?_modify, h]
theorem nj.sF (h : nj w g t cs) {p : Addr} (hp : g ≠ p.block) (u : Value) : nj (w.setCell p u) g t cs := (Below.heap_setCell w p u g hp).trans h
theorem nj.below {B : Nat} (h : nj w g t cs) (hb : Below B w w') (hg : g < B) : nj w' g t cs := (hb.block g hg).trans h
theorem nj.grown {row : Option Nat} (h : nj w g t cs) (hb : w.grownBy w' row) (hg : some g ≠ row) : nj w' g t cs := (hb.block g h.lt hg).trans h
end
theorem nT {a w : World} {g : Nat} (h : a.grownBy w (some g)) (i : Nat) (u : Value) : a.grownBy (w.setCell ⟨g, i, none⟩ u) (some g) :=
 ⟨h.os, h.tape, h.output, by simpa [World.setCell] using h.size, fun i' hi hne => (Below.heap_setCell w _ u i' (by simp only; intro e; exact hne (by rw [e]))).trans (h.block i' hi hne)⟩
theorem rX {a w : World} {row : Option Nat} (h : a.grownBy w row) (o : Obj) : a.grownBy (w.alloc o) row :=
 ⟨h.os, h.tape, h.output, Nat.le_trans h.size ag, fun i hi hne => (Below.heap_alloc w o i (Nat.lt_of_lt_of_le hi h.size)).trans (h.block i hi hne)⟩
theorem qK {a w : World} {row : Option Nat} (h : a.grownBy w row) : a.grownBy w.drew row := ⟨h.os, h.tape, h.output, h.size, h.block⟩
theorem sS {a w : World} {row : Option Nat} (h : a.grownBy w row) (n : Nat) : a.grownBy (w.drewN n) row := ⟨h.os, h.tape, h.output, h.size, h.block⟩
theorem pj {a w w' : World} {row : Option Nat} (h : a.grownBy w row) (hb : Below w.heap.size w w') : a.grownBy w' row :=
 ⟨hb.os.trans h.os, hb.tape.trans h.tape, hb.output.trans h.output, Nat.le_trans h.size hb.size, fun i hi hne => (hb.block i (Nat.lt_of_lt_of_le hi h.size)).trans (h.block i hi hne)⟩
theorem ng {B : Nat} {a w w' : World} {g : Nat} (h : Below B a w) (hg : w.grownBy w' (some g)) (hB : B <= w.heap.size) (hr : B <= g) : Below B a w' :=
 h.grown hg hB (fun k hk => by injection hk with hk; omega)
theorem nG {a w : World} (h : Below a.heap.size a w) (row : Option Nat) : a.grownBy w row := ⟨h.os, h.tape, h.output, h.size, fun i hi _ => h.block i hi⟩
theorem xB (w : World) (u : Value) (t : TypeId) (k : Nat) (hk : k = w.heap.size) : ∀ j x, [u][j]? = some x -> (w.alloc (.cells #[u] t)).cell? ((⟨k, 0, none⟩ : Addr).add j) = some x := by
 subst hk;intro j x hx;rcases j with _ | j
 ·simp at hx; subst hx; simp [Addr.add, go_sem]
 ·simp at hx
theorem wA {u : Value} (h : u.oneCell' = true) : ∀ x ∈ [u], x.oneCell' = true := by simpa using h
def bs (l : List UInt8) : ByteArray := ⟨l.toArray⟩
theorem Vq (s : ByteArray) : s = bs s.data.toList := by cases s; simp [bs]
@[go_sem, simp] theorem qo (l : List UInt8) : (bs l).size = l.length := by simp [bs, ByteArray.size]
theorem Rw (l : List UInt8) : (bs l).data.toList = l := by simp [bs]
@[go_sem] theorem IY (a b : List UInt8) : bs a ++ bs b = bs (a ++ b) := by unfold bs; rw [ByteArray.mk_append_mk]
@[go_sem] theorem Uj (a b : List UInt8) : bs a ++ ⟨b.toArray⟩ = bs (a ++ b) := IY a b
@[go_sem] theorem Uk (a b : List UInt8) : (⟨a.toArray⟩ : ByteArray) ++ bs b = bs (a ++ b) := IY a b
@[go_sem] theorem Ul (l : List UInt8) (i j : Nat) : (bs l).extract i j = bs ((l.take j).drop i) := by
 unfold bs;rw [ByteArray.extract_mk, List.drop_take]
@[go_sem] theorem Ww (l : List UInt8) (i : Nat) (h : i < (bs l).size) : (bs l)[i] = l[i]'ah := rfl
theorem toList_mk (l : List UInt8) : ByteArray.toList ⟨l.toArray⟩ = l := by rw [ByteArray.toList_eq]
@[go_sem] theorem Dg (l : List UInt8) : (bs l).toList = l := toList_mk l
def Wx (w : World) (g off : Nat) (l : List UInt8) : Prop := ∀ j (hj : j < l.length), w.cell? ⟨g, off + j, none⟩ = some (.int .u8 (l[j].toNat : Int))
theorem Wx.at_ {w : World} {g off : Nat} {l : List UInt8} (h : Wx w g off l) (j : Nat) (hj : j < l.length) : w.cell? ⟨g, off + j, none⟩ = some (.int .u8 (l[j].toNat : Int)) := h j hj
theorem zB {P : Program} (w : World) {ops : Array Oper} {rest : List Oper} {o : Oper} {a : Act} {Q : Exit -> Act -> World -> Prop} (hgd : o.guard = none) (x : Operand) (src dst e : TypeId)
  (ho : o.op = .convert src dst x) (hs : P.underlying src = some .string) (hd : P.underlying dst = some (.slice e)) (he : P.underlying e = some (.int .u8)) (l : List UInt8) (hx : a.eval x = .string (bs l))
  (h : ∀ cap w', l.length <= cap -> Wx w' w.heap.size 0 l -> Below w.heap.size w w' -> w'.heap.size = w.heap.size + 1 -> wpList P ops Q rest (a.put o.dst (.slice (some ⟨w.heap.size, 0, none⟩) l.length cap)) w') :
  wpList P ops Q (o :: rest) a w := by
 refine wpList_plain hgd fun K hK => ?_
 have hr := run_bytes_of_string (P := P) w src dst e (bs l) hs hd he;rw [qo] at hr;generalize hcap : grownCap w l.length 0 e = cap at hr;have hle : l.length <= cap := by rw [<- hcap]; unfold grownCap;simp [Question.cut]
 unfold Oper.wp;simp [execOp, ho, hx, hr, Result.andThen];refine hK _ _ (h cap _ hle ?_ ?_ ?_)
 ·intro j hj;have e1 := World.cell?_alloc_mark w.drew (bytesRow (bs l) cap) e ((bytesRow (bs l) cap).size, (bytesRow (bs l) cap).size + 1) (0 + j);rw [show w.drew.heap.size = w.heap.size from rfl] at e1;rw [e1, Nat.zero_add, bytesRow_at (bs l) cap j (by simpa [bs] using hj)];simp [bs]
 ·exact ((Below.refl _ _).drew).alloc (Nat.le_refl _) _
 ·simp
set_option maxRecDepth 100000
def hw (width : Int) : Nat := if width < 0 then 0 else if 4 < width then 4 else width.toNat
theorem Od (width : Int) : hw width <= 4 := by unfold hw; split <;> (try split) <;> omega
def ny : Nat -> Int -> List UInt8
 | 0, _ => []
 | k + 1, n => ny k (n / 256) ++ [UInt8.ofNat (n % 256).toNat]
theorem np (k : Nat) : ∀ n : Int, (ny k n).length = k := by
 induction k with
 | zero => intro n; rfl
 | succ k ih => intro n; simp [ny, ih]
def oE (l : List UInt8) : Nat := l.foldl (fun n c => 256 * n + c.toNat) 0
theorem Dh (l : List UInt8) (c : UInt8) : oE (l ++ [c]) = 256 * oE l + c.toNat := by simp [oE]
theorem RH (l : List UInt8) : oE l < 256 ^ l.length := by
 have h : ∀ (l : List UInt8) (n k : Nat), n < 256 ^ k -> l.foldl (fun n c => 256 * n + c.toNat) n < 256 ^ (k + l.length) := by
  intro l;induction l with
  | nil => intro n k h; simpa using h
  | cons c l ih => intro n k h;have hc := c.toNat_lt;have h1 := ih (256 * n + c.toNat) (k + 1) (by rw [Nat.pow_succ]; omega);rw [List.foldl_cons, List.length_cons, show k + (l.length + 1) = k + 1 + l.length by omega];exact h1
 simpa [oE] using h l 0 0 ag
theorem uz (n : Int) (w : World) : Calls prog 172 #[.int .i64 n] w (rN (.int .i64 (hw n)) w) := by
 go_enter func172, ntmps172;go_wp2;all_goals go_ret
 all_goals exact rN.mk (ru (by unfold hw; split <;> (try split) <;> omega)) rfl
theorem vC (w : World) (t : TypeId) (k : IntKind) (xs : List Int) : ∀ i, i < xs.length -> (w.alloc (.cells (xs.map (Value.int k)).toArray t)).cell? ⟨w.heap.size, 0 + i, none⟩ = some (.int k (xs.getD i 0)) := by
 intro i hi;rw [(nj.new w t (xs.map (Value.int k))).cell];simp [List.getD, List.getElem?_eq_getElem hi]
theorem Vr (width n : Int) (w : World) (h : hw width = 0) : Calls prog 117 #[.int .i64 width, .int .i64 n] w (nM (.string (bs (ny 0 n))) w) := by
 have hmk : ∀ w : World, (Instr.makeSlice 145 (.int .i64 0) (.int .i64 0)).run prog w = .ok (.slice (some ⟨w.heap.size, 0, none⟩) 0 0) (w.alloc (.cells #[] 5)) := fun _ => by kernel_rfl
 have hcv : (convert 145 9 (.slice (some ⟨w.heap.size, 0, none⟩) 0 0)).run prog (w.alloc (.cells #[] 5)) = .ok (.string (bs (ny 0 n))) (w.alloc (.cells #[] 5)) :=
  run_convert_bytes_arg _ 145 5 underlying145 underlying5 _ 0 0 0 [] rfl (vC w _ _ []) 9 underlying9
 have H := Lib.hid h;clear h;go_enter func117, ntmps117;go_wp2_with fail;refine (uz _ _).mono ?_;rintro e w' ⟨rfl, rfl⟩;rw [H.out, show ((0 : Nat) : Int) = 0 from rfl];go_wp2_with fail;refine wp_loop_rounds 1 ?_;rw [rounds_succ];go_wp2_with fail;go_ret;exact nM.mk rfl ((Below.refl _ _).alloc (Nat.le_refl _) _)
theorem Vs (width n : Int) (w : World) (h : hw width = 1) : Calls prog 117 #[.int .i64 width, .int .i64 n] w (nM (.string (bs (ny 1 n))) w) := by
 have hmk : ∀ w : World, (Instr.makeSlice 145 (.int .i64 1) (.int .i64 1)).run prog w = .ok (.slice (some ⟨w.heap.size, 0, none⟩) 1 1) (w.alloc (.cells #[.int .u8 0] 5)) := fun _ => by kernel_rfl
 have hcv : (convert 145 9 (.slice (some ⟨w.heap.size, 0, none⟩) 1 1)).run prog (w.alloc (.cells #[.int .u8 (n % 256)] 5)) = .ok (.string (bs (ny 1 n))) (w.alloc (.cells #[.int .u8 (n % 256)] 5)) :=
  run_convert_bytes_arg _ 145 5 underlying145 underlying5 _ 0 1 1 [n % 256] rfl (vC w _ _ [n % 256]) 9 underlying9
 have H := Lib.hid h;clear h;go_enter func117, ntmps117;go_wp2_with fail;refine (uz _ _).mono ?_;rintro e w' ⟨rfl, rfl⟩;rw [H.out, show ((1 : Nat) : Int) = 1 from rfl];go_wp2_with fail;refine wp_loop_rounds 2 ?_;exact kg
theorem Vt (width n : Int) (w : World) (h : hw width = 2) : Calls prog 117 #[.int .i64 width, .int .i64 n] w (nM (.string (bs (ny 2 n))) w) := by
 have hmk : ∀ w : World, (Instr.makeSlice 145 (.int .i64 2) (.int .i64 2)).run prog w = .ok (.slice (some ⟨w.heap.size, 0, none⟩) 2 2) (w.alloc (.cells #[.int .u8 0, .int .u8 0] 5)) := fun _ => by kernel_rfl
 have hcv : (convert 145 9 (.slice (some ⟨w.heap.size, 0, none⟩) 2 2)).run prog (w.alloc (.cells #[.int .u8 (n / 256 % 256), .int .u8 (n % 256)] 5)) = .ok (.string (bs (ny 2 n))) (w.alloc (.cells #[.int .u8 (n / 256 % 256), .int .u8 (n % 256)] 5)) :=
  run_convert_bytes_arg _ 145 5 underlying145 underlying5 _ 0 2 2 [n / 256 % 256, n % 256] rfl (vC w _ _ [n / 256 % 256, n % 256]) 9 underlying9
 have H := Lib.hid h;clear h;go_enter func117, ntmps117;go_wp2_with fail;refine (uz _ _).mono ?_;rintro e w' ⟨rfl, rfl⟩;rw [H.out, show ((2 : Nat) : Int) = 2 from rfl];go_wp2_with fail;refine wp_loop_rounds 3 ?_;rw [rounds_succ];go_wp2_with fail;exact kg
theorem Vu (width n : Int) (w : World) (h : hw width = 3) : Calls prog 117 #[.int .i64 width, .int .i64 n] w (nM (.string (bs (ny 3 n))) w) := by
 have hmk : ∀ w : World, (Instr.makeSlice 145 (.int .i64 3) (.int .i64 3)).run prog w = .ok (.slice (some ⟨w.heap.size, 0, none⟩) 3 3) (w.alloc (.cells #[.int .u8 0, .int .u8 0, .int .u8 0] 5)) := fun _ => by kernel_rfl
 have hcv : (convert 145 9 (.slice (some ⟨w.heap.size, 0, none⟩) 3 3)).run prog (w.alloc (.cells #[.int .u8 (n / 256 / 256 % 256), .int .u8 (n / 256 % 256), .int .u8 (n % 256)] 5)) = .ok (.string (bs (ny 3 n))) (w.alloc (.cells #[.int .u8 (n / 256 / 256 % 256), .int .u8 (n / 256 % 256), .int .u8 (n % 256)] 5)) :=
  run_convert_bytes_arg _ 145 5 underlying145 underlying5 _ 0 3 3 [n / 256 / 256 % 256, n / 256 % 256, n % 256] rfl (vC w _ _ [n / 256 / 256 % 256, n / 256 % 256, n % 256]) 9 underlying9
 have H := Lib.hid h;clear h;go_enter func117, ntmps117;go_wp2_with fail;refine (uz _ _).mono ?_;rintro e w' ⟨rfl, rfl⟩;rw [H.out, show ((3 : Nat) : Int) = 3 from rfl];go_wp2_with fail;refine wp_loop_rounds 4 ?_;rw [rounds_succ];go_wp2_with fail;rw [rounds_succ];go_wp2_with fail;exact kg
theorem Vv (width n : Int) (w : World) (h : hw width = 4) : Calls prog 117 #[.int .i64 width, .int .i64 n] w (nM (.string (bs (ny 4 n))) w) := by
 have hmk : ∀ w : World, (Instr.makeSlice 145 (.int .i64 4) (.int .i64 4)).run prog w = .ok (.slice (some ⟨w.heap.size, 0, none⟩) 4 4) (w.alloc (.cells #[.int .u8 0, .int .u8 0, .int .u8 0, .int .u8 0] 5)) := fun _ => by kernel_rfl
 have hcv : (convert 145 9 (.slice (some ⟨w.heap.size, 0, none⟩) 4 4)).run prog (w.alloc (.cells #[.int .u8 (n / 256 / 256 / 256 % 256), .int .u8 (n / 256 / 256 % 256), .int .u8 (n / 256 % 256), .int .u8 (n % 256)] 5)) = .ok (.string (bs (ny 4 n))) (w.alloc (.cells #[.int .u8 (n / 256 / 256 / 256 % 256), .int .u8 (n / 256 / 256 % 256), .int .u8 (n / 256 % 256), .int .u8 (n % 256)] 5)) :=
  run_convert_bytes_arg _ 145 5 underlying145 underlying5 _ 0 4 4 [n / 256 / 256 / 256 % 256, n / 256 / 256 % 256, n / 256 % 256, n % 256] rfl (vC w _ _ [n / 256 / 256 / 256 % 256, n / 256 / 256 % 256, n / 256 % 256, n % 256]) 9 underlying9
 have H := Lib.hid h;clear h;go_enter func117, ntmps117;go_wp2_with fail;refine (uz _ _).mono ?_;rintro e w' ⟨rfl, rfl⟩;rw [H.out, show ((4 : Nat) : Int) = 4 from rfl];go_wp2_with fail;refine wp_loop_rounds 5 ?_;rw [rounds_succ];go_wp2_with fail;rw [rounds_succ];go_wp2_with fail;rw [rounds_succ];go_wp2_with fail;exact kg
theorem pg (width n : Int) (w : World) : Calls prog 117 #[.int .i64 width, .int .i64 n] w (nM (.string (bs (ny (hw width) n))) w) := by
 have h : hw width = 0 \/ hw width = 1 \/ hw width = 2 \/ hw width = 3 \/ hw width = 4 := by have := Od width; omega
 rcases h with h | h | h | h | h
 ·rw [h]; exact Vr width n w h
 ·rw [h]; exact Vs width n w h
 ·rw [h]; exact Vt width n w h
 ·rw [h]; exact Vu width n w h
 ·rw [h]; exact Vv width n w h
def sD (w : World) (g : Nat) (rest : List UInt8) (short : Bool) : Prop := nj w g 322 [.string (bs rest), .bool short]
def zC (v : Value) (g : Nat) (rest : List UInt8) (short : Bool) (w : World) (e : Ending) (w' : World) : Prop :=
 e = .returned v /\ sD w' g rest short /\ w.grownBy w' (some g)
def Um (rest : List UInt8) (w : World) (e : Ending) (w' : World) : Prop :=
 e = .returned (.pointer (some ⟨w.heap.size, 0, none⟩)) /\ sD w' w.heap.size rest false /\ Below w.heap.size w w'
theorem tF (s : List UInt8) (w : World) : Calls prog 176 #[.string (bs s)] w (Um s w) := by
 go_enter func176, ntmps176;go_wp2;go_ret;exact ⟨rfl, nj.new _ _ [.string (bs s), .bool false], (Below.refl _ _).alloc (Nat.le_refl _) _⟩
def rY (rest : List UInt8) (short : Bool) (n : Int) : List UInt8 := if short || decide (rest.length < n.toNat) then [] else rest.take n.toNat
def rh (rest : List UInt8) (short : Bool) (n : Int) : List UInt8 := if short || decide (rest.length < n.toNat) then rest else rest.drop n.toNat
def qV (rest : List UInt8) (short : Bool) (n : Int) : Bool := short || decide (rest.length < n.toNat)
theorem Oe (g : Nat) (rest : List UInt8) (short : Bool) (n : Int) (w : World) (h : sD w g rest short) (hl : rest.length <= maxLen) :
  Calls prog 211 #[.pointer (some ⟨g, 0, none⟩), .int .i64 n] w (zC (.string (bs (rY rest short n))) g (rh rest short n) (qV rest short n) w) := by
 unfold maxLen at hl;have c0 := h.nf 0 rfl;have c1 := h.nf 1 rfl;have f0 := h.frozen 0;have f1 := h.frozen 1;have hgl := h.lt;cases short with
 | true => go_enter func211, ntmps211;go_wp2;go_ret;exact ⟨by simp [rY]; rfl, by simpa [sD, rh, qV] using h, World.grownBy.refl _ _⟩
 | false =>
  by_cases hlt : rest.length < n.toNat
  ·have hn : (rest.length : Int) < n := ak;have hn0 : 0 <= n := ak;have T := Hh hlt;clear hlt;go_enter func211, ntmps211;go_wp2;go_ret;exact ⟨by simp [rY, T.out]; rfl, by simpa [sD, rh, qV, T.out] using h.set 1 (.bool true), nT (World.grownBy.refl _ _) _ _⟩
  ·
   by_cases hn0 : 0 <= n
   ·obtain ⟨k, rfl⟩ := Int.eq_ofNat_of_zero_le hn0;have hk : k <= rest.length := ak;have hk' : (k : Int) <= rest.length := ak;have T := Hh hlt;clear hlt;go_enter func211, ntmps211;go_wp2;go_ret;have ht := T.out;rw [Int.toNat_natCast] at ht;exact ⟨by simp [rY, ht], by simpa [sD, rh, qV, ht] using h.set 0 (.string (bs (rest.drop k))), nT (World.grownBy.refl _ _) _ _⟩
   ·have hn : n < 0 := ak;have T := Hh hlt;clear hlt hn0;go_enter func211, ntmps211;go_wp2;go_ret;have ht : n.toNat = 0 := ak;exact ⟨by simp [rY, ht]; rfl, by simpa [sD, rh, qV, ht] using h.set 0 (.string (bs rest)), nT (World.grownBy.refl _ _) _ _⟩
theorem zD (g : Nat) (rest : List UInt8) (short : Bool) (w : World) (h : sD w g rest short) :
  Calls prog 264 #[.pointer (some ⟨g, 0, none⟩)] w (rN (.int .i64 rest.length) w) := by
 have c0 := h.nf 0 rfl;go_enter func264, ntmps264;go_wp2;exact j8
theorem xC (g : Nat) (rest : List UInt8) (short : Bool) (w : World) (h : sD w g rest short) :
  Calls prog 263 #[.pointer (some ⟨g, 0, none⟩)] w (rN (.int .i64 (if short then 1 else 0)) w) := by
 have c1 := h.nf 1 rfl;cases short;all_goals
  go_enter func263, ntmps263;go_wp2;exact j8
def LY (rest : List UInt8) (short : Bool) : Int := if short then 1 else if rest = [] then 0 else 2
theorem RI (g : Nat) (rest : List UInt8) (short : Bool) (w : World) (h : sD w g rest short) :
  Calls prog 265 #[.pointer (some ⟨g, 0, none⟩)] w (rN (.int .i64 (LY rest short)) w) := by
 cases short with
 | true => go_enter func265, ntmps265;go_wp2_with (go_at_call 263; refine (xC _ _ _ _ h).mono ?_; rintro e w' ⟨rfl, rfl⟩);exact j8
 | false =>
  rcases rest with _ | ⟨c, rest⟩
  ·go_enter func265, ntmps265;go_wp2_with (first | (go_at_call 263; refine (xC _ _ _ _ h).mono ?_; rintro e w' ⟨rfl, rfl⟩) | (go_at_call 264; refine (zD _ _ _ _ h).mono ?_; rintro e w' ⟨rfl, rfl⟩));exact j8
  ·go_enter func265, ntmps265;go_wp2_with (first | (go_at_call 263; refine (xC _ _ _ _ h).mono ?_; rintro e w' ⟨rfl, rfl⟩) | (go_at_call 264; refine (zD _ _ _ _ h).mono ?_; rintro e w' ⟨rfl, rfl⟩));exact j8
theorem L5 (l : List UInt8) (k : Nat) (h : k < l.length) : oE (l.take (k + 1)) = 256 * oE (l.take k) + l[k].toNat := by
 rw [List.take_succ_eq_append_getElem h, Dh]
theorem xD (l : List UInt8) (n : Nat) (h : l.length <= n) : oE l < 256 ^ n := Nat.lt_of_lt_of_le (RH l) (Nat.pow_le_pow_right aj h)
theorem Of (l : List UInt8) (h : l.length <= 4) : oE l < 4294967296 := xD l 4 h
theorem Un (n : Nat) (c : Nat) (hn : n < 4294967296) (hc : c < 256) : bits .or .i64 ((n : Int) * 256) (c : Int) = (256 * (n : Int) + c) := by
 have e1 : ((n : Int) * 256) = ((n * 256 : Nat) : Int) := ak;have e2 : (n * 256) ||| c = 256 * n + c := by have := Nat.two_pow_add_eq_or_of_lt (i := 8) (b := c) ak n;rw [Nat.mul_comm n 256];exact this.symm
 rw [e1];show IntKind.i64.wrap ((BitVec.ofInt 64 ((n * 256 : Nat) : Int) ||| BitVec.ofInt 64 (c : Int)).toNat : Int) = _;rw [BitVec.toNat_or, BitVec.ofInt_natCast, BitVec.ofInt_natCast, BitVec.toNat_ofNat, BitVec.toNat_ofNat, Nat.mod_eq_of_lt ak, Nat.mod_eq_of_lt ak, e2, IntKind.wrap_i64];omega
theorem zf (g : Nat) (rest : List UInt8) (short : Bool) (width : Int) (w : World) (h : sD w g rest short) (hl : rest.length <= maxLen) :
  Calls prog 177 #[.pointer (some ⟨g, 0, none⟩), .int .i64 width] w (zC (.int .i64 (oE (rY rest short (hw width)))) g (rh rest short (hw width)) (qV rest short (hw width)) w) := by
 have ht : (rY rest short (hw width)).length <= 4 := by have := Od width;unfold rY; split <;> simp <;> omega
 go_enter func177, ntmps177;go_wp2_with fail;refine (uz _ _).mono ?_;rintro e w' ⟨rfl, rfl⟩;go_wp2_with fail;refine (Oe g rest short _ _ h hl).mono ?_;rintro e w1 ⟨rfl, h1, hg1⟩;generalize rY rest short (hw width) = l at *;go_wp2_with (refine zB _ rfl (.tmp 11) 9 145 5 rfl underlying9 underlying145 underlying5 l rfl ?_);intro cap w2 hcap hby hb2 hsz;go_wp2_with fail;go_loop [5, 7, 14] (fun n _ i => ∃ k : Nat, k <= l.length /\ i = .int .i64 k /\ n = .int .i64 (oE (l.take k))) (fun _ _ i => l.length - (intOf i).toNat)
 case atStart => exact ⟨0, Nat.zero_le _, rfl, rfl⟩
 case round =>
  obtain ⟨k, hk, rfl, rfl⟩ := hrel;have hb := Of (l.take k) al;by_cases hlt : k < l.length
  ·
   have hs := Hh (L5 l k hlt);have hlt' : (k : Int) < l.length := ak;have hc : l[k].toNat < 256 := l[k].toNat_lt;have hcell := hby.at_ k hlt;rw [Nat.zero_add] at hcell;go_wp2;go_round
   case rel => exact ⟨k + 1, ak, eh, by rw [Un _ _ hb hc, hs.out]; go_num⟩
   case measure => simp [intOf]; omega
  ·have hlt' : ¬ (k : Int) < l.length := ak;go_wp2;go_ret;exact ⟨ru dV, h1.below hb2 h1.lt, pj hg1 hb2⟩
theorem ofNat_mod (n : Int) : ((UInt8.ofNat (n % 256).toNat).toNat : Int) = n % 256 := by
 rw [UInt8.toNat_ofNat'];omega
theorem yr : ∀ (k : Nat) (n : Int), (oE (ny k n) : Int) = n % (256 ^ k : Nat) := by
 intro k;induction k with
 | zero => intro n; simp [ny, oE]
 | succ k ih =>
  intro n;have h1 := ih (n / 256);have h2 := ofNat_mod n;rw [ny, Dh];have hp : 0 < 256 ^ k := Nat.pow_pos aj;generalize hq : 256 ^ k = m at *;have e : n % ((256 * m : Nat) : Int) = 256 * (n / 256 % (m : Int)) + n % 256 := by
   have hm : (0 : Int) < m := ak;have b1 := Int.emod_nonneg (n / 256) (show (m : Int) ≠ 0 by omega);have b2 := Int.emod_lt_of_pos (n / 256) hm;have d := Int.emod_add_mul_ediv (n / 256) m;have key : n = (256 * (n / 256 % (m : Int)) + n % 256) + ((256 * m : Nat) : Int) * (n / 256 / m) := by
    have : ((256 * m : Nat) : Int) * (n / 256 / m) = 256 * ((m : Int) * (n / 256 / m)) := by rw [Int.natCast_mul]; exact Int.mul_assoc _ _ _
    rw [this]; omega
   have : n % ((256 * m : Nat) : Int) = (256 * (n / 256 % (m : Int)) + n % 256) % ((256 * m : Nat) : Int) := by
    conv => lhs; rw [key]
    exact Int.add_mul_emod_self_left _ _ _
   rw [this];exact Int.emod_eq_of_lt ak ak
  rw [Nat.pow_succ, hq, Nat.mul_comm m 256, e];omega
def r7 (l : List UInt8) : List UInt8 := UInt8.ofNat l.length :: l
def pU (n : List (List UInt8)) : List UInt8 := n.flatMap r7
theorem vD (l : List UInt8) : (r7 l).length = l.length + 1 := by simp [r7]
@[simp] theorem Vw : pU [] = [] := rfl
theorem tL (l : List UInt8) (n : List (List UInt8)) : pU (l :: n) = r7 l ++ pU n := by simp [pU]
theorem zE (a b : List (List UInt8)) : pU (a ++ b) = pU a ++ pU b := by simp [pU]
def oC : List (List UInt8) -> Nat
 | [] => 0
 | l :: n => l.length + 1 + oC n
theorem zF (a b : List (List UInt8)) : oC (a ++ b) = oC a + oC b := by
 induction a with
 | nil => simp [oC]
 | cons l a ih => simp [oC, ih]; omega
theorem pb (n : List (List UInt8)) : (pU n).length = oC n := by
 induction n with
 | nil => rfl
 | cons l n ih => rw [tL, List.length_append, vD, ih, oC]
theorem wB (n : List (List UInt8)) : n.length <= oC n := by
 induction n with
 | nil => simp
 | cons l n ih => simp [oC]; omega
theorem yt (n : List (List UInt8)) (k : Nat) (h : k < n.length) : oC (n.take (k + 1)) = oC (n.take k) + (n[k].length + 1) := by
 rw [List.take_succ_eq_append_getElem h, zF]; simp [oC]
theorem qL (n : List (List UInt8)) (k : Nat) : oC (n.take k) <= oC n := by
 have := zF (n.take k) (n.drop k);rw [List.take_append_drop] at this; omega
def xf (l : List UInt8) : Bool := decide (l.length < 1) || decide (63 < l.length)
def nH (n : List (List UInt8)) : Int := if n.any xf then 7 else if 255 < 1 + oC n then 3 else 0
theorem qB {n : List (List UInt8)} (h : nH n = 0) : (∀ l ∈ n, 1 <= l.length /\ l.length <= 63) /\ 1 + oC n <= 255 := by
 unfold nH at h;split at h
 ·cases h
 ·
  rename_i ha;split at h
  ·cases h
  ·
   refine ⟨fun l hl => ?_, ak⟩;have hb : xf l = false := by
    cases h : xf l with
    | false => rfl
    | true => exact absurd (List.any_eq_true.2 ⟨l, hl, h⟩) ha
   simp [xf] at hb;cases l with
   | nil => simp at hb
   | cons x l => simp at hb ⊢; omega
theorem IZ {n : List (List UInt8)} (h : ∀ l ∈ n, 1 <= l.length /\ l.length <= 63) (hs : 1 + oC n <= 255) : nH n = 0 := by
 unfold nH;have : n.any xf = false := by rw [List.any_eq_false];intro l hl;have := h l hl;rw [xf, decide_eq_false ak, decide_eq_false ak]; simp
 rw [this, if_neg ag, if_neg ak]
def rl (n : List (List UInt8)) : Prop := ∀ l ∈ n, 1 <= l.length /\ l.length <= 63
theorem rl.tail {l : List UInt8} {n : List (List UInt8)} (h : rl (l :: n)) : rl n := fun x hx => h x (List.mem_cons_of_mem _ hx)
theorem rl.drop {n : List (List UInt8)} (h : rl n) (k : Nat) : rl (n.drop k) := fun x hx => h x (List.mem_of_mem_drop hx)
theorem qX {k : Nat} (h : k <= 255) : (UInt8.ofNat k).toNat = k := by
 rw [UInt8.toNat_ofNat']; exact Nat.mod_eq_of_lt ak
theorem Og : ∀ (a b : List (List UInt8)), rl a -> rl b -> pU a = pU b -> a = b := by
 intro a;induction a with
 | nil =>
  intro b _ _ h;cases b with
  | nil => rfl
  | cons y b => rw [tL] at h; simp [r7] at h
 | cons x a ih =>
  intro b ga gb h;cases b with
  | nil => rw [tL] at h; simp [r7] at h
  | cons y b =>
   rw [tL, tL] at h;simp only [r7, List.cons_append, List.cons.injEq] at h;obtain ⟨h1, h2⟩ := h;have gx := ga x (List.mem_cons_self ..);have gy := gb y (List.mem_cons_self ..);have hl : x.length = y.length := by have := congrArg UInt8.toNat h1;rwa [qX ak, qX ak] at this
   obtain ⟨e1, e2⟩ := List.append_inj h2 hl;rw [e1, ih b ga.tail gb.tail e2]
def look (T : List (List (List UInt8) × Nat)) (n : List (List UInt8)) : Option Nat := (T.find? fun r => r.1 == n).map (·.2)
def low (at_ : Int) (k : Nat) : Bool := decide (0 <= at_) && decide (at_ < 16384) && decide (at_ + k < 16384)
theorem xE (at_ : Int) (k : Nat) : low at_ k = true ↔ 0 <= at_ /\ at_ < 16384 /\ at_ + k < 16384 := by simp [low, and_assoc]
def wY (T : List (List (List UInt8) × Nat)) (at_ : Int) (pre : List UInt8) : List (List UInt8) -> List UInt8 × List (List (List UInt8) × Nat)
 | [] => (pre ++ [0], [])
 | l :: n => match look T (l :: n) with
  | some q0 => (pre ++ ny 2 (49152 + q0), [])
  | none => ((wY T at_ (pre ++ r7 l) n).1, (if low at_ pre.length then [(l :: n, (at_ + pre.length).toNat)] else []) ++ (wY T at_ (pre ++ r7 l) n).2)
theorem xF {T : List (List (List UInt8) × Nat)} {at_ : Int} {pre l : List UInt8} {n : List (List UInt8)} {q0 : Nat} (h : look T (l :: n) = some q0) : wY T at_ pre (l :: n) = (pre ++ ny 2 (49152 + q0), []) := by
 rw [wY, h]
theorem zG {T : List (List (List UInt8) × Nat)} {at_ : Int} {pre l : List UInt8} {n : List (List UInt8)} (h : look T (l :: n) = none) : wY T at_ pre (l :: n) = ((wY T at_ (pre ++ r7 l) n).1, (if low at_ pre.length then [(l :: n, (at_ + pre.length).toNat)] else []) ++ (wY T at_ (pre ++ r7 l) n).2) := by
 rw [wY, h]
theorem wZ (T U : List (List (List UInt8) × Nat)) (n : List (List UInt8)) (h : ∀ r ∈ U, r.1 ≠ n) : look (T ++ U) n = look T n := by
 unfold look;rw [List.find?_append];have : U.find? (fun r => r.1 == n) = none := by rw [List.find?_eq_none];intro r hr; simpa using h r hr
 rw [this]; simp
theorem Gg {T : List (List (List UInt8) × Nat)} {n : List (List UInt8)} {q : Nat} (h : look T n = some q) : (n, q) ∈ T := by
 unfold look at h;rw [Option.map_eq_some_iff] at h;obtain ⟨r, hr, rfl⟩ := h;have h1 := List.find?_some hr;have h2 := List.mem_of_find?_eq_some hr;have : r.1 = n := gO;rw [<- this]; exact h2
inductive Rd (m : List UInt8) : Nat -> Nat -> List (List UInt8) -> Nat -> Prop where
 | nil {b p} : p < m.length -> (m.getD p 0).toNat = 0 -> Rd m b p [] (p + 1)
 | cons {b p l n e} : p < m.length -> (m.getD p 0).toNat = l.length -> 1 <= l.length -> l.length <= 63 -> p + 1 + l.length <= m.length -> (m.take (p + 1 + l.length)).drop (p + 1) = l -> Rd m b (p + 1 + l.length) n e -> Rd m b p (l :: n) e
 | ptr {b p q n e} : p + 1 < m.length -> 192 <= (m.getD p 0).toNat -> (m.getD p 0).toNat * 256 + (m.getD (p + 1) 0).toNat - 49152 = q -> q < b -> Rd m q q n e -> Rd m b p n (p + 2)
theorem xG (m y : List UInt8) (p : Nat) (h : p < m.length) : (m ++ y).getD p 0 = m.getD p 0 := by
 simp [List.getD, List.getElem?_append_left h]
theorem Rd.app {m : List UInt8} {b p : Nat} {n : List (List UInt8)} {e : Nat} (h : Rd m b p n e) (y : List UInt8) : Rd (m ++ y) b p n e := by
 induction h with
 | nil h1 h2 => exact .nil al ao
 | cons h1 h2 h3 h4 h5 h6 _ ih => exact .cons al ao h3 h4 al (by rw [List.take_append_of_le_length h5]; exact h6) ih
 | ptr h1 h2 h3 h4 _ ih => exact .ptr al (by rw [xG _ _ _ ak]; exact h2) (by rw [xG _ _ _ ak, xG _ _ _ h1]; exact h3) h4 ih
theorem Rd.mono {m : List UInt8} {b p : Nat} {n : List (List UInt8)} {e : Nat} (h : Rd m b p n e) : ∀ b', b <= b' -> Rd m b' p n e := by
 induction h with
 | nil h1 h2 => intro b' hb; exact .nil h1 h2
 | cons h1 h2 h3 h4 h5 h6 _ ih => intro b' hb; exact .cons h1 h2 h3 h4 h5 h6 (ih b' hb)
 | ptr h1 h2 h3 h4 h5 ih => intro b' hb; exact .ptr h1 h2 h3 ak h5
def vE (m : List UInt8) (T : List (List (List UInt8) × Nat)) : Prop := ∀ r ∈ T, r.1 ≠ [] /\ r.2 < 16384 /\ r.2 < m.length /\ ∃ e, Rd m r.2 r.2 r.1 e
theorem vE.app {m : List UInt8} {T : List (List (List UInt8) × Nat)} (h : vE m T) (y : List UInt8) : vE (m ++ y) T := by
 intro r hr;obtain ⟨h1, h2, h3, e, h4⟩ := h r hr;exact ⟨h1, h2, al, e, h4.app y⟩
theorem Oh (q0 : Nat) (h : q0 < 16384) : ny 2 (49152 + q0) = [UInt8.ofNat (192 + q0 / 256), UInt8.ofNat (q0 % 256)] := by
 have e1 : ((49152 + (q0 : Int)) / 256 % 256).toNat = 192 + q0 / 256 := ak;have e2 : ((49152 + (q0 : Int)) % 256).toNat = q0 % 256 := ak;simp [ny, e1, e2]
theorem zg (x y : List UInt8) (c : UInt8) : (x ++ c :: y).getD x.length 0 = c := by simp [List.getD]
theorem Oi (x y : List UInt8) (c d : UInt8) : (x ++ c :: d :: y).getD (x.length + 1) 0 = d := by simp [List.getD]
theorem Oj (q0 : Nat) (h : q0 < 16384) : (UInt8.ofNat (192 + q0 / 256)).toNat * 256 + (UInt8.ofNat (q0 % 256)).toNat - 49152 = q0 := by
 rw [qX ak, qX ak]; omega
theorem Uo (T : List (List (List UInt8) × Nat)) (first : List UInt8) (hT : vE first T) : ∀ (n : List (List UInt8)) (pre : List UInt8), rl n ->
  (∃ a, (wY T first.length pre n).1 = pre ++ a /\ a.length <= oC n + 1 /\ 1 <= a.length /\ ∀ b, first.length <= b -> Rd (first ++ (pre ++ a)) b (first.length + pre.length) n (first.length + pre.length + a.length)) /\
  vE (first ++ (wY T first.length pre n).1) (wY T first.length pre n).2 := by
 intro n;induction n with
 | nil => intro pre _;refine ⟨⟨[0], rfl, by simp [oC], ag, fun b _ => ?_⟩, by simp [wY, vE]⟩;refine .nil ag ?_;rw [<- List.append_assoc, <- List.length_append, zg]; rfl
 | cons l n ih =>
  intro pre hg;have hl := hg l (List.mem_cons_self ..);cases hk : look T (l :: n) with
  | some q0 =>
   rw [xF hk];have hm := Gg hk;obtain ⟨h1, h2, h3, e, h4⟩ := hT _ hm;simp only at h1 h2 h3 h4;simp only;refine ⟨⟨ny 2 (49152 + q0), rfl, by rw [np]; simp [oC]; omega, by rw [np]; omega, fun b hb => ?_⟩, by simp [vE]⟩;rw [np, Oh q0 h2];refine .ptr (q := q0) (e := e) al ?_ ?_ ak ?_
   ·rw [<- List.append_assoc, <- List.length_append, zg, qX ak]; omega
   ·rw [<- List.append_assoc, <- List.length_append, zg, Oi]; exact Oj q0 h2
   ·exact h4.app _
  | none =>
   rw [zG hk];obtain ⟨⟨a, ha, hla, hla1, hr⟩, ht⟩ := ih (pre ++ r7 l) hg.tail;have hR : ∀ b, first.length <= b -> Rd (first ++ (pre ++ (r7 l ++ a))) b (first.length + pre.length) (l :: n) (first.length + pre.length + (r7 l ++ a).length) := by
    intro b hb;have := hr b hb;rw [List.append_assoc] at this;rw [show first.length + (pre ++ r7 l).length = first.length + pre.length + 1 + l.length by simp [r7]; omega] at this;rw [show first.length + pre.length + (r7 l ++ a).length = first.length + pre.length + 1 + l.length + a.length by simp [r7]; omega];refine .cons (by simp [r7]) ?_ hl.1 hl.2 (by simp [r7]; omega) ?_ this
    ·rw [<- List.append_assoc, <- List.length_append];simp only [r7, List.cons_append];rw [zg, qX ak]
    ·
     have e1 : first ++ (pre ++ (r7 l ++ a)) = (first ++ pre ++ [UInt8.ofNat l.length]) ++ (l ++ a) := by simp [r7]
     have e2 : first.length + pre.length + 1 = (first ++ pre ++ [UInt8.ofNat l.length]).length := al;rw [e1, e2, List.drop_take, List.drop_left, Nat.add_sub_cancel_left, List.take_left]
   refine ⟨⟨r7 l ++ a, by rw [ha]; simp, by rw [List.length_append, vD, oC]; omega, by rw [List.length_append]; omega, hR⟩, ?_⟩;intro r hr';rcases List.mem_append.1 hr' with h | h
   ·
    by_cases hc : low first.length pre.length = true
    ·
     rw [if_pos hc, List.mem_singleton] at h;have hc' := (xE _ _).1 hc;have e : (((first.length : Int)) + (pre.length : Int)).toNat = first.length + pre.length := ak;rw [e] at h;rw [h];refine ⟨ag, ak, ?_, first.length + pre.length + (r7 l ++ a).length, ?_⟩
     ·rw [ha]; simp [r7]
     ·rw [ha, List.append_assoc]; exact hR _ ak
    ·rw [if_neg hc] at h; cases h
   ·exact ht r h
theorem Ok (at_ : Int) : ∀ (n : List (List UInt8)) (pre : List UInt8), (wY [] at_ pre n).1 = pre ++ pU n ++ [0] := by
 intro n;induction n with
 | nil => intro pre; simp [wY]
 | cons l n ih => intro pre;rw [zG rfl, ih, tL]; simp
theorem zh : (prog.info? 9).map (fun i => (i.zero, i.size, i.bytes)) = some (some (.string ⟨#[]⟩), 1, 16) := by kernel_rfl
def pL (w : World) (v : Value) (l : List (List UInt8)) : Prop := w.ownsRow 0 9 1 v l.length (l.map fun t => Value.string (bs t))
theorem pL.nil (w : World) : pL w (.slice none 0 0) [] := World.ownsRow_nil _ _ _ _
theorem pL.below {w w' : World} {v : Value} {l : List (List UInt8)} (h : pL w v l) (hb : Below w.heap.size w w') : pL w' v l := by
 refine World.ownsRow.kept h (nG hb none) ?_;cases hv : v.ownBlock with
 | none => exact .inl rfl
 | some g => exact .inr ag
theorem pL.grown {w w' : World} {v : Value} {l : List (List UInt8)} {k : Nat} {t : TypeId} {cs : List Value} (h : pL w v l) (hg : w.grownBy w' (some k)) (hk : nj w k t cs) (ht : t ≠ 9) : pL w' v l := by
 refine World.ownsRow.kept h hg ?_;cases hv : v.ownBlock with
 | none => exact .inl rfl
 | some g =>
  refine .inr ?_;intro e;injection e with e;subst e;rcases h.2 with ⟨rfl, _⟩ | ⟨g', cap, cur, rfl, _, hh, _⟩
  ·simp [Value.ownBlock] at hv
  ·have : g' = g := jm;subst this;unfold nj at hk;rw [hh] at hk;injection hk with hk;injection hk with _ he;exact ht he.symm
theorem Di {w w' : World} {e : TypeId} {size n : Nat} {v : Value} {xs : List Value} (h : w.ownsRow 0 e size v n xs) (hg : w.grownBy w' v.ownBlock) : ∀ j t cs, t ≠ e -> nj w j t cs -> nj w' j t cs := by
 intro j t cs hne hb;refine hb.grown hg ?_;rcases h.2 with ⟨rfl, _⟩ | ⟨g', cap, cur, rfl, _, hh, _⟩
 ·simp [Value.ownBlock]
 ·intro he;have : j = g' := gH;exact lX
def vz (w : World) (A : Option Addr) (l : List (List UInt8)) : Prop := 0 < l.length -> ∃ b off, A = some ⟨b, off, none⟩ /\ b < w.heap.size /\ ∀ i (hi : i < l.length), w.cell? ⟨b, off + i, none⟩ = some (.string (bs l[i]))
theorem pL.form {w : World} {v : Value} {l : List (List UInt8)} (h : pL w v l) : ∃ A c, v = .slice A l.length c /\ vz w A l /\ l.length <= c := by
 rcases h.2 with ⟨rfl, h0⟩ | ⟨g, cap, cur, rfl, _, hh, hnc, _⟩
 ·refine ⟨none, 0, ?_, fun hp => absurd hp ak, ak⟩;rw [h0]
 ·
  refine ⟨some ⟨g, 0, none⟩, cap, rfl, fun _ => ⟨g, 0, rfl, ?_, fun i hi => ?_⟩, hnc⟩
  ·
   rcases Nat.lt_or_ge g w.heap.size with hlt | hge
   ·exact hlt
   ·rw [Array.getElem?_eq_none hge] at hh; cases hh
  ·have := World.ownsRow.cellAt h i ak;rw [Nat.zero_add, this];simp [hi]
theorem vz.below {w w' : World} {A : Option Addr} {l : List (List UInt8)} (h : vz w A l) (hb : Below w.heap.size w w') : vz w' A l := by
 intro hp;obtain ⟨b, off, hA, hlt, hc⟩ := h hp;exact ⟨b, off, hA, Nat.lt_of_lt_of_le hlt hb.size, fun i hi => (hb.cell hlt).trans (hc i hi)⟩
theorem Ol (A B : Option Addr) (a b : List (List UInt8)) (ca cb : Nat) (w : World) (hA : vz w A a) (hB : vz w B b) (hm : a.length <= 281474976710656) (hm2 : b.length <= 281474976710656) :
  Calls prog 152 #[.slice A a.length ca, .slice B b.length cb] w (nM (.bool (decide (a = b))) w) := by
 by_cases hl : a.length = b.length
 ·
  have hl1 : ((a.length : Int) != b.length) = false := by simp [hl]
  have HL := Hh hl;have hle : a.length <= b.length := ak;clear hl;go_enter func152, ntmps152;go_wp2_with fail;go_loopw [5] (fun i wr => ∃ k : Nat, k <= a.length /\ i = .int .i64 k /\ a.take k = b.take k /\ ∃ n, wr = w.drewN n) (fun i _ => a.length - (intOf i).toNat)
  case atStart => exact ⟨0, ak, rfl, ag, 0, rfl⟩
  case round =>
   obtain ⟨k, hk, rfl, htk, n, rfl⟩ := hrel;have TK := Hh htk;clear htk;by_cases hlt : k < a.length
   ·
    have hlt' : (k : Int) < a.length := ak;have hlb : k < b.length := ak;have hltb : (k : Int) < b.length := ak;obtain ⟨ba, oa, rfl, la, xa⟩ := hA ak;obtain ⟨bb, ob, rfl, lb, xb⟩ := hB ak;have c1 := xa k hlt;have c2 := xb k hlb;clear xa xb;by_cases he : a[k] = b[k]
    ·
     have e1 : (a[k] == b[k]) = true := fD;have HE := Hh he;clear he;go_wp2_with fail;go_quiet (fail);go_wp2_with fail;go_roundw
     case rel => refine ⟨k + 1, ak, eh, ?_, _, rfl⟩;rw [List.take_succ_eq_append_getElem hlt, List.take_succ_eq_append_getElem hlb, TK.out, HE.out]
     case measure => simp [intOf]; omega
    ·
     have e1 : (a[k] == b[k]) = false := fD;have hne : decide (a = b) = false := by rw [decide_eq_false_iff_not]; rintro rfl; exact he rfl
     have HN := Hh hne;clear he hne;go_wp2_with fail;go_quiet (fail);go_wp2_with fail;go_ret;exact nM.mk (sd HN.out.symm) (below_drewN (below_drewN (Below.refl _ _) _) _)
   ·
    have hlt' : ¬ (k : Int) < a.length := ak;have hab : decide (a = b) = true := by have h1 := TK.out;rw [List.take_of_length_le ak, List.take_of_length_le (by have := HL.out; omega)] at h1;simpa using h1
    have HN := Hh hab;clear hab;go_wp2_with fail;go_ret;exact nM.mk (sd HN.out.symm) (below_drewN (Below.refl _ _) _)
 ·
  have hl1 : ((a.length : Int) != b.length) = true := al;have hne : decide (a = b) = false := by rw [decide_eq_false_iff_not]; rintro rfl; exact hl rfl
  rw [hne];clear hne;go_enter func152, ntmps152;exact lx
def oM (l : List UInt8) : List Value := l.map fun b => Value.int .u8 (b.toNat : Int)
theorem oK (l : List UInt8) : (oM l).length = l.length := by simp [oM]
theorem uA (a b : List UInt8) : oM (a ++ b) = oM a ++ oM b := by simp [oM]
theorem uB (l : List UInt8) (j : Nat) (h : j < l.length) : (oM l)[j]? = some (.int .u8 (l[j].toNat : Int)) := by simp [oM, h]
theorem xH : (prog.info? 5).map (fun i => (i.zero, i.size, i.bytes)) = some (some (.int .u8 0), 1, 1) := by kernel_rfl
theorem byteSize : (prog.info? 5).map (·.size) = some 1 := by kernel_rfl
theorem Gh : prog.cellsOf 5 = 1 := by kernel_rfl
theorem zH (z : Value) (n : Nat) (h : z.cells = #[z]) : (madeCells z.cells n).toList = List.replicate n z := by
 rw [h];simp [madeCells, Nat.mod_one, List.map_const']
theorem vF (n : Nat) (hn : n <= 281474976710656) (W : World) : (Instr.makeSlice 145 (.int .i64 (n : Int)) (.int .i64 (n : Int))).run prog W = .ok (.slice (some ⟨W.heap.size, 0, none⟩) n n) (W.alloc (.cells (oM (List.replicate n 0)).toArray 5)) := by
 obtain ⟨i0, hi, hz0, hz1, hz2⟩ := info_parts xH;have h := run_make (P := prog) W 145 5 i0 (.int .u8 0) underlying145 hi hz0 .i64 .i64 (n : Int) (n : Int) ak ak (by rw [hz2]; omega) ak;rw [hz1] at h;have e : (madeCells (Value.int .u8 0).cells (((n : Nat) : Int).toNat * 1)) = (oM (List.replicate n 0)).toArray := by have := zH (.int .u8 0) n rfl;rw [Int.toNat_natCast, Nat.mul_one];apply Array.toList_inj.1;rw [this]; simp [oM]
 rw [e] at h;simpa using h
theorem xg {w : World} {g : Nat} {t : TypeId} {cs : List Value} (h : nj w g t cs) (ds : List Value) : nj (w.setRow g ds.toArray) g t ds := setRow_heap _ _ cs.toArray _ t (0, 0) h
theorem I6 {w : World} {g g' : Nat} {t : TypeId} {cs : List Value} (h : nj w g t cs) (ds : Array Value) (hne : g ≠ g') : nj (w.setRow g' ds) g t cs := (setRow_other _ _ _ _ hne).trans h
theorem below_setRow {B : Nat} {a w : World} {g : Nat} (h : Below B a w) (hg : B <= g) (ds : Array Value) : Below B a (w.setRow g ds) :=
 h.trans ⟨rfl, rfl, rfl, ag, fun k hk => setRow_other _ _ _ _ ak⟩
theorem xI (W : World) (g o len cap : Nat) (s : List UInt8) (cs : List Value) (h : nj W g 5 cs) (hle : s.length <= len) (hfit : o + s.length <= cs.length) :
  (Builtin.copy_ #[145, 9] 3 #[.slice (some ⟨g, o, none⟩) len cap, .string (bs s)]).run prog W = .ok (.int .i64 s.length) (W.setRow g (cs.take o ++ oM s ++ cs.drop (o + s.length)).toArray) := by
 have := Lib.run_copy_row_string (P := prog) W 145 9 3 5 g o len cap (bs s) cs.toArray 5 underlying145 byteSize h (by simpa using hle) (by simpa using hfit);rw [this];simp [goInt, bs, Lib.byteCells, oM, ByteArray.size]
theorem zI (W : World) (g cap : Nat) (l : List UInt8) (cs : List Value) (h : nj W g 5 cs) (hl : cs.take l.length = oM l) :
  (convert 145 9 (.slice (some ⟨g, 0, none⟩) l.length cap)).run prog W = .ok (.string (bs l)) W := by
 refine run_convert_bytes_back W 145 9 5 ⟨g, 0, none⟩ cap l underlying145 underlying5 underlying9 ?_;intro j hj;have hc := h.cell j;have e : cs[j]? = (cs.take l.length)[j]? := by rw [List.getElem?_take_of_lt hj]
 rw [e, hl, uB l j hj] at hc;rw [<- hc];congr 1;unfold Addr.add;split <;> simp_all
end Go.Proofs.YthnbcmlnpdabhaaGreat

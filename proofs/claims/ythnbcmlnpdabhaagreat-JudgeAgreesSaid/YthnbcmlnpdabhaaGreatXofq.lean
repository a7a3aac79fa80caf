/-
  Layer 29, the laws' own: what was done lies apart from the exchange.
-/
import Derived.Test.YthnbcmlnpdabhaaGreatLaw29eq
namespace Go.Proofs.YthnbcmlnpdabhaaGreat
open _root_.Go.Proofs.Tryz
open Go.RowKit
set_option maxRecDepth 100000
set_option linter.unusedVariables false
set_option linter.unusedSimpArgs false
theorem pX.W9 {S : Nat -> Prop} {lo : Nat} {w w' : World} {v : Value} {l : List Ou} (h : pX lo w v l) (k : Fr S w w') (hS : ∀ b, v.ownBlock = some b -> ¬ S b) : pX lo w' v l := by
 obtain ⟨css, h1, h2⟩ := h;exact ⟨css, k.V8 h1 hS, h2⟩
theorem qy.off {w : World} {g gl lo : Nat} {D : Option Nat} {x : Xc} {L : Lt} {v : Value} {l : List Ou} (h : qy w g gl D x) (hl : oW w gl L) (ho : pX lo w v l) : ∀ b, v.ownBlock = some b -> ¬ XS g gl D b := by
 intro b hb hx;obtain ⟨Lg, hLg⟩ := h.oL;obtain ⟨Ll, hLl⟩ := qU hl;rcases hx with hx | hx | hx
 ·subst hx; exact ho.Fx hLg aj hb
 ·subst hx; exact ho.Fx hLl aj hb
 ·
  obtain ⟨ok, vn, hs, eb, qs, hB, h1, h2⟩ := h;cases hd : x.done with
  | true => rw [h1 hd] at hx; cases hx
  | false =>
   obtain ⟨_, _, _, k1, k2⟩ := h2 hd;by_cases hlg : x.lg = 2
   ·obtain ⟨gd, e, hA⟩ := k2 hlg;rw [e] at hx;injection hx with hx;subst hx;obtain ⟨Ld, hLd⟩ := hA.QH;exact ho.Fx hLd aj hb
   ·rw [k1 hlg] at hx; cases hx
end Go.Proofs.YthnbcmlnpdabhaaGreat

/-
  Layer 21, the reference (setup): Resolv.
-/
import Derived.Test.YthnbcmlnpdabhaaGreatIDq
namespace Go.Proofs.YthnbcmlnpdabhaaGreat
open _root_.Go.Proofs.Tryz
open Go.RowKit
set_option maxRecDepth 100000
set_option linter.unusedVariables false
set_option linter.unusedSimpArgs false
theorem yh {P : Program} {α : Type} {R : List Value -> α -> Prop} (w : World) (t ty : TypeId) (e : TypeId) (z : Value) (size bytes : Nat) (ht : P.underlying t = some (.slice e)) (hi : (P.info? e).map (fun i => (i.zero, i.size, i.bytes)) = some (some z, size, bytes)) (hzs : z.cells.size = size) (hsz : 0 < size)
  (B : Nat) (v : Value) (l : List α) (h : nZ w B e size R v l) (hB : B <= w.heap.size) (g : Nat) (cs : List Value) (x : α) (hb : nj w g e cs) (hl : cs.length = size) (h1 : ∀ u ∈ cs, u.oneCell' = true) (hr : R cs x) (h63 : l.length + 1 <= maxLen) (hbytes : (l.length + 1) * bytes <= 140737488355328) :
  ∃ v' w', (Builtin.append_ #[t, t] ty #[v, .slice (some ⟨g, 0, none⟩) 1 1]).run P w = .ok v' w' /\ nZ w' B e size R v' (l ++ [x]) /\ w.grownBy w' v.ownBlock := by
 obtain ⟨css, hown, hE⟩ := h;obtain ⟨v', w', hr', h2, h3⟩ := Hk w t ty e z size bytes ht hi hzs hsz B v l.length css.flatten hown hB (some ⟨g, 0, none⟩) 1 1 cs (fun _ => ⟨g, 0, rfl, fun j u hu => by rw [Nat.zero_add]; exact hb.nf j hu⟩) ak h1 h63 hbytes;exact ⟨v', w', hr', nZ.Mv (v := v) hE h2 hr, h3⟩
theorem nZ.vU {α : Type} {R : List Value -> α -> Prop} {w w' : World} {B : Nat} {e t : TypeId} {k g : Nat} {v : Value} {l : List α} {cs : List Value} (h : nZ w B e k R v l) (hb : nj w g t cs) (hne : t ≠ e) (hg : w.grownBy w' v.ownBlock) : nj w' g t cs := by
 obtain ⟨css, ow, _⟩ := h;exact pE hb ow hne hg
theorem nZ.Lp {α β : Type} {R : List Value -> α -> Prop} {R2 : List Value -> β -> Prop} {w w' : World} {B B2 : Nat} {e e2 : TypeId} {k k2 : Nat} {v v2 : Value} {l : List α} {l2 : List β} (h : nZ w B e k R v l) (h2 : nZ w B2 e2 k2 R2 v2 l2) (hne : e2 ≠ e) (hg : w.grownBy w' v.ownBlock) : nZ w' B2 e2 k2 R2 v2 l2 := by
 obtain ⟨css, ⟨h0, ho⟩, hE⟩ := h2;refine ⟨css, ⟨h0, ?_⟩, hE⟩;rcases ho with ho | ⟨g, cap, cur, hv, hB, hb, r⟩
 ·exact .inl ho
 ·exact .inr ⟨g, cap, cur, hv, hB, h.vU (g := g) (t := e2) (cs := cur.toList) hb hne hg, r⟩
end Go.Proofs.YthnbcmlnpdabhaaGreat

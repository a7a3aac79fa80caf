/-
  Layer 12, the reference: Get.
-/
import Derived.Test.YthnbcmlnpdabhaaGreatGGq
namespace Go.Proofs.YthnbcmlnpdabhaaGreat
open _root_.Go.Proofs.Tryz
open Go.RowKit
set_option maxRecDepth 100000
set_option linter.unusedVariables false
def Ux (m : List UInt8) (s : GS) : Prop := 1 + oC s.acc = s.size /\ s.size <= 255 /\ rl s.acc /\ s.at' <= m.length /\ s.bound <= m.length /\ ∀ b, s.behind = some b -> b <= m.length
def VC (m : List UInt8) : GO -> Prop
 | .ok l n => rl l /\ 1 + oC l <= 255 /\ n <= m.length
 | .err e => e = 1 \/ e = 3 \/ e = 7 \/ e = 9
 | .go _ => False
theorem rl.snoc {a : List (List UInt8)} {l : List UInt8} (h : rl a) (h1 : 1 <= l.length) (h2 : l.length <= 63) : rl (a ++ [l]) := by
 intro x hx;rcases List.mem_append.1 hx with hx | hx
 ·exact h x hx
 ·rw [List.mem_singleton] at hx; subst hx; exact ⟨h1, h2⟩
theorem Ds {m : List UInt8} {s : GS} (hi : Ux m s) : (∃ s', pV m s = .go s' /\ Ux m s') \/ (VC m (pV m s) /\ ∀ s', pV m s ≠ .go s') := by
 obtain ⟨at', size, bound, behind, acc⟩ := s;obtain ⟨h1, h2, h3, h4, h5, h6⟩ := hi;simp only at h1 h2 h3 h4 h5 h6;obtain ⟨c, hc⟩ : ∃ c, c = (m.getD at' 0).toNat := eE;by_cases e1 : m.length <= at'
 ·
  right;have : pV m ⟨at', size, bound, behind, acc⟩ = .err 1 := by simp [pV, e1]
  rw [this]; exact ⟨.inl rfl, ag⟩
 by_cases e0 : c = 0
 ·
  right;rw [zm e1 (by rw [<- hc, e0])];refine ⟨⟨h3, ak, ?_⟩, ag⟩;cases behind with
  | none => simp; omega
  | some b => simpa using h6 b rfl
 by_cases e63 : c <= 63
 ·
  by_cases es : m.length < at' + 1 + c
  ·right; rw [Gw e1 hc e0 e63 es]; exact ⟨.inl rfl, ag⟩
  by_cases ez : 255 < size + (c + 1)
  ·right; rw [Ky e1 hc e0 e63 es ez]; exact ⟨.inr (.inl rfl), ag⟩
  left;refine ⟨_, Jh e1 hc e0 e63 es ez, ?_⟩;have hl : ((m.take (at' + 1 + c)).drop (at' + 1)).length = c := al;refine ⟨?_, ei, h3.snoc ak ak, ei, h5, h6⟩;simp only [zF, oC, hl];omega
 by_cases e192 : c < 192
 ·right; rw [OJ e1 hc e63 e192]; exact ⟨.inr (.inr (.inl rfl)), ag⟩
 by_cases ep : m.length <= at' + 1
 ·right; rw [Dq e1 hc e192 ep]; exact ⟨.inl rfl, ag⟩
 by_cases eb : bound <= c * 256 + (m.getD (at' + 1) 0).toNat - 49152
 ·right; rw [Kz e1 hc e192 ep rfl eb]; exact ⟨.inr (.inr (.inr rfl)), ag⟩
 left;refine ⟨_, Ji e1 hc e192 ep rfl eb, h1, h2, h3, ei, ei, ?_⟩;intro b hb;cases behind with
 | none => simp at hb; omega
 | some b' => simp at hb; subst hb; exact h6 _ rfl
theorem OM {m : List UInt8} {s : GS} {o : GO} (h : uU m s o) : Ux m s -> VC m o := by
 induction h with
 | err e => exact lZ
 | ok e => exact lZ
 | go e _ ih =>
  intro hi;rcases Ds hi with ⟨s', h, hi'⟩ | ⟨_, h⟩
  ·rw [e] at h; injection h with h; subst h; exact ih hi'
  ·exact absurd e (h _)
def VE (m : List UInt8) : GO -> Prop
 | .ok l n => rl l /\ 1 + oC l <= 255 /\ n <= m.length
 | .err e => e = 1 \/ e = 3 \/ e = 4 \/ e = 7 \/ e = 9
 | .go _ => False
theorem OP (m : List UInt8) (at_ : Int) : VE m (wV m at_) := by
 unfold wV;cases h : EF m at_ with
 | true => rw [if_pos rfl]; exact .inr (.inr (.inl rfl))
 | false =>
  rw [if_neg ag];have hb : 0 <= at_ /\ at_ <= m.length := by simp [EF] at h; omega
  have := OM (EE m at_.toNat) ⟨rfl, ag, by intro x hx; simp at hx, ei, ei, ag⟩;cases ho : Jj m at_.toNat with
  | ok l n => rw [ho] at this; exact this
  | err e => rw [ho] at this; rcases this with h | h | h | h <;> simp [VE, h]
  | go s => rw [ho] at this; exact this
theorem Se {m : List UInt8} {b p : Nat} {n : List (List UInt8)} {e : Nat} (h : Rd m b p n e) : ∀ (size : Nat) (acc : List (List UInt8)) (beh : Option Nat), size + oC n <= 255 -> uU m ⟨p, size, b, beh, acc⟩ (.ok (acc ++ n) (beh.getD e)) := by
 induction h with
 | nil h1 h2 => intro size acc beh _;rw [List.append_nil];exact .ok (zm ak h2.symm)
 | @cons b p l n e h1 h2 h3 h4 h5 h6 _ ih => intro size acc beh hs;simp only [oC] at hs;refine .go (Jh ak h2.symm ak h4 ak ak) ?_;rw [h6];have := ih (size + (l.length + 1)) (acc ++ [l]) beh ak;simpa using this
 | @ptr b p q n e h1 h2 h3 h4 _ ih => intro size acc beh hs;have hp := Ji (m := m) (at' := p) (size := size) (bound := b) (behind := beh) (acc := acc) ak rfl ak ak rfl ak;rw [h3] at hp;refine .go hp ?_;have := ih size acc (some (beh.getD (p + 2))) hs;simpa using this
theorem Sf {m : List UInt8} {p : Nat} {n : List (List UInt8)} {e : Nat} (h : Rd m p p n e) (hp : p <= m.length) (hs : 1 + oC n <= 255) : wV m p = .ok n e := by
 have h1 := Se h 1 [] none hs;unfold wV;have ho : EF m p = false := by simp [EF]; omega
 rw [ho, if_neg ag, Int.toNat_natCast];exact OL (EE m p) h1
end Go.Proofs.YthnbcmlnpdabhaaGreat

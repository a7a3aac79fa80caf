/-
  Layer 12, the reference: Get.
-/
import Derived.Test.YthnbcmlnpdabhaaGreatGGq
namespace Go.Proofs.YthnbcmlnpdabhaaGreat
open _root_.Go.Proofs.Tryz
open Go.RowKit
set_option maxRecDepth 100000
set_option linter.unusedVariables false
def GInv (m : List UInt8) (s : GS) : Prop := 1 + lsum s.acc = s.size ∧ s.size ≤ 255 ∧ GoodN s.acc ∧ s.at' ≤ m.length ∧ s.bound ≤ m.length ∧ ∀ b, s.behind = some b → b ≤ m.length
def GFin (m : List UInt8) : GO → Prop
 | .ok l n => GoodN l ∧ 1 + lsum l ≤ 255 ∧ n ≤ m.length
 | .err e => e = 1 ∨ e = 3 ∨ e = 7 ∨ e = 9
 | .go _ => False
theorem GoodN.snoc {a : List (List UInt8)} {l : List UInt8} (h : GoodN a) (h1 : 1 ≤ l.length) (h2 : l.length ≤ 63) : GoodN (a ++ [l]) := by
 intro x hx
 rcases List.mem_append.1 hx with hx | hx
 ·
  exact h x hx
 ·
  rw [List.mem_singleton] at hx; subst hx; exact ⟨h1, h2⟩
theorem gstep_inv {m : List UInt8} {s : GS} (hi : GInv m s) : (∃ s', gstep m s = .go s' ∧ GInv m s') ∨ (GFin m (gstep m s) ∧ ∀ s', gstep m s ≠ .go s') := by
 obtain ⟨at', size, bound, behind, acc⟩ := s
 obtain ⟨h1, h2, h3, h4, h5, h6⟩ := hi
 simp only at h1 h2 h3 h4 h5 h6
 obtain ⟨c, hc⟩ : ∃ c, c = (m.getD at' 0).toNat := ⟨_, rfl⟩
 by_cases e1 : m.length ≤ at'
 ·
  right
  have : gstep m ⟨at', size, bound, behind, acc⟩ = .err 1 := by simp [gstep, e1]
  rw [this]; exact ⟨.inl rfl, by simp⟩
 by_cases e0 : c = 0
 ·
  right
  rw [gs_zero e1 (by rw [← hc, e0])]
  refine ⟨⟨h3, by omega, ?_⟩, by simp⟩
  cases behind with
  | none => simp; omega
  | some b => simpa using h6 b rfl
 by_cases e63 : c ≤ 63
 ·
  by_cases es : m.length < at' + 1 + c
  ·
   right; rw [gs_short e1 hc e0 e63 es]; exact ⟨.inl rfl, by simp⟩
  by_cases ez : 255 < size + (c + 1)
  ·
   right; rw [gs_long e1 hc e0 e63 es ez]; exact ⟨.inr (.inl rfl), by simp⟩
  left
  refine ⟨_, gs_lab e1 hc e0 e63 es ez, ?_⟩
  have hl : ((m.take (at' + 1 + c)).drop (at' + 1)).length = c := by simp; omega
  refine ⟨?_, by simp only; omega, h3.snoc (by omega) (by omega), by simp only; omega, h5, h6⟩
  simp only [lsum_app, lsum, hl]
  omega
 by_cases e192 : c < 192
 ·
  right; rw [gs_bad e1 hc e63 e192]; exact ⟨.inr (.inr (.inl rfl)), by simp⟩
 by_cases ep : m.length ≤ at' + 1
 ·
  right; rw [gs_pshort e1 hc e192 ep]; exact ⟨.inl rfl, by simp⟩
 by_cases eb : bound ≤ c * 256 + (m.getD (at' + 1) 0).toNat - 49152
 ·
  right; rw [gs_pbad e1 hc e192 ep rfl eb]; exact ⟨.inr (.inr (.inr rfl)), by simp⟩
 left
 refine ⟨_, gs_ptr e1 hc e192 ep rfl eb, h1, h2, h3, by simp only; omega, by simp only; omega, ?_⟩
 intro b hb
 cases behind with
 | none => simp at hb; omega
 | some b' => simp at hb; subst hb; exact h6 _ rfl
theorem gets_fin {m : List UInt8} {s : GS} {o : GO} (h : Gets m s o) : GInv m s → GFin m o := by
 induction h with
 | err e =>
  intro hi
  rcases gstep_inv hi with ⟨s', h, _⟩ | ⟨h, _⟩
  ·
   rw [e] at h; cases h
  ·
   rwa [e] at h
 | ok e =>
  intro hi
  rcases gstep_inv hi with ⟨s', h, _⟩ | ⟨h, _⟩
  ·
   rw [e] at h; cases h
  ·
   rwa [e] at h
 | go e _ ih =>
  intro hi
  rcases gstep_inv hi with ⟨s', h, hi'⟩ | ⟨_, h⟩
  ·
   rw [e] at h; injection h with h; subst h; exact ih hi'
  ·
   exact absurd e (h _)
def PFin (m : List UInt8) : GO → Prop
 | .ok l n => GoodN l ∧ 1 + lsum l ≤ 255 ∧ n ≤ m.length
 | .err e => e = 1 ∨ e = 3 ∨ e = 4 ∨ e = 7 ∨ e = 9
 | .go _ => False
theorem pget_fin (m : List UInt8) (at_ : Int) : PFin m (pget m at_) := by
 unfold pget
 cases h : outR m at_ with
 | true => rw [if_pos rfl]; exact .inr (.inr (.inl rfl))
 | false =>
  rw [if_neg (by simp)]
  have hb : 0 ≤ at_ ∧ at_ ≤ m.length := by simp [outR] at h; omega
  have := gets_fin (gets_at m at_.toNat) ⟨rfl, by simp, by intro x hx; simp at hx, by simp only; omega, by simp only; omega, by simp⟩
  cases ho : gresAt m at_.toNat with
  | ok l n => rw [ho] at this; exact this
  | err e => rw [ho] at this; rcases this with h | h | h | h <;> simp [PFin, h]
  | go s => rw [ho] at this; exact this
theorem rd_gets {m : List UInt8} {b p : Nat} {n : List (List UInt8)} {e : Nat} (h : Rd m b p n e) : ∀ (size : Nat) (acc : List (List UInt8)) (beh : Option Nat), size + lsum n ≤ 255 → Gets m ⟨p, size, b, beh, acc⟩ (.ok (acc ++ n) (beh.getD e)) := by
 induction h with
 | nil h1 h2 =>
  intro size acc beh _
  rw [List.append_nil]
  exact .ok (gs_zero (by omega) h2.symm)
 | @cons b p l n e h1 h2 h3 h4 h5 h6 _ ih =>
  intro size acc beh hs
  simp only [lsum] at hs
  refine .go (gs_lab (by omega) h2.symm (by omega) h4 (by omega) (by omega)) ?_
  rw [h6]
  have := ih (size + (l.length + 1)) (acc ++ [l]) beh (by omega)
  simpa using this
 | @ptr b p q n e h1 h2 h3 h4 _ ih =>
  intro size acc beh hs
  have hp := gs_ptr (m := m) (at' := p) (size := size) (bound := b) (behind := beh) (acc := acc) (by omega) rfl (by omega) (by omega) rfl (by omega)
  rw [h3] at hp
  refine .go hp ?_
  have := ih size acc (some (beh.getD (p + 2))) hs
  simpa using this
theorem rd_pget {m : List UInt8} {p : Nat} {n : List (List UInt8)} {e : Nat} (h : Rd m p p n e) (hp : p ≤ m.length) (hs : 1 + lsum n ≤ 255) : pget m p = .ok n e := by
 have h1 := rd_gets h 1 [] none hs
 unfold pget
 have ho : outR m p = false := by simp [outR]; omega
 rw [ho, if_neg (by simp), Int.toNat_natCast]
 exact gets_fun (gets_at m p) h1
end Go.Proofs.YthnbcmlnpdabhaaGreat

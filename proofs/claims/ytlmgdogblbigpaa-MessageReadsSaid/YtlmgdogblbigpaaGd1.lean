/-
  Layer 13 (rdata): name, getTarget, getAddr, getSRV.
-/
import Derived.Test.YtlmgdogblbigpaaOwn2
import Derived.Test.YtlmgdogblbigpaaGB
namespace Go.Proofs.Ytlmgdogblbigpaa
open Go.RowKit
set_option maxRecDepth 100000
set_option linter.unusedVariables false
set_option linter.unusedSimpArgs false

def nE (o : GO) : Int := if goE o = 1 then 5 else goE o
/-- What a name's reading in data comes to. -/
def NmRet (o : GO) (w : World) (e : Ending) (w' : World) : Prop :=
  ∃ v, e = .returned (.tuple #[v, .int .i64 (goB o), .int .i64 (nE o)]) ∧ Txts w' v (goN o) ∧ Below w.heap.size w w'
theorem rname_any (m : List UInt8) (a : Nat) (w : World) (hl : m.length ≤ 4000000) : Calls Try.prog 120 #[.string (bs m), .int .i64 a] w (NmRet (pget m a) w) := by
  have G := Lib.hid (get_any m a w hl)
  generalize pget m a = o at *
  have hE : Hid (nE o = if goE o = 1 then 5 else goE o) := Lib.hid rfl
  unfold GetRet at G
  unfold NmRet
  generalize nE o = y at *
  generalize goE o = x at *
  generalize goB o = b at *
  go_enter Try.func120, Try.ntmps120
  go_wp2_with fail
  refine G.out.mono ?_
  rintro _ w1 ⟨v, rfl, hT, hB, _⟩
  by_cases hx : x = 1
  · subst hx
    obtain rfl : y = 5 := by rw [hE.out]; rfl
    go_wp2_with fail
    go_ret3
    exact ⟨v, rfl, hT, hB⟩
  · have hx' : (x == 1) = false := by simpa using hx
    obtain rfl : y = x := by rw [hE.out, if_neg hx]
    clear hx hE
    go_wp2_with fail
    go_ret3
    exact ⟨v, rfl, hT, hB⟩
theorem rname_ok {m : List UInt8} {a : Nat} {l : List (List UInt8)} {n : Nat} (h : pget m a = .ok l n) (w : World) (hl : m.length ≤ 4000000) :
    Calls Try.prog 120 #[.string (bs m), .int .i64 a] w (fun e w' => ∃ v, e = .returned (.tuple #[v, .int .i64 (n : Int), .int .i64 0]) ∧ Txts w' v l ∧ Below w.heap.size w w') := by
  have := rname_any m a w hl
  rw [h] at this
  exact this
theorem rname_no {m : List UInt8} {a : Nat} {x : Int} (h : pget m a = .err x) (w : World) (hl : m.length ≤ 4000000) :
    Calls Try.prog 120 #[.string (bs m), .int .i64 a] w (fun e w' => ∃ v, e = .returned (.tuple #[v, .int .i64 0, .int .i64 (if x = 1 then 5 else x)]) ∧ Txts w' v [] ∧ Below w.heap.size w w') := by
  have := rname_any m a w hl
  rw [h] at this
  exact this
/-- What reading a name with which data end comes to. -/
def TgRet (g : Nat) (L : List Value) (o : Except Int (List (List UInt8))) (w : World) (e : Ending) (w' : World) : Prop :=
  match o with
  | .error x => x ≠ 0 ∧ e = .returned (.int .i64 x) ∧ Blk w' g 86 L ∧ w.grownBy w' (some g)
  | .ok l => ∃ v, e = .returned (.int .i64 0) ∧ Blk w' g 86 (L.set 22 v) ∧ NmO w' v l ∧ w.grownBy w' (some g)
theorem getTarget_any (g : Nat) (L : List Value) (s : List UInt8) (a : Nat) (w : World) (hb : Blk w g 86 L) (hl : L.length = 33) (hs : s.length ≤ 4000000) :
    Calls Try.prog 94 #[.pointer (some ⟨g, 0, none⟩), .string (bs s), .int .i64 a] w (TgRet g L (targAt s a) w) := by
  have hg := hb.lt
  rcases nameE_cases s a with ⟨l, n, h1, h2, h3, h4, h5⟩ | ⟨x, h1, h2, h3, h4⟩
  · have N := Lib.hid (rname_ok h1 w hs)
    unfold targAt
    rw [h2]
    clear h1 h2
    by_cases hn : n = s.length
    · subst hn
      simp only [if_true]
      go_enter Try.func94, Try.ntmps94
      go_wp2_with fail
      refine N.out.mono ?_
      rintro _ w1 ⟨v, rfl, hT, hB⟩
      have B1 := hb.below hB hg
      obtain ⟨A, c, hv, -, -⟩ := hT.form
      subst hv
      clear N hs
      go_wp2_with (refine at_op (.store 24 (.tmp 27) (.tmp 25)) rfl ?_; go_must (refine wpList_stC rfl 24 (.tmp 27) (.tmp 25) rfl g 22 rfl _ rfl B1 (by omega) nameInfo1 rfl rfl ?_))
      intro w2 hb2 hg2 hs2
      have hT2 := NmO.mk' (hT.grown hg2 B1 (by decide)) h4 h5
      clear hT
      go_wp2_with fail
      go_ret
      exact ⟨_, rfl, hb2, hT2, grown_trans (grown_of_below hB _) hg2 (.inl rfl)⟩
    · have hn' : ((n : Int) != (s.length : Int)) = true := by simp; omega
      simp only [hn, if_false]
      clear hn h3
      go_enter Try.func94, Try.ntmps94
      go_wp2_with fail
      refine N.out.mono ?_
      rintro _ w1 ⟨v, rfl, hT, hB⟩
      go_wp2_with fail
      go_ret
      exact ⟨by decide, rfl, hb.below hB hg, grown_of_below hB _⟩
  · have N := Lib.hid (rname_no h1 w hs)
    unfold targAt
    rw [h2]
    generalize (if x = 1 then 5 else x) = y at *
    have hy := h4.nz
    clear h1 h2 h3
    go_enter Try.func94, Try.ntmps94
    go_wp2_with fail
    refine N.out.mono ?_
    rintro _ w1 ⟨v, rfl, hT, hB⟩
    go_wp2_with fail
    go_ret
    exact ⟨h4.ne, rfl, hb.below hB hg, grown_of_below hB _⟩
end Go.Proofs.Ytlmgdogblbigpaa

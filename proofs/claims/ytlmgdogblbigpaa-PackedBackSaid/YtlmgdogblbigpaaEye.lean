/-
  Layer 10 (octet): the Eye, and the reference's Num.
-/
import Derived.Test.YtlmgdogblbigpaaOctet2
namespace Go.Proofs.Ytlmgdogblbigpaa
open Go.RowKit
set_option maxRecDepth 100000

/-- An Eye: what it has not read, and whether there were not enough. -/
def EyeAt (w : World) (g : Nat) (rest : List UInt8) (short : Bool) : Prop := Blk w g 180 [.string (bs rest), .bool short]
/-- The call returns v; the Eye at g has turned, and nothing else that was there. -/
def EyeRet (v : Value) (g : Nat) (rest : List UInt8) (short : Bool) (w : World) (e : Ending) (w' : World) : Prop :=
  e = .returned v ∧ EyeAt w' g rest short ∧ w.grownBy w' (some g)

/-- A new Eye. -/
def EyeNew (rest : List UInt8) (w : World) (e : Ending) (w' : World) : Prop :=
  e = .returned (.pointer (some ⟨w.heap.size, 0, none⟩)) ∧ EyeAt w' w.heap.size rest false ∧ Below w.heap.size w w'

theorem new_any (s : List UInt8) (w : World) : Calls Try.prog 121 #[.string (bs s)] w (EyeNew s w) := by
  go_enter Try.func121, Try.ntmps121
  go_wp2
  go_ret
  exact ⟨rfl, Blk.new _ _ [.string (bs s), .bool false], (Below.refl _ _).alloc (Nat.le_refl _) _⟩

/-- What a Take gives, and leaves. -/
def takeV (rest : List UInt8) (short : Bool) (n : Int) : List UInt8 := if short || decide (rest.length < n.toNat) then [] else rest.take n.toNat
def takeR (rest : List UInt8) (short : Bool) (n : Int) : List UInt8 := if short || decide (rest.length < n.toNat) then rest else rest.drop n.toNat
def takeS (rest : List UInt8) (short : Bool) (n : Int) : Bool := short || decide (rest.length < n.toNat)

theorem take_any (g : Nat) (rest : List UInt8) (short : Bool) (n : Int) (w : World) (h : EyeAt w g rest short) (hl : rest.length ≤ maxLen) :
    Calls Try.prog 134 #[.pointer (some ⟨g, 0, none⟩), .int .i64 n] w (EyeRet (.string (bs (takeV rest short n))) g (takeR rest short n) (takeS rest short n) w) := by
  unfold maxLen at hl
  have c0 := h.cell_ 0 rfl
  have c1 := h.cell_ 1 rfl
  have f0 := h.frozen 0
  have f1 := h.frozen 1
  have hgl := h.lt
  cases short with
  | true =>
    go_enter Try.func134, Try.ntmps134
    go_wp2
    go_ret
    exact ⟨by simp [takeV]; rfl, by simpa [EyeAt, takeR, takeS] using h, World.grownBy.refl _ _⟩
  | false =>
    by_cases hlt : rest.length < n.toNat
    · have hn : (rest.length : Int) < n := by omega
      have hn0 : 0 ≤ n := by omega
      have T := Lib.hid hlt
      clear hlt
      go_enter Try.func134, Try.ntmps134
      go_wp2
      go_ret
      exact ⟨by simp [takeV, T.out]; rfl, by simpa [EyeAt, takeR, takeS, T.out] using h.set 1 (.bool true), grown_set (World.grownBy.refl _ _) _ _⟩
    · by_cases hn0 : 0 ≤ n
      · obtain ⟨k, rfl⟩ := Int.eq_ofNat_of_zero_le hn0
        have hk : k ≤ rest.length := by omega
        have hk' : (k : Int) ≤ rest.length := by omega
        have T := Lib.hid hlt
        clear hlt
        go_enter Try.func134, Try.ntmps134
        go_wp2
        go_ret
        have ht := T.out
        rw [Int.toNat_natCast] at ht
        exact ⟨by simp [takeV, ht], by simpa [EyeAt, takeR, takeS, ht] using h.set 0 (.string (bs (rest.drop k))), grown_set (World.grownBy.refl _ _) _ _⟩
      · have hn : n < 0 := by omega
        have T := Lib.hid hlt
        clear hlt hn0
        go_enter Try.func134, Try.ntmps134
        go_wp2
        go_ret
        have ht : n.toNat = 0 := by omega
        exact ⟨by simp [takeV, ht]; rfl, by simpa [EyeAt, takeR, takeS, ht] using h.set 0 (.string (bs rest)), grown_set (World.grownBy.refl _ _) _ _⟩

theorem left_any (g : Nat) (rest : List UInt8) (short : Bool) (w : World) (h : EyeAt w g rest short) :
    Calls Try.prog 124 #[.pointer (some ⟨g, 0, none⟩)] w (Ret (.int .i64 rest.length) w) := by
  have c0 := h.cell_ 0 rfl
  go_enter Try.func124, Try.ntmps124
  go_wp2
  go_ret
  exact Ret.mk rfl rfl

theorem err_any (g : Nat) (rest : List UInt8) (short : Bool) (w : World) (h : EyeAt w g rest short) :
    Calls Try.prog 123 #[.pointer (some ⟨g, 0, none⟩)] w (Ret (.int .i64 (if short then 1 else 0)) w) := by
  have c1 := h.cell_ 1 rfl
  cases short
  all_goals
    go_enter Try.func123, Try.ntmps123
    go_wp2
    go_ret
    exact Ret.mk rfl rfl

/-- What End tells. -/
def endV (rest : List UInt8) (short : Bool) : Int := if short then 1 else if rest = [] then 0 else 2
theorem end_any (g : Nat) (rest : List UInt8) (short : Bool) (w : World) (h : EyeAt w g rest short) :
    Calls Try.prog 125 #[.pointer (some ⟨g, 0, none⟩)] w (Ret (.int .i64 (endV rest short)) w) := by
  cases short with
  | true =>
    go_enter Try.func125, Try.ntmps125
    go_wp2_with (go_at_call 123; refine (err_any _ _ _ _ h).mono ?_; rintro e w' ⟨rfl, rfl⟩)
    go_ret
    exact Ret.mk rfl rfl
  | false =>
    rcases rest with _ | ⟨c, rest⟩
    · go_enter Try.func125, Try.ntmps125
      go_wp2_with (first | (go_at_call 123; refine (err_any _ _ _ _ h).mono ?_; rintro e w' ⟨rfl, rfl⟩) | (go_at_call 124; refine (left_any _ _ _ _ h).mono ?_; rintro e w' ⟨rfl, rfl⟩))
      go_ret
      exact Ret.mk rfl rfl
    · go_enter Try.func125, Try.ntmps125
      go_wp2_with (first | (go_at_call 123; refine (err_any _ _ _ _ h).mono ?_; rintro e w' ⟨rfl, rfl⟩) | (go_at_call 124; refine (left_any _ _ _ _ h).mono ?_; rintro e w' ⟨rfl, rfl⟩))
      go_ret
      exact Ret.mk rfl rfl
end Go.Proofs.Ytlmgdogblbigpaa

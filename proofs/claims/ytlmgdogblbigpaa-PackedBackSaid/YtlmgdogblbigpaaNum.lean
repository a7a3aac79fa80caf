/-
  Layer 10 (octet): numbers read, by the Eye and by the reference.
-/
import Derived.Test.YtlmgdogblbigpaaEye
namespace Go.Proofs.Ytlmgdogblbigpaa
open Go.RowKit
set_option maxRecDepth 100000

theorem numB_take (l : List UInt8) (k : Nat) (h : k < l.length) : numB (l.take (k + 1)) = 256 * numB (l.take k) + l[k].toNat := by
  rw [List.take_succ_eq_append_getElem h, numB_snoc]
theorem numB_le (l : List UInt8) (n : Nat) (h : l.length ≤ n) : numB l < 256 ^ n := Nat.lt_of_lt_of_le (numB_lt l) (Nat.pow_le_pow_right (by decide) h)
theorem numB_le4 (l : List UInt8) (h : l.length ≤ 4) : numB l < 4294967296 := numB_le l 4 h

theorem refNum_any (l : List UInt8) (w : World) (hl : l.length ≤ 4) : Calls Try.prog 59 #[.string (bs l)] w (Ret (.int .i64 (numB l)) w) := by
  go_enter Try.func59, Try.ntmps59
  go_wp2
  go_loop [3, 4] (fun n i => ∃ k : Nat, k ≤ l.length ∧ i = .int .i64 k ∧ n = .int .i64 (numB (l.take k))) (fun _ i => l.length - (intOf i).toNat)
  case atStart => exact ⟨0, Nat.zero_le _, rfl, rfl⟩
  case round =>
    obtain ⟨k, hk, rfl, rfl⟩ := hrel
    have hb := numB_le4 (l.take k) (by simp; omega)
    by_cases hlt : k < l.length
    · have hs := Lib.hid (numB_take l k hlt)
      have hlt' : (k : Int) < l.length := by omega
      have hc : l[k].toNat < 256 := l[k].toNat_lt
      go_wp2
      go_round
      case rel => exact ⟨k + 1, by omega, by go_num, by rw [hs.out]; go_num⟩
      case measure => simp [intOf]; omega
    · have hlt' : ¬ (k : Int) < l.length := by omega
      go_wp2
      go_ret
      exact Ret.mk (ret_int (by rw [List.take_of_length_le (by omega)])) rfl

/-- 'n<<8 | c'. -/
theorem shl_or (n : Nat) (c : Nat) (hn : n < 4294967296) (hc : c < 256) : bits .or .i64 ((n : Int) * 256) (c : Int) = (256 * (n : Int) + c) := by
  have e1 : ((n : Int) * 256) = ((n * 256 : Nat) : Int) := by omega
  have e2 : (n * 256) ||| c = 256 * n + c := by
    have := Nat.two_pow_add_eq_or_of_lt (i := 8) (b := c) (by omega) n
    rw [Nat.mul_comm n 256]
    exact this.symm
  rw [e1]
  show IntKind.i64.wrap ((BitVec.ofInt 64 ((n * 256 : Nat) : Int) ||| BitVec.ofInt 64 (c : Int)).toNat : Int) = _
  rw [BitVec.toNat_or, BitVec.ofInt_natCast, BitVec.ofInt_natCast, BitVec.toNat_ofNat, BitVec.toNat_ofNat, Nat.mod_eq_of_lt (by omega), Nat.mod_eq_of_lt (by omega), e2, IntKind.wrap_i64]
  omega

theorem num_any (g : Nat) (rest : List UInt8) (short : Bool) (width : Int) (w : World) (h : EyeAt w g rest short) (hl : rest.length ≤ maxLen) :
    Calls Try.prog 122 #[.pointer (some ⟨g, 0, none⟩), .int .i64 width] w (EyeRet (.int .i64 (numB (takeV rest short (hw width)))) g (takeR rest short (hw width)) (takeS rest short (hw width)) w) := by
  have ht : (takeV rest short (hw width)).length ≤ 4 := by
    have := hw_le width
    unfold takeV; split <;> simp <;> omega
  go_enter Try.func122, Try.ntmps122
  go_wp2_with fail
  refine (held_any _ _).mono ?_
  rintro e w' ⟨rfl, rfl⟩
  go_wp2_with fail
  refine (take_any g rest short _ _ h hl).mono ?_
  rintro e w1 ⟨rfl, h1, hg1⟩
  generalize takeV rest short (hw width) = l at *
  go_wp2_with (refine wpList_tobytes _ rfl (.tmp 11) 9 94 5 rfl Try.underlying9 Try.underlying94 Try.underlying5 l rfl ?_)
  intro cap w2 hcap hby hb2 hsz
  go_wp2_with fail
  go_loop [5, 7, 14] (fun n _ i => ∃ k : Nat, k ≤ l.length ∧ i = .int .i64 k ∧ n = .int .i64 (numB (l.take k))) (fun _ _ i => l.length - (intOf i).toNat)
  case atStart => exact ⟨0, Nat.zero_le _, rfl, rfl⟩
  case round =>
    obtain ⟨k, hk, rfl, rfl⟩ := hrel
    have hb := numB_le4 (l.take k) (by simp; omega)
    by_cases hlt : k < l.length
    · have hs := Lib.hid (numB_take l k hlt)
      have hlt' : (k : Int) < l.length := by omega
      have hc : l[k].toNat < 256 := l[k].toNat_lt
      have hcell := hby.at_ k hlt
      rw [Nat.zero_add] at hcell
      go_wp2
      go_round
      case rel => exact ⟨k + 1, by omega, by go_num, by rw [shl_or _ _ hb hc, hs.out]; go_num⟩
      case measure => simp [intOf]; omega
    · have hlt' : ¬ (k : Int) < l.length := by omega
      go_wp2
      go_ret
      exact ⟨ret_int (by rw [List.take_of_length_le (by omega)]), h1.below hb2 h1.lt, grown_below hg1 hb2⟩
theorem ofNat_mod (n : Int) : ((UInt8.ofNat (n % 256).toNat).toNat : Int) = n % 256 := by
  rw [UInt8.toNat_ofNat']
  omega
theorem numB_putB : ∀ (k : Nat) (n : Int), (numB (putB k n) : Int) = n % (256 ^ k : Nat) := by
  intro k
  induction k with
  | zero => intro n; simp [putB, numB]
  | succ k ih =>
    intro n
    have h1 := ih (n / 256)
    have h2 := ofNat_mod n
    rw [putB, numB_snoc]
    have hp : 0 < 256 ^ k := Nat.pow_pos (by decide)
    generalize hq : 256 ^ k = m at *
    have e : n % ((256 * m : Nat) : Int) = 256 * (n / 256 % (m : Int)) + n % 256 := by
      have hm : (0 : Int) < m := by omega
      have b1 := Int.emod_nonneg (n / 256) (show (m : Int) ≠ 0 by omega)
      have b2 := Int.emod_lt_of_pos (n / 256) hm
      have d := Int.emod_add_mul_ediv (n / 256) m
      have key : n = (256 * (n / 256 % (m : Int)) + n % 256) + ((256 * m : Nat) : Int) * (n / 256 / m) := by
        have : ((256 * m : Nat) : Int) * (n / 256 / m) = 256 * ((m : Int) * (n / 256 / m)) := by
          rw [Int.natCast_mul]; exact Int.mul_assoc _ _ _
        rw [this]; omega
      have : n % ((256 * m : Nat) : Int) = (256 * (n / 256 % (m : Int)) + n % 256) % ((256 * m : Nat) : Int) := by
        conv => lhs; rw [key]
        exact Int.add_mul_emod_self_left _ _ _
      rw [this]
      exact Int.emod_eq_of_lt (by omega) (by omega)
    rw [Nat.pow_succ, hq, Nat.mul_comm m 256, e]
    omega

end Go.Proofs.Ytlmgdogblbigpaa

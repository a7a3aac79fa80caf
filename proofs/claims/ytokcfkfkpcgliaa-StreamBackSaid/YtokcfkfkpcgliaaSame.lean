/-
  Lists of texts: read, and held against each other.
-/
import Derived.Test.YtokcfkfkpcgliaaFrames
namespace Go.Proofs.Ytokcfkfkpcgliaa
open Go.RowKit
set_option maxRecDepth 100000

/-- A slice of texts that is read. -/
def TxtR (w : World) (A : Option Addr) (l : List (List UInt8)) : Prop := 0 < l.length → ∃ b off, A = some ⟨b, off, none⟩ ∧ b < w.heap.size ∧ ∀ i (hi : i < l.length), w.cell? ⟨b, off + i, none⟩ = some (.string (bs l[i]))
theorem Txts.form {w : World} {v : Value} {l : List (List UInt8)} (h : Txts w v l) : ∃ A c, v = .slice A l.length c ∧ TxtR w A l ∧ l.length ≤ c := by
  rcases h.2 with ⟨rfl, h0⟩ | ⟨g, cap, cur, rfl, _, hh, hnc, _⟩
  · refine ⟨none, 0, ?_, fun hp => absurd hp (by omega), by omega⟩
    rw [h0]
  · refine ⟨some ⟨g, 0, none⟩, cap, rfl, fun _ => ⟨g, 0, rfl, ?_, fun i hi => ?_⟩, hnc⟩
    · rcases Nat.lt_or_ge g w.heap.size with hlt | hge
      · exact hlt
      · rw [Array.getElem?_eq_none hge] at hh; cases hh
    · have := World.ownsRow.cellAt h i (by omega)
      rw [Nat.zero_add, this]
      simp [hi]
theorem TxtR.below {w w' : World} {A : Option Addr} {l : List (List UInt8)} (h : TxtR w A l) (hb : Below w.heap.size w w') : TxtR w' A l := by
  intro hp
  obtain ⟨b, off, hA, hlt, hc⟩ := h hp
  exact ⟨b, off, hA, Nat.lt_of_lt_of_le hlt hb.size, fun i hi => (hb.cell hlt).trans (hc i hi)⟩
theorem TxtR.drewN {w : World} {A : Option Addr} {l : List (List UInt8)} (h : TxtR w A l) (n : Nat) : TxtR (w.drewN n) A l := h

theorem same_any (A B : Option Addr) (a b : List (List UInt8)) (ca cb : Nat) (w : World) (hA : TxtR w A a) (hB : TxtR w B b) (hm : a.length ≤ 281474976710656) (hm2 : b.length ≤ 281474976710656) :
    Calls Try.prog 30 #[.slice A a.length ca, .slice B b.length cb] w (RetB (.bool (decide (a = b))) w) := by
  by_cases hl : a.length = b.length
  · have hl1 : ((a.length : Int) != b.length) = false := by simp [hl]
    have HL := Lib.hid hl
    have hle : a.length ≤ b.length := by omega
    clear hl
    go_enter Try.func30, Try.ntmps30
    go_wp2_with fail
    go_loopw [5] (fun i wr => ∃ k : Nat, k ≤ a.length ∧ i = .int .i64 k ∧ a.take k = b.take k ∧ ∃ n, wr = w.drewN n) (fun i _ => a.length - (intOf i).toNat)
    case atStart => exact ⟨0, by omega, rfl, by simp, 0, rfl⟩
    case round =>
      obtain ⟨k, hk, rfl, htk, n, rfl⟩ := hrel
      have TK := Lib.hid htk
      clear htk
      by_cases hlt : k < a.length
      · have hlt' : (k : Int) < a.length := by omega
        have hlb : k < b.length := by omega
        have hltb : (k : Int) < b.length := by omega
        obtain ⟨ba, oa, rfl, la, xa⟩ := hA (by omega)
        obtain ⟨bb, ob, rfl, lb, xb⟩ := hB (by omega)
        have c1 := xa k hlt
        have c2 := xb k hlb
        clear xa xb
        by_cases he : a[k] = b[k]
        · have e1 : (a[k] == b[k]) = true := by simpa using he
          have HE := Lib.hid he
          clear he
          go_wp2_with fail
          go_quiet (fail)
          go_wp2_with fail
          go_roundw
          case rel =>
            refine ⟨k + 1, by omega, by go_num, ?_, _, rfl⟩
            rw [List.take_succ_eq_append_getElem hlt, List.take_succ_eq_append_getElem hlb, TK.out, HE.out]
          case measure => simp [intOf]; omega
        · have e1 : (a[k] == b[k]) = false := by simpa using he
          have hne : decide (a = b) = false := by
            rw [decide_eq_false_iff_not]; rintro rfl; exact he rfl
          have HN := Lib.hid hne
          clear he hne
          go_wp2_with fail
          go_quiet (fail)
          go_wp2_with fail
          go_ret
          exact RetB.mk (ret_bool HN.out.symm) (below_drewN (below_drewN (Below.refl _ _) _) _)
      · have hlt' : ¬ (k : Int) < a.length := by omega
        have hab : decide (a = b) = true := by
          have h1 := TK.out
          rw [List.take_of_length_le (by omega), List.take_of_length_le (by have := HL.out; omega)] at h1
          simpa using h1
        have HN := Lib.hid hab
        clear hab
        go_wp2_with fail
        go_ret
        exact RetB.mk (ret_bool HN.out.symm) (below_drewN (Below.refl _ _) _)
  · have hl1 : ((a.length : Int) != b.length) = true := by simp; omega
    have hne : decide (a = b) = false := by
      rw [decide_eq_false_iff_not]; rintro rfl; exact hl rfl
    rw [hne]
    clear hne
    go_enter Try.func30, Try.ntmps30
    go_wp2_with fail
    go_ret
    exact RetB.mk rfl (Below.refl _ _)
end Go.Proofs.Ytokcfkfkpcgliaa

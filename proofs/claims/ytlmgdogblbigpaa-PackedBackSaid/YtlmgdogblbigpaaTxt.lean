/-
  Lists of texts: owned rows, rows that are read, held against each other.
-/
import Derived.Test.YtlmgdogblbigpaaPkPlain
import Derived.Deep.AppendLies
namespace Go.Proofs.Ytlmgdogblbigpaa
open Go.RowKit
set_option maxRecDepth 100000

theorem strInfo : (Try.prog.info? 9).map (fun i => (i.zero, i.size, i.bytes)) = some (some (.string ⟨#[]⟩), 1, 16) := by kernel_rfl
/-- A row of texts of the call's own. -/
def Txts (w : World) (v : Value) (l : List (List UInt8)) : Prop := w.ownsRow 0 9 1 v l.length (l.map fun t => Value.string (bs t))
theorem Txts.nil (w : World) : Txts w (.slice none 0 0) [] := World.ownsRow_nil _ _ _ _
theorem Txts.below {w w' : World} {v : Value} {l : List (List UInt8)} (h : Txts w v l) (hb : Below w.heap.size w w') : Txts w' v l := by
  refine World.ownsRow.kept h (grown_of_below hb none) ?_
  cases hv : v.ownBlock with
  | none => exact .inl rfl
  | some g => exact .inr (by simp)
theorem Txts.grown {w w' : World} {v : Value} {l : List (List UInt8)} {k : Nat} {t : TypeId} {cs : List Value} (h : Txts w v l) (hg : w.grownBy w' (some k)) (hk : Blk w k t cs) (ht : t ≠ 9) : Txts w' v l := by
  refine World.ownsRow.kept h hg ?_
  cases hv : v.ownBlock with
  | none => exact .inl rfl
  | some g =>
    refine .inr ?_
    intro e
    injection e with e
    subst e
    rcases h.2 with ⟨rfl, _⟩ | ⟨g', cap, cur, rfl, _, hh, _⟩
    · simp [Value.ownBlock] at hv
    · have : g' = g := by simpa [Value.ownBlock] using hv
      subst this
      unfold Blk at hk
      rw [hh] at hk
      injection hk with hk
      injection hk with _ he
      exact ht he.symm
theorem own_keeps {w w' : World} {e : TypeId} {size n : Nat} {v : Value} {xs : List Value} (h : w.ownsRow 0 e size v n xs) (hg : w.grownBy w' v.ownBlock) : ∀ j t cs, t ≠ e → Blk w j t cs → Blk w' j t cs := by
  intro j t cs hne hb
  refine hb.grown hg ?_
  rcases h.2 with ⟨rfl, _⟩ | ⟨g', cap, cur, rfl, _, hh, _⟩
  · simp [Value.ownBlock]
  · intro he
    have : j = g' := by simpa [Value.ownBlock] using he
    subst this
    unfold Blk at hb
    rw [hh] at hb
    injection hb with hb
    injection hb with _ ht
    exact hne ht.symm

/-- A slice of texts that is read. -/
def TxtR (w : World) (A : Option Addr) (l : List (List UInt8)) : Prop := 0 < l.length → ∃ b off, A = some ⟨b, off, none⟩ ∧ b < w.heap.size ∧ ∀ i (hi : i < l.length), w.cell? ⟨b, off + i, none⟩ = some (.string (bs l[i]))
theorem Txts.form {w : World} {v : Value} {l : List (List UInt8)} (h : Txts w v l) : ∃ A c, v = .slice A l.length c ∧ TxtR w A l ∧ l.length ≤ c := by
  rcases h.2 with ⟨rfl, h0⟩ | ⟨g, cap, cur, rfl, _, hh, hnc, _⟩
  · refine ⟨none, 0, ?_, fun hp => absurd hp (by omega), by omega⟩
    rw [h0]
  · refine ⟨some ⟨g, 0, none⟩, cap, rfl, fun _ => ⟨g, 0, rfl, ?_, fun i hi => ?_⟩, hnc⟩
    · rcases Nat.lt_or_ge g w.heap.size with hlt | hge
      · exact hlt
      · rw [Array.getElem?_eq_none hge] at hh; cases hh
    · have := World.ownsRow.cellAt h i (by omega)
      rw [Nat.zero_add, this]
      simp [hi]
theorem TxtR.below {w w' : World} {A : Option Addr} {l : List (List UInt8)} (h : TxtR w A l) (hb : Below w.heap.size w w') : TxtR w' A l := by
  intro hp
  obtain ⟨b, off, hA, hlt, hc⟩ := h hp
  exact ⟨b, off, hA, Nat.lt_of_lt_of_le hlt hb.size, fun i hi => (hb.cell hlt).trans (hc i hi)⟩
theorem TxtR.drewN {w : World} {A : Option Addr} {l : List (List UInt8)} (h : TxtR w A l) (n : Nat) : TxtR (w.drewN n) A l := h
/-- The slice's value reads as these texts. -/
def TxtV (w : World) (v : Value) (l : List (List UInt8)) : Prop := ∃ A c, v = .slice A l.length c ∧ TxtR w A l
theorem TxtV.below {w w' : World} {v : Value} {l : List (List UInt8)} (h : TxtV w v l) (hb : Below w.heap.size w w') : TxtV w' v l := by
  obtain ⟨A, c, rfl, h⟩ := h
  exact ⟨A, c, rfl, h.below hb⟩
theorem Txts.toV {w : World} {v : Value} {l : List (List UInt8)} (h : Txts w v l) : TxtV w v l := by
  obtain ⟨A, c, e, h, _⟩ := h.form
  exact ⟨A, c, e, h⟩
theorem TxtV.nil (w : World) : TxtV w (.slice none 0 0) [] := ⟨none, 0, rfl, fun h => absurd h (by simp)⟩
theorem same_any (A B : Option Addr) (a b : List (List UInt8)) (ca cb : Nat) (w : World) (hA : TxtR w A a) (hB : TxtR w B b) (hm : a.length ≤ 281474976710656) (hm2 : b.length ≤ 281474976710656) :
    Calls Try.prog 60 #[.slice A a.length ca, .slice B b.length cb] w (RetB (.bool (decide (a = b))) w) := by
  by_cases hl : a.length = b.length
  · have hl1 : ((a.length : Int) != b.length) = false := by simp [hl]
    have HL := Lib.hid hl
    have hle : a.length ≤ b.length := by omega
    clear hl
    go_enter Try.func60, Try.ntmps60
    go_wp2_with fail
    go_loopw [5] (fun i wr => ∃ k : Nat, k ≤ a.length ∧ i = .int .i64 k ∧ a.take k = b.take k ∧ ∃ n, wr = w.drewN n) (fun i _ => a.length - (intOf i).toNat)
    case atStart => exact ⟨0, by omega, rfl, by simp, 0, rfl⟩
    case round =>
      obtain ⟨k, hk, rfl, htk, n, rfl⟩ := hrel
      have TK := Lib.hid htk
      clear htk
      by_cases hlt : k < a.length
      · have hlt' : (k : Int) < a.length := by omega
        have hlb : k < b.length := by omega
        have hltb : (k : Int) < b.length := by omega
        obtain ⟨ba, oa, rfl, la, xa⟩ := hA (by omega)
        obtain ⟨bb, ob, rfl, lb, xb⟩ := hB (by omega)
        have c1 := xa k hlt
        have c2 := xb k hlb
        clear xa xb
        by_cases he : a[k] = b[k]
        · have e1 : (a[k] == b[k]) = true := by simpa using he
          have HE := Lib.hid he
          clear he
          go_wp2_with fail
          go_quiet (fail)
          go_wp2_with fail
          go_roundw
          case rel =>
            refine ⟨k + 1, by omega, by go_num, ?_, _, rfl⟩
            rw [List.take_succ_eq_append_getElem hlt, List.take_succ_eq_append_getElem hlb, TK.out, HE.out]
          case measure => simp [intOf]; omega
        · have e1 : (a[k] == b[k]) = false := by simpa using he
          have hne : decide (a = b) = false := by
            rw [decide_eq_false_iff_not]; rintro rfl; exact he rfl
          have HN := Lib.hid hne
          clear he hne
          go_wp2_with fail
          go_quiet (fail)
          go_wp2_with fail
          go_ret
          exact RetB.mk (ret_bool HN.out.symm) (below_drewN (below_drewN (Below.refl _ _) _) _)
      · have hlt' : ¬ (k : Int) < a.length := by omega
        have hab : decide (a = b) = true := by
          have h1 := TK.out
          rw [List.take_of_length_le (by omega), List.take_of_length_le (by have := HL.out; omega)] at h1
          simpa using h1
        have HN := Lib.hid hab
        clear hab
        go_wp2_with fail
        go_ret
        exact RetB.mk (ret_bool HN.out.symm) (below_drewN (Below.refl _ _) _)
  · have hl1 : ((a.length : Int) != b.length) = true := by simp; omega
    have hne : decide (a = b) = false := by
      rw [decide_eq_false_iff_not]; rintro rfl; exact hl rfl
    rw [hne]
    clear hne
    go_enter Try.func60, Try.ntmps60
    go_wp2_with fail
    go_ret
    exact RetB.mk rfl (Below.refl _ _)
end Go.Proofs.Ytlmgdogblbigpaa

/-
  Great and small letters: ascii.small, Same; domain.Same.
-/
import Derived.Test.YtlmgdogblbigpaaGA
import Derived.Test.YtlmgdogblbigpaaGB
import Derived.Test.YtlmgdogblbigpaaGD
import Derived.Test.YtlmgdogblbigpaaGF
namespace Go.Proofs.Ytlmgdogblbigpaa
open Go.RowKit
set_option maxRecDepth 100000
set_option linter.unusedVariables false
set_option linter.unusedSimpArgs false

def low8 (c : UInt8) : UInt8 := if 65 ≤ c.toNat ∧ c.toNat ≤ 90 then UInt8.ofNat (c.toNat + 32) else c
def lowT (l : List UInt8) : List UInt8 := l.map low8
def lowN (n : List (List UInt8)) : List (List UInt8) := n.map lowT
theorem low8_yes {c : UInt8} (h : 65 ≤ c.toNat ∧ c.toNat ≤ 90) : (low8 c).toNat = c.toNat + 32 := by
  unfold low8; rw [if_pos h, UInt8.toNat_ofNat']; omega
theorem low8_no {c : UInt8} (h : ¬ (65 ≤ c.toNat ∧ c.toNat ≤ 90)) : low8 c = c := by unfold low8; rw [if_neg h]
theorem low8_low8 (c : UInt8) : low8 (low8 c) = low8 c := by
  by_cases h : 65 ≤ c.toNat ∧ c.toNat ≤ 90
  · exact low8_no (by rw [low8_yes h]; omega)
  · rw [low8_no h, low8_no h]
theorem lowT_lowT (l : List UInt8) : lowT (lowT l) = lowT l := by simp [lowT, low8_low8]
theorem lowN_lowN (l : List (List UInt8)) : lowN (lowN l) = lowN l := by simp [lowN, lowT_lowT]
theorem lowT_len (l : List UInt8) : (lowT l).length = l.length := by simp [lowT]
theorem lowN_len (l : List (List UInt8)) : (lowN l).length = l.length := by simp [lowN]
theorem small_any (c : UInt8) (w : World) : Calls Try.prog 131 #[.int .u8 (c.toNat : Int)] w (Ret (.int .u8 ((low8 c).toNat : Int)) w) := by
  have hc := c.toNat_lt
  by_cases h : 65 ≤ c.toNat ∧ c.toNat ≤ 90
  · have e := low8_yes h
    rw [e]
    obtain ⟨h1, h2⟩ := h
    have h1' : (65 : Int) ≤ c.toNat := by omega
    have h2' : (c.toNat : Int) ≤ 90 := by omega
    clear e h1 h2
    generalize c.toNat = k at *
    go_enter Try.func131, Try.ntmps131
    go_wp2_with fail
    go_ret
    exact Ret.mk (ret_int (by omega)) rfl
  · rw [low8_no h]
    by_cases h1 : 65 ≤ c.toNat
    · have h2 : ¬ c.toNat ≤ 90 := fun h2 => h ⟨h1, h2⟩
      have h1' : (65 : Int) ≤ c.toNat := by omega
      have h2' : ¬ (c.toNat : Int) ≤ 90 := by omega
      clear h h1 h2
      generalize c.toNat = k at *
      go_enter Try.func131, Try.ntmps131
      go_wp2_with fail
      go_ret
      exact Ret.mk rfl rfl
    · have h1' : ¬ (65 : Int) ≤ c.toNat := by omega
      clear h h1
      generalize c.toNat = k at *
      go_enter Try.func131, Try.ntmps131
      go_wp2_with fail
      go_ret
      exact Ret.mk rfl rfl
theorem lowT_at {a b : List UInt8} {k : Nat} (ha : k < a.length) (hb : k < b.length) (h : low8 a[k] ≠ low8 b[k]) : lowT a ≠ lowT b := by
  intro e
  have := congrArg (fun l : List UInt8 => l[k]?) e
  simp [lowT, ha, hb] at this
  exact h this
theorem lowT_eq {a b : List UInt8} (hl : a.length = b.length) (h : ∀ i (ha : i < a.length) (hb : i < b.length), low8 a[i] = low8 b[i]) : lowT a = lowT b := by
  refine List.ext_getElem (by simp [lowT, hl]) fun i h1 h2 => ?_
  simp only [lowT, List.getElem_map]
  exact h i (by simpa [lowT] using h1) (by simpa [lowT] using h2)
set_option maxHeartbeats 2000000 in
theorem asame_any (a b : List UInt8) (w : World) (ha : a.length ≤ maxLen) (hb : b.length ≤ maxLen) :
    Calls Try.prog 118 #[.string (bs a), .string (bs b)] w (RetB (.bool (decide (lowT a = lowT b))) w) := by
  unfold maxLen at ha hb
  by_cases hl : a.length = b.length
  case neg =>
    have hd : decide (lowT a = lowT b) = false := decide_eq_false (fun e => hl (by rw [← lowT_len a, ← lowT_len b, e]))
    have hl' : ((a.length : Int) != (b.length : Int)) = true := by simp; omega
    rw [hd]
    clear hd hl
    go_enter Try.func118, Try.ntmps118
    go_wp2_with fail
    go_ret
    exact RetB.mk rfl (Below.refl _ _)
  have hl' : ((a.length : Int) != (b.length : Int)) = false := by simp; omega
  have HL := Lib.hid hl
  obtain ⟨q, hqq⟩ : ∃ q, Hid (decide (lowT a = lowT b) = q) := ⟨_, Lib.hid rfl⟩
  rw [hqq.out]
  clear hl
  go_enter Try.func118, Try.ntmps118
  go_wp2_with fail
  go_loopw [13] (fun iv wr => ∃ k : Nat, k ≤ a.length ∧ iv = .int .i64 k ∧ Hid (∀ i (h1 : i < a.length) (h2 : i < b.length), i < k → low8 a[i] = low8 b[i]) ∧ Below w.heap.size w wr) (fun iv _ => a.length - (intOf iv).toNat)
  case atStart => exact ⟨0, Nat.zero_le _, rfl, Lib.hid (fun i _ _ h => absurd h (by omega)), Below.refl _ _⟩
  obtain ⟨k, hk, rfl, HE, hB⟩ := hrel
  by_cases hlt : k < a.length
  case pos =>
    have hlt' : (k : Int) < a.length := by omega
    have hlb : k < b.length := by have := HL.out; omega
    have S1 := fun w => small_any a[k] w
    have S2 := fun w => small_any b[k] w
    obtain ⟨x, hx⟩ : ∃ x : Nat, Hid ((low8 a[k]).toNat = x) := ⟨_, Lib.hid rfl⟩
    obtain ⟨y, hy⟩ : ∃ y : Nat, Hid ((low8 b[k]).toNat = y) := ⟨_, Lib.hid rfl⟩
    simp only [hx.out] at S1
    simp only [hy.out] at S2
    have HS1 := Lib.hid S1
    have HS2 := Lib.hid S2
    clear S1 S2
    by_cases hxy : x = y
    · subst hxy
      go_wp2_with fail
      go_quiet ((go_at_call 131; (first | with_reducible exact Ret.quiet (HS1.out _) | with_reducible exact Ret.quiet (HS2.out _))))
      go_wp2_with fail
      go_roundw
      case rel => exact ⟨k + 1, by omega, by go_num, Lib.hid (fun i h1 h2 h3 => by
        by_cases hi : i = k
        · subst hi; exact UInt8.toNat_inj.1 (hx.out.trans hy.out.symm)
        · exact HE.out i h1 h2 (by omega)), below_drewN hB _⟩
      case measure => simp [intOf]; omega
    · obtain rfl : q = false := by
        rw [← hqq.out]
        refine decide_eq_false (lowT_at hlt hlb (fun e => hxy ?_))
        rw [← hx.out, ← hy.out, e]
      have hne : ((x : Int) != (y : Int)) = true := by simp; omega
      clear hxy hqq
      go_wp2_with fail
      go_quiet ((go_at_call 131; (first | with_reducible exact Ret.quiet (HS1.out _) | with_reducible exact Ret.quiet (HS2.out _))))
      go_wp2_with fail
      go_ret
      exact RetB.mk rfl (below_drewN hB _)
  obtain rfl : k = a.length := by omega
  have hlt' : ¬ (a.length : Int) < a.length := by omega
  obtain rfl : q = true := by
    rw [← hqq.out]
    exact decide_eq_true (lowT_eq HL.out (fun i h1 h2 => HE.out i h1 h2 h1))
  clear HE hqq hlt hk
  go_wp2_with fail
  go_ret
  exact RetB.mk rfl hB
end Go.Proofs.Ytlmgdogblbigpaa
/-
  Great and small letters: domain.Same; the reference's Lower, and Same.
-/
namespace Go.Proofs.Ytlmgdogblbigpaa
open Go.RowKit
set_option maxRecDepth 100000
set_option linter.unusedVariables false
set_option linter.unusedSimpArgs false

theorem lowN_at {a b : List (List UInt8)} {k : Nat} (ha : k < a.length) (hb : k < b.length) (h : lowT a[k] ≠ lowT b[k]) : lowN a ≠ lowN b := by
  intro e
  have := congrArg (fun l : List (List UInt8) => l[k]?) e
  simp [lowN, ha, hb] at this
  exact h this
theorem lowN_eq {a b : List (List UInt8)} (hl : a.length = b.length) (h : ∀ i (ha : i < a.length) (hb : i < b.length), lowT a[i] = lowT b[i]) : lowN a = lowN b := by
  refine List.ext_getElem (by simp [lowN, hl]) fun i h1 h2 => ?_
  simp only [lowN, List.getElem_map]
  exact h i (by simpa [lowN] using h1) (by simpa [lowN] using h2)
set_option maxHeartbeats 1000000 in
theorem dsame_any (A B : Option Addr) (a b : List (List UInt8)) (ca cb : Nat) (w : World) (hA : NmR w A ca a) (hB : NmR w B cb b) :
    Calls Try.prog 82 #[.slice A a.length ca, .slice B b.length cb] w (RetB (.bool (decide (lowN a = lowN b))) w) := by
  obtain ⟨tA, cA, lA, mA⟩ := hA
  obtain ⟨tB, cB, lB, mB⟩ := hB
  by_cases hl : a.length = b.length
  case neg =>
    have hd : decide (lowN a = lowN b) = false := decide_eq_false (fun e => hl (by rw [← lowN_len a, ← lowN_len b, e]))
    have hl' : ((a.length : Int) != (b.length : Int)) = true := by simp; omega
    rw [hd]
    clear hd hl
    go_enter Try.func82, Try.ntmps82
    go_wp2_with fail
    go_ret
    exact RetB.mk rfl (Below.refl _ _)
  have hl' : ((a.length : Int) != (b.length : Int)) = false := by simp; omega
  have HL := Lib.hid hl
  obtain ⟨q, hqq⟩ : ∃ q, Hid (decide (lowN a = lowN b) = q) := ⟨_, Lib.hid rfl⟩
  rw [hqq.out]
  clear hl
  go_enter Try.func82, Try.ntmps82
  go_wp2_with fail
  go_loopw [14] (fun iv wr => ∃ k : Nat, k ≤ a.length ∧ iv = .int .i64 k ∧ Hid (∀ i (h1 : i < a.length) (h2 : i < b.length), i < k → lowT a[i] = lowT b[i]) ∧ Below w.heap.size w wr) (fun iv _ => a.length - (intOf iv).toNat)
  case atStart => exact ⟨0, Nat.zero_le _, rfl, Lib.hid (fun i _ _ h => absurd h (by omega)), Below.refl _ _⟩
  obtain ⟨k, hk, rfl, HE, hB⟩ := hrel
  by_cases hlt : k < a.length
  case pos =>
    have hlt' : (k : Int) < a.length := by omega
    have hlb : k < b.length := by have := HL.out; omega
    have hlb' : (k : Int) < b.length := by omega
    obtain ⟨ba, oa, rfl, la, xa⟩ := tA (by omega)
    obtain ⟨bb, ob, rfl, lb, xb⟩ := tB (by omega)
    have c1 : wr.cell? ⟨ba, oa + k, none⟩ = some (.string (bs a[k])) := (hB.cell (p := ⟨ba, oa + k, none⟩) la).trans (xa k hlt)
    have c2 : wr.cell? ⟨bb, ob + k, none⟩ = some (.string (bs b[k])) := (hB.cell (p := ⟨bb, ob + k, none⟩) lb).trans (xb k hlb)
    have S := Lib.hid (fun w => asame_any a[k] b[k] w (by have := mA _ (List.getElem_mem hlt); simp only [maxLen]; omega) (by have := mB _ (List.getElem_mem hlb); simp only [maxLen]; omega))
    obtain ⟨s, hs⟩ : ∃ s, Hid (decide (lowT a[k] = lowT b[k]) = s) := ⟨_, Lib.hid rfl⟩
    rw [hs.out] at S
    clear xa xb mA mB
    go_wp2_with fail
    refine (S.out _).mono ?_
    rintro _ w1 ⟨rfl, b1⟩
    have HB1 := below_then hB hB.size b1
    clear b1 S c1 c2
    cases s with
    | false =>
      obtain rfl : q = false := by
        rw [← hqq.out]
        exact decide_eq_false (lowN_at hlt hlb (of_decide_eq_false hs.out))
      clear hqq hs
      go_wp2_with fail
      go_ret
      exact RetB.mk rfl HB1
    | true =>
      go_wp2_with fail
      go_roundw
      case rel => exact ⟨k + 1, by omega, by go_num, Lib.hid (fun i h1 h2 h3 => by
        by_cases hi : i = k
        · subst hi; exact of_decide_eq_true hs.out
        · exact HE.out i h1 h2 (by omega)), HB1⟩
      case measure => simp [intOf]; omega
  obtain rfl : k = a.length := by omega
  have hlt' : ¬ (a.length : Int) < a.length := by omega
  obtain rfl : q = true := by
    rw [← hqq.out]
    exact decide_eq_true (lowN_eq HL.out (fun i h1 h2 => HE.out i h1 h2 h1))
  clear HE hqq hlt hk tA tB mA mB
  go_wp2_with fail
  go_ret
  exact RetB.mk rfl hB
theorem octs_one8 (c : UInt8) : octs [c] = [.int .u8 (c.toNat : Int)] := rfl
set_option maxHeartbeats 1000000 in
theorem refLow1_any (l : List UInt8) (w : World) (hl : l.length ≤ 140737488355328) : Calls Try.prog 45 #[.string (bs l)] w (RetB (.string (bs (lowT l))) w) := by
  go_enter Try.func45, Try.ntmps45
  go_wp2_with fail
  go_loopw [3, 4] (fun v iv wr => ∃ k : Nat, k ≤ l.length ∧ iv = .int .i64 k ∧ wr.ownsRow w.heap.size 5 1 v k (octs (lowT (l.take k))) ∧ Below w.heap.size w wr) (fun _ iv _ => l.length - (intOf iv).toNat)
  case atStart => exact ⟨0, Nat.zero_le _, rfl, World.ownsRow_nil _ _ _ _, Below.refl _ _⟩
  obtain ⟨k, hk, rfl, hb, hB⟩ := hrel
  obtain ⟨A, c, hv⟩ := own_form hb
  subst hv
  by_cases hlt : k < l.length
  case pos =>
    have hlt' : (k : Int) < l.length := by omega
    have hc := (l[k]).toNat_lt
    by_cases h : 65 ≤ (l[k]).toNat ∧ (l[k]).toNat ≤ 90
    · have HX : Hid (((low8 l[k]).toNat : Int) = (l[k].toNat : Int) + 32) := Lib.hid (by rw [low8_yes h]; omega)
      obtain ⟨h1, h2⟩ := h
      have h1' : (65 : Int) ≤ (l[k]).toNat := by omega
      have h2' : ((l[k]).toNat : Int) ≤ 90 := by omega
      clear h1 h2
      go_wp2_with (at_builtin; go_must (refine wpList_appB _ rfl (.tmp 23) (.tmp 25) 94 rfl 5 (.int .u8 0) 1 1 Try.underlying94 byteInfo rfl (by decide) w.heap.size _ k _ rfl (World.ownsRow.alloc hb _) (by have := hB.size; simp; omega) ⟨wr.heap.size, 0, none⟩ 1 1 [.int .u8 ((l[k].toNat : Int) + 32)] rfl rfl (new_one _ _ _ _ rfl) (one_cell1 rfl) (by decide) (by simp only [maxLen]; omega) (by omega) ?_))
      intro g2 cap2 w2 hb2 hgr2 hlt2
      have hB2 := below_own (hB.alloc hB.size _) (by have := hB.size; simp; omega) (hb.alloc _) hgr2
      have hb3 : w2.ownsRow w.heap.size 5 1 (.slice (some ⟨g2, 0, none⟩) (k + 1) cap2) (k + 1) (octs (lowT (l.take (k + 1)))) := by
        have e : octs (lowT (l.take (k + 1))) = octs (lowT (l.take k)) ++ [.int .u8 ((l[k].toNat : Int) + 32)] := by
          rw [List.take_succ_eq_append_getElem hlt]
          simp only [lowT, List.map_append, octs_app, List.map_cons, List.map_nil, octs_one8]
          rw [HX.out]
        rw [e]; exact hb2
      clear hb hb2 hgr2 hB
      go_wp2_with fail
      go_roundw
      case rel => exact ⟨k + 1, by omega, by go_num, hb3, hB2⟩
      case measure => simp [intOf]; omega
    · have HX : Hid (((low8 l[k]).toNat : Int) = (l[k].toNat : Int)) := Lib.hid (by rw [low8_no h])
      by_cases h1 : 65 ≤ (l[k]).toNat
      · have h2 : ¬ (l[k]).toNat ≤ 90 := fun h2 => h ⟨h1, h2⟩
        have h1' : (65 : Int) ≤ (l[k]).toNat := by omega
        have h2' : ¬ ((l[k]).toNat : Int) ≤ 90 := by omega
        clear h h1 h2
        go_wp2_with (at_builtin; go_must (refine wpList_appB _ rfl (.tmp 23) (.tmp 25) 94 rfl 5 (.int .u8 0) 1 1 Try.underlying94 byteInfo rfl (by decide) w.heap.size _ k _ rfl (World.ownsRow.alloc hb _) (by have := hB.size; simp; omega) ⟨wr.heap.size, 0, none⟩ 1 1 [.int .u8 ((l[k].toNat : Int))] rfl rfl (new_one _ _ _ _ rfl) (one_cell1 rfl) (by decide) (by simp only [maxLen]; omega) (by omega) ?_))
        intro g2 cap2 w2 hb2 hgr2 hlt2
        have hB2 := below_own (hB.alloc hB.size _) (by have := hB.size; simp; omega) (hb.alloc _) hgr2
        have hb3 : w2.ownsRow w.heap.size 5 1 (.slice (some ⟨g2, 0, none⟩) (k + 1) cap2) (k + 1) (octs (lowT (l.take (k + 1)))) := by
          have e : octs (lowT (l.take (k + 1))) = octs (lowT (l.take k)) ++ [.int .u8 ((l[k].toNat : Int))] := by
            rw [List.take_succ_eq_append_getElem hlt]
            simp only [lowT, List.map_append, octs_app, List.map_cons, List.map_nil, octs_one8]
            rw [HX.out]
          rw [e]; exact hb2
        clear hb hb2 hgr2 hB
        go_wp2_with fail
        go_roundw
        case rel => exact ⟨k + 1, by omega, by go_num, hb3, hB2⟩
        case measure => simp [intOf]; omega
      · have h1' : ¬ (65 : Int) ≤ (l[k]).toNat := by omega
        clear h h1
        go_wp2_with (at_builtin; go_must (refine wpList_appB _ rfl (.tmp 23) (.tmp 25) 94 rfl 5 (.int .u8 0) 1 1 Try.underlying94 byteInfo rfl (by decide) w.heap.size _ k _ rfl (World.ownsRow.alloc hb _) (by have := hB.size; simp; omega) ⟨wr.heap.size, 0, none⟩ 1 1 [.int .u8 ((l[k].toNat : Int))] rfl rfl (new_one _ _ _ _ rfl) (one_cell1 rfl) (by decide) (by simp only [maxLen]; omega) (by omega) ?_))
        intro g2 cap2 w2 hb2 hgr2 hlt2
        have hB2 := below_own (hB.alloc hB.size _) (by have := hB.size; simp; omega) (hb.alloc _) hgr2
        have hb3 : w2.ownsRow w.heap.size 5 1 (.slice (some ⟨g2, 0, none⟩) (k + 1) cap2) (k + 1) (octs (lowT (l.take (k + 1)))) := by
          have e : octs (lowT (l.take (k + 1))) = octs (lowT (l.take k)) ++ [.int .u8 ((l[k].toNat : Int))] := by
            rw [List.take_succ_eq_append_getElem hlt]
            simp only [lowT, List.map_append, octs_app, List.map_cons, List.map_nil, octs_one8]
            rw [HX.out]
          rw [e]; exact hb2
        clear hb hb2 hgr2 hB
        go_wp2_with fail
        go_roundw
        case rel => exact ⟨k + 1, by omega, by go_num, hb3, hB2⟩
        case measure => simp [intOf]; omega
  obtain rfl : k = l.length := by omega
  have hlt' : ¬ (l.length : Int) < l.length := by omega
  have ht : l.take l.length = l := List.take_of_length_le (Nat.le_refl _)
  rw [ht] at hb
  have hb2 : wr.ownsRow w.heap.size 5 1 (.slice A l.length c) (lowT l).length (octs (lowT l)) := by rw [lowT_len]; exact hb
  have hcv := run_str_own hb2
  clear ht hb hb2
  go_wp2_with fail
  go_ret
  exact RetB.mk rfl hB
/-- What Lower tells of a name. -/
def LowRet (n : List (List UInt8)) (w : World) (e : Ending) (w' : World) : Prop := ∃ v, e = .returned v ∧ Txts w' v n ∧ Below w.heap.size w w'
set_option maxHeartbeats 1000000 in
theorem refLow5_any (A : Option Addr) (c : Nat) (n : List (List UInt8)) (w : World) (hA : NmR w A c n) (hn : n.length ≤ 8000000000000) : Calls Try.prog 89 #[.slice A n.length c] w (LowRet (lowN n) w) := by
  obtain ⟨tA, cA, lA, mA⟩ := hA
  unfold LowRet
  go_enter Try.func89, Try.ntmps89
  go_wp2_with fail
  go_loopw [3, 4] (fun v iv wr => ∃ k : Nat, k ≤ n.length ∧ iv = .int .i64 k ∧ wr.ownsRow w.heap.size 9 1 v k ((lowN (n.take k)).map fun t => Value.string (bs t)) ∧ Below w.heap.size w wr) (fun _ iv _ => n.length - (intOf iv).toNat)
  case atStart => exact ⟨0, Nat.zero_le _, rfl, World.ownsRow_nil _ _ _ _, Below.refl _ _⟩
  obtain ⟨k, hk, rfl, hb, hB⟩ := hrel
  obtain ⟨A', c', hv⟩ := own_form hb
  subst hv
  by_cases hlt : k < n.length
  case pos =>
    have hlt' : (k : Int) < n.length := by omega
    obtain ⟨ba, oa, rfl, la, xa⟩ := tA (by omega)
    have c1 : wr.cell? ⟨ba, oa + k, none⟩ = some (.string (bs n[k])) := (hB.cell (p := ⟨ba, oa + k, none⟩) la).trans (xa k hlt)
    have S := Lib.hid (fun w => refLow1_any n[k] w (mA _ (List.getElem_mem hlt)))
    have HX : Hid (lowN (n.take (k + 1)) = lowN (n.take k) ++ [lowT n[k]]) := Lib.hid (by rw [List.take_succ_eq_append_getElem hlt]; simp only [lowN, List.map_append, List.map_cons, List.map_nil])
    clear xa
    generalize lowT n[k] = t at *
    go_wp2_with fail
    refine (S.out _).mono ?_
    rintro _ w1 ⟨rfl, b1⟩
    have hb1 := own_below hb b1
    have hB1 := below_then hB hB.size b1
    clear S b1 c1 hb hB
    go_wp2_with (at_builtin; go_must (refine wpList_appB _ rfl (.tmp 11) (.tmp 17) 23 rfl 9 (.string ⟨#[]⟩) 1 16 Try.underlying23 strInfo rfl (by decide) w.heap.size _ k _ rfl (World.ownsRow.alloc hb1 _) (by have := hB1.size; simp; omega) ⟨w1.heap.size, 0, none⟩ 1 1 [.string (bs t)] rfl rfl (new_one _ _ _ _ rfl) (one_cell1 rfl) (by decide) (by simp only [maxLen]; omega) (by omega) ?_))
    intro g2 cap2 w2 hb2 hgr2 hlt2
    have hB2 := below_own (hB1.alloc hB1.size _) (by have := hB1.size; simp; omega) (hb1.alloc _) hgr2
    have hb3 : w2.ownsRow w.heap.size 9 1 (.slice (some ⟨g2, 0, none⟩) (k + 1) cap2) (k + 1) ((lowN (n.take (k + 1))).map fun t => Value.string (bs t)) := by rw [HX.out, List.map_append]; exact hb2
    clear hb1 hb2 hgr2 hB1 HX
    go_wp2_with fail
    go_roundw
    case rel => exact ⟨k + 1, by omega, by go_num, hb3, hB2⟩
    case measure => simp [intOf]; omega
  obtain rfl : k = n.length := by omega
  have hlt' : ¬ (n.length : Int) < n.length := by omega
  have ht : n.take n.length = n := List.take_of_length_le (Nat.le_refl _)
  rw [ht] at hb
  have hb2 : Txts wr (.slice A' n.length c') (lowN n) := by unfold Txts; rw [lowN_len]; exact ⟨hb.1, hb.2.imp id (fun ⟨g, cap, cur, h1, _, h3⟩ => ⟨g, cap, cur, h1, Nat.zero_le _, h3⟩)⟩
  clear ht hb
  go_wp2_with fail
  go_ret
  exact ⟨_, rfl, hb2, hB⟩
set_option maxHeartbeats 1000000 in
theorem refsame_any (A B : Option Addr) (a b : List (List UInt8)) (ca cb : Nat) (w : World) (hA : NmR w A ca a) (hB : NmR w B cb b) (ha : a.length ≤ 8000000000000) (hb : b.length ≤ 8000000000000) :
    Calls Try.prog 44 #[.slice A a.length ca, .slice B b.length cb] w (RetB (.bool (decide (lowN a = lowN b))) w) := by
  have L1 := Lib.hid (refLow5_any A ca a w hA ha)
  have L2 := Lib.hid (fun w' (q : Below w.heap.size w w') => refLow5_any B cb b w' (hB.below q) hb)
  have la := lowN_len a
  have lb := lowN_len b
  have ka := hA.2.2.1
  have kb := hB.2.2.1
  generalize lowN a = a' at *
  generalize lowN b = b' at *
  have LA := Lib.hid la
  have LB := Lib.hid lb
  clear la lb hA hB ha hb
  go_enter Try.func44, Try.ntmps44
  go_wp2_with fail
  refine L1.out.mono ?_
  rintro _ w1 ⟨v1, rfl, t1, b1⟩
  obtain ⟨A1, c1, hv, -, -⟩ := t1.form
  subst hv
  clear L1
  go_wp2_with fail
  refine (L2.out _ b1).mono ?_
  rintro _ w2 ⟨v2, rfl, t2, b2⟩
  obtain ⟨A2, c2, hv, -, -⟩ := t2.form
  subst hv
  have HB2 := below_then b1 b1.size b2
  replace t1 := t1.below b2
  obtain ⟨_, _, e1, r1, -⟩ := t1.form
  obtain ⟨_, _, e2, r2, -⟩ := t2.form
  injection e1 with e11 e12 e13
  injection e2 with e21 e22 e23
  subst e11 e13 e21 e23
  have X := Lib.hid (exact_any A1 A2 a' b' c1 c2 w2 r1 r2 (by have := LA.out; omega) (by have := LB.out; omega))
  clear b1 b2 L2 t1 t2 r1 r2 e12 e22
  go_wp2_with fail
  refine X.out.mono ?_
  rintro _ w3 ⟨rfl, b3⟩
  have HB3 := below_then HB2 HB2.size b3
  clear b3
  go_wp2_with fail
  go_ret
  exact RetB.mk rfl HB3
end Go.Proofs.Ytlmgdogblbigpaa

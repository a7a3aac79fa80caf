/-
  Layer 5 (domain) and its reference, as far as the wire wants them: sizes and checks of names; Few, Exact.
-/
import Derived.Test.YtlmgdogblbigpaaTxt
namespace Go.Proofs.Ytlmgdogblbigpaa
open Go.RowKit
set_option maxRecDepth 100000
set_option linter.unusedVariables false

theorem lsum_bound (n : List (List UInt8)) (h : ∀ l ∈ n, l.length ≤ 63) : lsum n ≤ 64 * n.length := by
  induction n with
  | nil => simp [lsum]
  | cons l n ih =>
    have h1 := h l (List.mem_cons_self ..)
    have h2 := ih (fun x hx => h x (List.mem_cons_of_mem _ hx))
    simp [lsum]; omega
theorem dsize_any (A : Option Addr) (c : Nat) (n : List (List UInt8)) (w : World) (hA : TxtR w A n) (hm : n.length ≤ 281474976710656) (hs : lsum n ≤ 4611686018427387904) :
    Calls Try.prog 104 #[.slice A n.length c] w (Ret (.int .i64 (1 + lsum n)) w) := by
  go_enter Try.func104, Try.ntmps104
  go_wp2_with fail
  go_loop [3, 8] (fun z i => ∃ k : Nat, k ≤ n.length ∧ i = .int .i64 k ∧ z = .int .i64 (1 + lsum (n.take k))) (fun _ i => n.length - (intOf i).toNat)
  case atStart => exact ⟨0, Nat.zero_le _, rfl, rfl⟩
  case round =>
    obtain ⟨k, hk, rfl, rfl⟩ := hrel
    have hb := lsum_take_le n k
    by_cases hlt : k < n.length
    · have hlt' : (k : Int) < n.length := by omega
      obtain ⟨b, off, rfl, _, xa⟩ := hA (by omega)
      have c1 := xa k hlt
      have S := Lib.hid (lsum_take n k hlt)
      have hb2 := lsum_take_le n (k + 1)
      rw [S.out] at hb2
      clear xa
      go_wp2_with fail
      go_round
      case rel => exact ⟨k + 1, by omega, by go_num, by rw [S.out]; go_num⟩
      case measure => simp [intOf]; omega
    · have hlt' : ¬ (k : Int) < n.length := by omega
      go_wp2_with fail
      go_ret
      exact Ret.mk (ret_int (by rw [List.take_of_length_le (by omega)])) rfl
theorem refSize_any (A : Option Addr) (c : Nat) (n : List (List UInt8)) (w : World) (hA : TxtR w A n) (hm : n.length ≤ 281474976710656) (hs : lsum n ≤ 4611686018427387904) :
    Calls Try.prog 66 #[.slice A n.length c] w (Ret (.int .i64 (1 + lsum n)) w) := by
  go_enter Try.func66, Try.ntmps66
  go_wp2_with fail
  go_loop [3, 4] (fun z i => ∃ k : Nat, k ≤ n.length ∧ i = .int .i64 k ∧ z = .int .i64 (1 + lsum (n.take k))) (fun _ i => n.length - (intOf i).toNat)
  case atStart => exact ⟨0, Nat.zero_le _, rfl, rfl⟩
  case round =>
    obtain ⟨k, hk, rfl, rfl⟩ := hrel
    have hb := lsum_take_le n k
    by_cases hlt : k < n.length
    · have hlt' : (k : Int) < n.length := by omega
      obtain ⟨b, off, rfl, _, xa⟩ := hA (by omega)
      have c1 := xa k hlt
      have S := Lib.hid (lsum_take n k hlt)
      have hb2 := lsum_take_le n (k + 1)
      rw [S.out] at hb2
      clear xa
      go_wp2_with fail
      go_round
      case rel => exact ⟨k + 1, by omega, by go_num, by rw [S.out]; go_num⟩
      case measure => simp [intOf]; omega
    · have hlt' : ¬ (k : Int) < n.length := by omega
      go_wp2_with fail
      go_ret
      exact Ret.mk (ret_int (by rw [List.take_of_length_le (by omega)])) rfl
theorem checkN_bad (n : List (List UInt8)) (k : Nat) (h : k < n.length) (hb : badL n[k] = true) : checkN n = 7 := by
  unfold checkN
  rw [if_pos (List.any_eq_true.2 ⟨n[k], List.getElem_mem h, hb⟩)]
theorem checkN_rest (n : List (List UInt8)) (h : ∀ j (hj : j < n.length), badL n[j] = false) : checkN n = if 255 < 1 + lsum n then 3 else 0 := by
  unfold checkN
  rw [if_neg]
  intro h'
  obtain ⟨l, hl, hb⟩ := List.any_eq_true.1 h'
  obtain ⟨j, hj, rfl⟩ := List.getElem_of_mem hl
  rw [h j hj] at hb; cases hb
theorem badL_false {l : List UInt8} (h1 : 1 ≤ l.length) (h2 : l.length ≤ 63) : badL l = false := by
  unfold badL; rw [decide_eq_false (by omega), decide_eq_false (by omega)]; rfl
theorem good_lens {n : List (List UInt8)} (h : ∀ j (hj : j < n.length), badL n[j] = false) : ∀ l ∈ n, l.length ≤ 63 := by
  intro l hl
  obtain ⟨j, hj, rfl⟩ := List.getElem_of_mem hl
  have := h j hj
  simp [badL] at this
  omega

theorem dcheck_any (A : Option Addr) (c : Nat) (n : List (List UInt8)) (w : World) (hA : TxtR w A n) (hm : n.length ≤ 281474976710656) :
    Calls Try.prog 61 #[.slice A n.length c] w (Ret (.int .i64 (checkN n)) w) := by
  go_enter Try.func61, Try.ntmps61
  go_wp2_with fail
  go_loop [7] (fun i => ∃ k : Nat, k ≤ n.length ∧ i = .int .i64 k ∧ Hid (∀ j (hj : j < n.length), j < k → badL n[j] = false)) (fun i => n.length - (intOf i).toNat)
  case atStart => exact ⟨0, Nat.zero_le _, rfl, Lib.hid (fun j hj h => by omega)⟩
  case round =>
    obtain ⟨k, hk, rfl, H⟩ := hrel
    by_cases hlt : k < n.length
    · have hlt' : (k : Int) < n.length := by omega
      obtain ⟨b, off, rfl, _, xa⟩ := hA (by omega)
      have c1 := xa k hlt
      clear xa
      cases hbd : badL n[k] with
      | true =>
        have R := Lib.hid (checkN_bad n k hlt hbd)
        by_cases h0 : n[k] = []
        · have e1 : (n[k] == []) = true := by simp [h0]
          have e2 : n[k].isEmpty = true := by simp [h0]
          clear h0 hbd
          go_wp2_with fail
          go_ret
          exact Ret.mk (ret_int R.out.symm) rfl
        · have hpos : 0 < n[k].length := List.length_pos_iff.2 h0
          have hbig : (63 : Int) < n[k].length := by
            simp [badL] at hbd
            rcases hbd with h | h
            · exact absurd h h0
            · omega
          have e1 : (n[k] == []) = false := by simp [h0]
          have e2 : n[k].isEmpty = false := by simp [h0]
          clear h0 hbd
          go_wp2_with fail
          go_ret
          exact Ret.mk (ret_int R.out.symm) rfl
      | false =>
        have hl1 : 1 ≤ n[k].length ∧ n[k].length ≤ 63 := by
          simp [badL] at hbd
          have := hbd.1
          have : 0 < n[k].length := List.length_pos_iff.2 this
          omega
        have hb63 : (n[k].length : Int) ≤ 63 := by omega
        have h0 : n[k] ≠ [] := List.length_pos_iff.1 (by omega)
        have e1 : (n[k] == []) = false := by simp [h0]
        have e2 : n[k].isEmpty = false := by simp [h0]
        have HB := Lib.hid hbd
        clear h0 hbd
        go_wp2_with fail
        go_round
        case rel => exact ⟨k + 1, by omega, by go_num, Lib.hid (fun j hj h => by
          by_cases e : j = k
          · subst e; exact HB.out
          · exact H.out j hj (by omega))⟩
        case measure => simp [intOf]; omega
    · have hlt' : ¬ (k : Int) < n.length := by omega
      have hall : ∀ j (hj : j < n.length), badL n[j] = false := fun j hj => H.out j hj (by omega)
      have R := checkN_rest n hall
      have hbd := lsum_bound n (good_lens hall)
      clear hall H
      by_cases h3 : 255 < 1 + lsum n
      · have h3' : (255 : Int) < 1 + (lsum n : Int) := by omega
        rw [if_pos h3] at R
        have RR := Lib.hid R
        clear R
        go_wp2_with fail
        refine (dsize_any A c n _ hA hm (by omega)).mono ?_
        rintro e w1 ⟨rfl, rfl⟩
        go_wp2_with fail
        go_ret
        exact Ret.mk (ret_int RR.out.symm) rfl
      · have h3' : 1 + (lsum n : Int) ≤ 255 := by omega
        rw [if_neg h3] at R
        have RR := Lib.hid R
        clear R
        go_wp2_with fail
        refine (dsize_any A c n _ hA hm (by omega)).mono ?_
        rintro e w1 ⟨rfl, rfl⟩
        go_wp2_with fail
        go_ret
        exact Ret.mk (ret_int RR.out.symm) rfl
theorem refCheck05_any (A : Option Addr) (c : Nat) (n : List (List UInt8)) (w : World) (hA : TxtR w A n) (hm : n.length ≤ 281474976710656) :
    Calls Try.prog 26 #[.slice A n.length c] w (Ret (.int .i64 (checkN n)) w) := by
  go_enter Try.func26, Try.ntmps26
  go_wp2_with fail
  go_loop [3] (fun i => ∃ k : Nat, k ≤ n.length ∧ i = .int .i64 k ∧ Hid (∀ j (hj : j < n.length), j < k → badL n[j] = false)) (fun i => n.length - (intOf i).toNat)
  case atStart => exact ⟨0, Nat.zero_le _, rfl, Lib.hid (fun j hj h => by omega)⟩
  case round =>
    obtain ⟨k, hk, rfl, H⟩ := hrel
    by_cases hlt : k < n.length
    · have hlt' : (k : Int) < n.length := by omega
      obtain ⟨b, off, rfl, _, xa⟩ := hA (by omega)
      have c1 := xa k hlt
      clear xa
      cases hbd : badL n[k] with
      | true =>
        have R := Lib.hid (checkN_bad n k hlt hbd)
        by_cases h0 : n[k].length < 1
        · have e1 : (n[k].length : Int) < 1 := by omega
          clear hbd
          go_wp2_with fail
          go_ret
          exact Ret.mk (ret_int R.out.symm) rfl
        · have hbig : (63 : Int) < n[k].length := by
            simp [badL] at hbd
            rcases hbd with h | h
            · rw [h] at h0; simp at h0
            · omega
          have e1 : (1 : Int) ≤ n[k].length := by omega
          clear h0 hbd
          go_wp2_with fail
          go_ret
          exact Ret.mk (ret_int R.out.symm) rfl
      | false =>
        have hl1 : 1 ≤ n[k].length ∧ n[k].length ≤ 63 := by
          simp [badL] at hbd
          have := hbd.1
          have : 0 < n[k].length := List.length_pos_iff.2 this
          omega
        have hb63 : (n[k].length : Int) ≤ 63 := by omega
        have e1 : (1 : Int) ≤ n[k].length := by omega
        have HB := Lib.hid hbd
        clear hbd
        go_wp2_with fail
        go_round
        case rel => exact ⟨k + 1, by omega, by go_num, Lib.hid (fun j hj h => by
          by_cases e : j = k
          · subst e; exact HB.out
          · exact H.out j hj (by omega))⟩
        case measure => simp [intOf]; omega
    · have hlt' : ¬ (k : Int) < n.length := by omega
      have hall : ∀ j (hj : j < n.length), badL n[j] = false := fun j hj => H.out j hj (by omega)
      have R := checkN_rest n hall
      have hbd := lsum_bound n (good_lens hall)
      clear hall H
      by_cases h3 : 255 < 1 + lsum n
      · have h3' : (255 : Int) < 1 + (lsum n : Int) := by omega
        rw [if_pos h3] at R
        have RR := Lib.hid R
        clear R
        go_wp2_with fail
        refine (refSize_any A c n _ hA hm (by omega)).mono ?_
        rintro e w1 ⟨rfl, rfl⟩
        go_wp2_with fail
        go_ret
        exact Ret.mk (ret_int RR.out.symm) rfl
      · have h3' : 1 + (lsum n : Int) ≤ 255 := by omega
        rw [if_neg h3] at R
        have RR := Lib.hid R
        clear R
        go_wp2_with fail
        refine (refSize_any A c n _ hA hm (by omega)).mono ?_
        rintro e w1 ⟨rfl, rfl⟩
        go_wp2_with fail
        go_ret
        exact Ret.mk (ret_int RR.out.symm) rfl
theorem few_any (A : Option Addr) (c : Nat) (n : List (List UInt8)) (w : World) (hA : TxtR w A n) (hm : n.length ≤ 281474976710656) (hl : ∀ l ∈ n, l.length ≤ 281474976710656) :
    Calls Try.prog 33 #[.slice A n.length c] w (Ret (.bool (decide (lsum n ≤ 400))) w) := by
  have HL := Lib.hid hl
  clear hl
  go_enter Try.func33, Try.ntmps33
  go_wp2_with fail
  go_loop [3, 4] (fun z i => ∃ k : Nat, k ≤ n.length ∧ i = .int .i64 k ∧ z = .int .i64 (lsum (n.take k)) ∧ lsum (n.take k) ≤ 400) (fun _ i => n.length - (intOf i).toNat)
  case atStart => exact ⟨0, Nat.zero_le _, rfl, rfl, by simp [lsum]⟩
  case round =>
    obtain ⟨k, hk, rfl, rfl, hb⟩ := hrel
    by_cases hlt : k < n.length
    · have hlt' : (k : Int) < n.length := by omega
      obtain ⟨b, off, rfl, _, xa⟩ := hA (by omega)
      have c1 := xa k hlt
      have S := Lib.hid (lsum_take n k hlt)
      have hle := HL.out n[k] (List.getElem_mem hlt)
      clear xa
      by_cases hbig : lsum (n.take k) + (n[k].length + 1) ≤ 400
      · have hb' : (lsum (n.take k) : Int) + n[k].length + 1 ≤ 400 := by omega
        go_wp2_with fail
        go_round
        case rel => exact ⟨k + 1, by omega, by go_num, by rw [S.out]; go_num, by rw [S.out]; exact hbig⟩
        case measure => simp [intOf]; omega
      · have hb' : 400 < (lsum (n.take k) : Int) + n[k].length + 1 := by omega
        have hno : decide (lsum n ≤ 400) = false := by
          have := lsum_take_le n (k + 1)
          rw [S.out] at this
          exact decide_eq_false (by omega)
        have R := Lib.hid hno
        clear hno
        go_wp2_with fail
        go_ret
        exact Ret.mk (ret_bool R.out.symm) rfl
    · have hlt' : ¬ (k : Int) < n.length := by omega
      have R : decide (lsum n ≤ 400) = true := by
        rw [List.take_of_length_le (by omega)] at hb
        exact decide_eq_true hb
      have RR := Lib.hid R
      clear R
      go_wp2_with fail
      go_ret
      exact Ret.mk (ret_bool RR.out.symm) rfl
theorem exact_any (A B : Option Addr) (a b : List (List UInt8)) (ca cb : Nat) (w : World) (hA : TxtR w A a) (hB : TxtR w B b) (hm : a.length ≤ 281474976710656) (hm2 : b.length ≤ 281474976710656) :
    Calls Try.prog 21 #[.slice A a.length ca, .slice B b.length cb] w (RetB (.bool (decide (a = b))) w) := by
  go_enter Try.func21, Try.ntmps21
  go_wp2_with fail
  refine (same_any A B a b ca cb _ hA hB hm hm2).mono ?_
  rintro e w1 ⟨rfl, b1⟩
  go_wp2_with fail
  go_ret
  exact RetB.mk rfl b1
end Go.Proofs.Ytlmgdogblbigpaa

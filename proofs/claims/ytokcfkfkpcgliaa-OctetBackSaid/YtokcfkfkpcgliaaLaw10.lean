/-
  OctetBack: any number in octets, read as it was: the law returns true, and nothing that was there has turned.
-/
import Derived.Test.YtokcfkfkpcgliaaNum
namespace Go.Proofs.Ytokcfkfkpcgliaa
open Go.RowKit
set_option maxRecDepth 100000

theorem works10 (w : World) : Calls Try.prog 20 #[] w (RetB (.bool true) w) := by
  go_enter Try.func20, Try.ntmps20
  go_wp2_with fail
  refine (new_any [1, 2, 3] _).mono ?_
  rintro e w1 ⟨rfl, h1, b1⟩
  go_wp2_with fail
  refine (num_any _ _ _ 2 _ h1 (by decide)).mono ?_
  rintro e w2 ⟨rfl, h2, b2⟩
  rw [show (numB (takeV [1, 2, 3] false (hw 2)) : Int) = 258 from rfl]
  rw [show takeR [1, 2, 3] false (hw 2) = [3] from rfl, show takeS [1, 2, 3] false (hw 2) = false from rfl] at h2
  go_wp2_with fail
  refine (put_any 2 258 _).mono ?_
  rintro e w3 ⟨rfl, b3⟩
  rw [show putB (hw 2) 258 = [1, 2] from rfl]
  have h3 := h2.below b3 h2.lt
  go_wp2_with fail
  refine (left_any _ _ _ _ h3).mono ?_
  rintro e w' ⟨rfl, rfl⟩
  go_wp2_with fail
  refine (take_any _ _ _ 1 _ h3 (by decide)).mono ?_
  rintro e w4 ⟨rfl, h4, b4⟩
  rw [show takeV [3] false 1 = [3] from rfl]
  rw [show takeR [3] false 1 = [] from rfl, show takeS [3] false 1 = false from rfl] at h4
  go_wp2_with fail
  refine (end_any _ _ _ _ h4).mono ?_
  rintro e w' ⟨rfl, rfl⟩
  rw [show endV [] false = 0 from rfl]
  go_wp2_with fail
  go_ret
  have c2 : Below w.heap.size w w2 := below_grown b1 b2 b1.size (Nat.le_refl _)
  have c3 : Below w.heap.size w w3 := below_then c2 c2.size b3
  exact RetB.mk rfl (below_grown c3 b4 c3.size (Nat.le_refl _))

theorem takeV_app (a b : List UInt8) (k : Nat) (h : a.length = k) : takeV (a ++ b) false k = a := by
  subst h; unfold takeV; rw [if_neg (by simp)]; simp
theorem takeR_app (a b : List UInt8) (k : Nat) (h : a.length = k) : takeR (a ++ b) false k = b := by
  subst h; unfold takeR; rw [if_neg (by simp)]; simp
theorem takeS_app (a b : List UInt8) (k : Nat) (h : a.length = k) : takeS (a ++ b) false k = false := by
  subst h; simp [takeS]; try omega

theorem ofNat_mod (n : Int) : ((UInt8.ofNat (n % 256).toNat).toNat : Int) = n % 256 := by
  rw [UInt8.toNat_ofNat']
  omega
theorem numB_putB : ∀ (k : Nat) (n : Int), (numB (putB k n) : Int) = n % (256 ^ k : Nat) := by
  intro k
  induction k with
  | zero => intro n; simp [putB, numB]
  | succ k ih =>
    intro n
    have h1 := ih (n / 256)
    have h2 := ofNat_mod n
    rw [putB, numB_snoc]
    have hp : 0 < 256 ^ k := Nat.pow_pos (by decide)
    generalize hq : 256 ^ k = m at *
    have e : n % ((256 * m : Nat) : Int) = 256 * (n / 256 % (m : Int)) + n % 256 := by
      have hm : (0 : Int) < m := by omega
      have b1 := Int.emod_nonneg (n / 256) (show (m : Int) ≠ 0 by omega)
      have b2 := Int.emod_lt_of_pos (n / 256) hm
      have d := Int.emod_add_mul_ediv (n / 256) m
      have key : n = (256 * (n / 256 % (m : Int)) + n % 256) + ((256 * m : Nat) : Int) * (n / 256 / m) := by
        have : ((256 * m : Nat) : Int) * (n / 256 / m) = 256 * ((m : Int) * (n / 256 / m)) := by
          rw [Int.natCast_mul]; exact Int.mul_assoc _ _ _
        rw [this]; omega
      have : n % ((256 * m : Nat) : Int) = (256 * (n / 256 % (m : Int)) + n % 256) % ((256 * m : Nat) : Int) := by
        conv => lhs; rw [key]
        exact Int.add_mul_emod_self_left _ _ _
      rw [this]
      exact Int.emod_eq_of_lt (by omega) (by omega)
    rw [Nat.pow_succ, hq, Nat.mul_comm m 256, e]
    omega

set_option maxHeartbeats 2000000 in
theorem octetBack_k (k : Nat) (hk4 : k ≤ 4) (width n : Int) (more : List UInt8) (w : World) (hk : hw width = k) (hm : more.length ≤ 100) :
    Calls Try.prog 4 #[.int .i64 width, .int .i64 n, .string (bs more)] w (RetB (.bool true) w) := by
  have hlen := putB_length k n
  have hm' : (more.length : Int) ≤ 100 := by omega
  go_enter Try.func4, Try.ntmps4
  go_wp2_with fail
  refine (works10 _).mono ?_
  rintro e w1 ⟨rfl, b1⟩
  go_wp2_with fail
  refine (put_any _ _ _).mono ?_
  rintro e w2 ⟨rfl, b2⟩
  rw [hk]
  generalize hp : putB k n = p at *
  have P := Lib.hid hp
  have L := Lib.hid hlen
  have hpl : p.length ≤ 4 := by omega
  clear hp hlen
  go_wp2_with fail
  refine (new_any (p ++ more) _).mono ?_
  rintro e w3 ⟨rfl, h3, b3⟩
  go_wp2_with fail
  refine (refPut_any _ _ _).mono ?_
  rintro e w4 ⟨rfl, b4⟩
  rw [hk, P.out]
  have h4 := h3.below b4 h3.lt
  go_wp2_with fail
  refine (num_any _ _ _ _ _ h4 (by simp only [List.length_append, maxLen]; omega)).mono ?_
  rw [hk, takeV_app p more k L.out, takeR_app p more k L.out, takeS_app p more k L.out]
  rintro e w5 ⟨rfl, h5, b5⟩
  go_wp2_with fail
  refine (refNum_any p _ hpl).mono ?_
  rintro e w' ⟨rfl, rfl⟩
  have hnum := numB_putB k n
  rw [P.out] at hnum
  have c2 := below_then b1 b1.size b2
  have c3 := below_then c2 c2.size b3
  have c4 := below_then c3 c3.size b4
  have c5 := below_grown c4 b5 c4.size c2.size
  clear b1 b2 b3 b4 b5 h3 h4 c2 c3 c4
  generalize (numB p : Int) = m at *
  have hpk := L.out
  have hk' : k = 0 ∨ k = 1 ∨ k = 2 ∨ k = 3 ∨ k = 4 := by omega
  clear hk P L hpl
  have h5' := h5
  by_cases hn0 : n < 0
  · rcases hk' with rfl | rfl | rfl | rfl | rfl
    all_goals
      simp at hnum
      go_wp2_with (go_at_call 26; refine (left_any _ _ _ _ h5').mono ?_; rintro e w' ⟨rfl, rfl⟩)
      go_ret
      exact RetB.mk rfl c5
  · rcases hk' with rfl | rfl | rfl | rfl | rfl
    · by_cases hnb : 1 ≤ n
      · go_wp2_with (go_at_call 26; refine (left_any _ _ _ _ h5').mono ?_; rintro e w' ⟨rfl, rfl⟩)
        go_ret
        exact RetB.mk rfl c5
      · have hmn : (m == n) = true := by simp at hnum; simp; omega
        clear hnum
        go_wp2_with (go_at_call 26; refine (left_any _ _ _ _ h5').mono ?_; rintro e w' ⟨rfl, rfl⟩)
        go_ret
        exact RetB.mk rfl c5
    · by_cases hnb : 256 ≤ n
      · clear hnum
        go_wp2_with (go_at_call 26; refine (left_any _ _ _ _ h5').mono ?_; rintro e w' ⟨rfl, rfl⟩)
        go_ret
        exact RetB.mk rfl c5
      · have hmn : (m == n) = true := by simp at hnum; simp; omega
        clear hnum
        go_wp2_with (go_at_call 26; refine (left_any _ _ _ _ h5').mono ?_; rintro e w' ⟨rfl, rfl⟩)
        go_ret
        exact RetB.mk rfl c5
    · by_cases hnb : 65536 ≤ n
      · clear hnum
        go_wp2_with (go_at_call 26; refine (left_any _ _ _ _ h5').mono ?_; rintro e w' ⟨rfl, rfl⟩)
        go_ret
        exact RetB.mk rfl c5
      · have hmn : (m == n) = true := by simp at hnum; simp; omega
        clear hnum
        go_wp2_with (go_at_call 26; refine (left_any _ _ _ _ h5').mono ?_; rintro e w' ⟨rfl, rfl⟩)
        go_ret
        exact RetB.mk rfl c5
    · by_cases hnb : 16777216 ≤ n
      · clear hnum
        go_wp2_with (go_at_call 26; refine (left_any _ _ _ _ h5').mono ?_; rintro e w' ⟨rfl, rfl⟩)
        go_ret
        exact RetB.mk rfl c5
      · have hmn : (m == n) = true := by simp at hnum; simp; omega
        clear hnum
        go_wp2_with (go_at_call 26; refine (left_any _ _ _ _ h5').mono ?_; rintro e w' ⟨rfl, rfl⟩)
        go_ret
        exact RetB.mk rfl c5
    · by_cases hnb : 4294967296 ≤ n
      · clear hnum
        go_wp2_with (go_at_call 26; refine (left_any _ _ _ _ h5').mono ?_; rintro e w' ⟨rfl, rfl⟩)
        go_ret
        exact RetB.mk rfl c5
      · have hmn : (m == n) = true := by simp at hnum; simp; omega
        clear hnum
        go_wp2_with (go_at_call 26; refine (left_any _ _ _ _ h5').mono ?_; rintro e w' ⟨rfl, rfl⟩)
        go_ret
        exact RetB.mk rfl c5

theorem octetBack_any (width n : Int) (more : List UInt8) (w : World) :
    Calls Try.prog 4 #[.int .i64 width, .int .i64 n, .string (bs more)] w (RetB (.bool true) w) := by
  by_cases hm : more.length ≤ 100
  · exact octetBack_k (hw width) (hw_le width) width n more w rfl hm
  · have hm' : (100 : Int) < more.length := by omega
    go_enter Try.func4, Try.ntmps4
    go_wp2_with fail
    refine (works10 _).mono ?_
    rintro e w1 ⟨rfl, b1⟩
    go_wp2_with fail
    refine (works10 _).mono ?_
    rintro e w2 ⟨rfl, b2⟩
    go_wp2_with fail
    go_ret
    exact RetB.mk rfl (below_then b1 b1.size b2)
end Go.Proofs.Ytokcfkfkpcgliaa

/-
  Layer 13, the reference: name, Get of what is raw, and of addresses.
-/
import Derived.Test.YtlmgdogblbigpaaGd5
import Derived.Test.YtlmgdogblbigpaaGH
import Derived.Test.YtlmgdogblbigpaaGA
namespace Go.Proofs.Ytlmgdogblbigpaa
open Go.RowKit
set_option maxRecDepth 100000
set_option linter.unusedVariables false
set_option linter.unusedSimpArgs false

theorem rname13_any (m : List UInt8) (a : Nat) (w : World) (hl : m.length ≤ 4000000) : Calls Try.prog 133 #[.string (bs m), .int .i64 a] w (NmRet (pget m a) w) := by
  have G := Lib.hid (refGet_any m a w hl)
  generalize pget m a = o at *
  have hE : Hid (nE o = if goE o = 1 then 5 else goE o) := Lib.hid rfl
  unfold GetRet at G
  unfold NmRet
  generalize nE o = y at *
  generalize goE o = x at *
  generalize goB o = b at *
  go_enter Try.func133, Try.ntmps133
  go_wp2_with fail
  refine G.out.mono ?_
  rintro _ w1 ⟨v, rfl, hT, hB, _⟩
  by_cases hx : x = 1
  · subst hx
    obtain rfl : y = 5 := by rw [hE.out]; rfl
    go_wp2_with fail
    go_ret3
    exact ⟨v, rfl, hT, hB⟩
  · have hx' : (x == 1) = false := by simpa using hx
    obtain rfl : y = x := by rw [hE.out, if_neg hx]
    clear hx hE
    go_wp2_with fail
    go_ret3
    exact ⟨v, rfl, hT, hB⟩
theorem rname13_ok {m : List UInt8} {a : Nat} {l : List (List UInt8)} {n : Nat} (h : pget m a = .ok l n) (w : World) (hl : m.length ≤ 4000000) :
    Calls Try.prog 133 #[.string (bs m), .int .i64 a] w (fun e w' => ∃ v, e = .returned (.tuple #[v, .int .i64 (n : Int), .int .i64 0]) ∧ Txts w' v l ∧ Below w.heap.size w w') := by
  have := rname13_any m a w hl
  rw [h] at this
  exact this
theorem rname13_no {m : List UInt8} {a : Nat} {x : Int} (h : pget m a = .err x) (w : World) (hl : m.length ≤ 4000000) :
    Calls Try.prog 133 #[.string (bs m), .int .i64 a] w (fun e w' => ∃ v, e = .returned (.tuple #[v, .int .i64 0, .int .i64 (if x = 1 then 5 else x)]) ∧ Txts w' v [] ∧ Below w.heap.size w w') := by
  have := rname13_any m a w hl
  rw [h] at this
  exact this
def bitsV (f : Int) : Int := if f = 4 then 32 else if f = 6 then 128 else 0
theorem bits_any (f : Int) (L : List Value) (hL : L.length = 18) (h0 : ∀ hi : 0 < L.length, L[0]'hi = .int .i64 f) (hf : f = 4 ∨ f = 6) (w : World) : Calls Try.prog 132 #[.agg L.toArray] w (RetB (.int .i64 (bitsV f)) w) := by
  rcases hf with rfl | rfl
  all_goals
    go_enter Try.func132, Try.ntmps132
    go_wp2_with fail
    go_ret
    exact RetB.mk rfl ((Below.refl _ _).alloc (Nat.le_refl _) _)
theorem kindR_ty {ty cl k : Int} (h : kindR ty cl = k) (hk : k ≠ 0) : ty = k := by
  unfold kindR at h
  split at h
  · exact h
  · omega
set_option maxHeartbeats 1000000 in
theorem r13_raw (m : List UInt8) (a n : Nat) (ty cl : Int) (w : World) (hm : a + n ≤ m.length) (hl : m.length ≤ 4000000) (hk : kindR ty cl = 0) :
    Calls Try.prog 119 #[.string (bs m), .int .i64 a, .int .i64 n, .int .i64 ty, .int .i64 cl] w (GetR (.ok { RR.zero with raw := (m.take (a + n)).drop a }) w) := by
  have K := Lib.hid (fun w => refKind13_any ty cl w)
  rw [hk] at K
  clear hk
  have hSl : (m.take (a + n)).length = a + n := by simp; omega
  have hse : (((a : Int) + n) != (((m.take (a + n)).length : Nat) : Int)) = false := by rw [hSl]; simp
  have k1 : (0 : Int) ≤ a := by omega
  have k2 : (0 : Int) ≤ n := by omega
  have k3 : (a : Int) ≤ m.length := by omega
  have k4 : n ≤ (m.length : Int) - a := by omega
  have k5 : (a : Int) + n ≤ m.length := by omega
  have hs0 : ((a : Int) + n).toNat = a + n := by omega
  obtain ⟨z1, hz1⟩ : ∃ z1, z1 = w.alloc (.cells rrZ.toArray 86) := ⟨_, rfl⟩
  obtain ⟨X, hX⟩ : ∃ X, X = z1.alloc (.cells rrZ.toArray 86) := ⟨_, rfl⟩
  have C10 : Blk X w.heap.size 86 rrZ := by rw [hX, hz1]; exact (Blk.new w 86 rrZ).alloc _
  have C12 : Blk X (w.heap.size + 1) 86 rrZ := by rw [hX, hz1]; exact Blk.new' _ _ rrZ _ (by simp)
  have CB : Below w.heap.size w X := by rw [hX, hz1]; exact ((Below.refl _ _).alloc (Nat.le_refl _) _).alloc (by simp) _
  have HW : Hid ((w.alloc (.cells #[.slice none 0 0, .int .i64 0, .int .i64 0, .int .i64 0, .int .i64 0, .int .u8 0, .int .u8 0, .int .u8 0, .int .u8 0, .int .u8 0, .int .u8 0, .int .u8 0, .int .u8 0, .int .u8 0, .int .u8 0, .int .u8 0, .int .u8 0, .int .u8 0, .int .u8 0, .int .u8 0, .int .u8 0, .int .i64 0, .slice none 0 0, .slice none 0 0, .int .i64 0, .int .i64 0, .int .i64 0, .int .i64 0, .int .i64 0, .int .i64 0, .int .i64 0, .int .i64 0, .string ⟨#[]⟩] 86)).alloc (.cells #[.slice none 0 0, .int .i64 0, .int .i64 0, .int .i64 0, .int .i64 0, .int .u8 0, .int .u8 0, .int .u8 0, .int .u8 0, .int .u8 0, .int .u8 0, .int .u8 0, .int .u8 0, .int .u8 0, .int .u8 0, .int .u8 0, .int .u8 0, .int .u8 0, .int .u8 0, .int .u8 0, .int .u8 0, .int .i64 0, .slice none 0 0, .slice none 0 0, .int .i64 0, .int .i64 0, .int .i64 0, .int .i64 0, .int .i64 0, .int .i64 0, .int .i64 0, .int .i64 0, .string ⟨#[]⟩] 86) = X) := Lib.hid (by rw [hX, hz1, rrZ_lit])
  have CS : w.heap.size + 2 ≤ X.heap.size := by rw [hX, hz1]; simp
  clear hX hz1
  rw [← HW.out] at C10 C12 CB CS
  clear HW
  go_enter Try.func119, Try.ntmps119
  go_wp2_with (refine at_op (.store 86 (.tmp 13) (.tmp 56)) rfl ?_; go_must (refine wpList_stB rfl 86 (.tmp 13) (.tmp 56) rfl (w.heap.size + 1) 0 rfl rrZ rfl C12 (by rw [rrZ_len]; omega) (by rw [rrZ_len]; exact rrInfo) rrZ_one ?_))
  intro W B12 g1 _
  replace B12 : Blk W (w.heap.size + 1) 86 rrZ := B12
  have B10 := C10.grown g1 (by simp)
  have HB := below_grown CB g1 (by omega) (by omega)
  clear C10 C12 CB g1 CS
  go_wp2_with fail
  refine (K.out W).mono ?_
  rintro _ w1 ⟨rfl, rfl⟩
  clear K
  have hl33 : rrZ.length = 33 := rrZ_len
  go_wp2_with (refine at_op (.store 9 (.tmp 66) (.tmp 65)) rfl ?_; go_must (refine wpList_stC rfl 9 (.tmp 66) (.tmp 65) rfl (w.heap.size + 1) 32 rfl _ rfl B12 (by omega) strInfo1 rfl rfl ?_))
  intro w2 B2 g2 _
  have A2 := B10.grown g2 (by simp)
  have HB2 := below_grown HB g2 HB.size (by omega)
  rw [List.take_take, Nat.min_self] at B2
  clear B12 B10 HB g2
  obtain ⟨L, hL⟩ : ∃ L, L = rrZ.set 32 (.string (bs ((m.take (a + n)).drop a))) := ⟨_, rfl⟩
  rw [← hL] at B2
  replace hL : L = rrC nilS nilS nilS { RR.zero with raw := (m.take (a + n)).drop a } := hL
  have ll : L.length = 33 := rget_len hL ⟨rfl, rfl⟩
  have l1 : Hid (∀ v ∈ L, v.oneCell' = true) := Lib.hid (by rw [hL]; exact rrC_one rfl rfl rfl)
  have OW : Hid (∀ w', Stays w2 w' → RRown w' L { RR.zero with raw := (m.take (a + n)).drop a }) := Lib.hid (fun w' _ => ⟨nilS, nilS, nilS, hL, ⟨rfl, rfl⟩, NmO.nil _, NmO.nil _, NmO.nil _, by simp; omega⟩)
  clear hL
  go_wp2_with (first
    | (refine at_op (.load 86 (.tmp 13)) rfl ?_; go_must (refine wpList_ldB rfl 86 (.tmp 13) rfl (w.heap.size + 1) 0 rfl B2 33 (by omega) _ Try.underlying86 rfl rrInfo L (by rw [List.drop_zero, List.take_of_length_le (by omega)]) ?_))
    | (refine at_op (.store 86 (.tmp 10) (.tmp 217)) rfl ?_; go_must (refine wpList_stB rfl 86 (.tmp 10) (.tmp 217) rfl w.heap.size 0 rfl L rfl A2 (by rw [rrZ_len]; omega) (by rw [ll]; exact rrInfo) l1.out ?_)))
  intro w3 hb3 hg3 _
  rw [List.drop_of_length_le (by rw [rrZ_len]; omega), List.append_nil] at hb3
  have S3 := Stays.blk hg3 A2 (by decide)
  have HB3 := below_grown HB2 hg3 HB2.size (Nat.le_refl _)
  clear hg3 A2 B2 HB2
  go_wp2_with fail
  refine ret_cell_tmp rfl w.heap.size rfl hb3 _ Try.underlying86 rfl (by rw [ll]; exact rrInfo) rfl (.int .i64 0) rfl ?_
  exact ⟨L, rfl, OW.out _ S3, HB3⟩
end Go.Proofs.Ytlmgdogblbigpaa

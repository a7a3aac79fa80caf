/-
  StreamLong: how long a message may be; and what a message put is heard as.
-/
import Derived.Test.YtokcfkfkpcgliaaLaw15b
namespace Go.Proofs.Ytokcfkfkpcgliaa
open Go.RowKit
set_option maxRecDepth 100000

theorem streamPut_ok (s : List UInt8) (w : World) (h : s.length ≤ 65535) : Calls Try.prog 39 #[.string (bs s)] w (RetB (.tuple #[.string (bs (putB 2 s.length ++ s)), .int .i64 0]) w) := by
  have h' : (s.length : Int) ≤ 65535 := by omega
  have hl := putB_length 2 (s.length : Int)
  go_enter Try.func39, Try.ntmps39
  go_wp2_with fail
  refine (put_any _ _ _).mono ?_
  rintro e w1 ⟨rfl, b1⟩
  rw [show hw 2 = 2 from rfl]
  generalize putB 2 (s.length : Int) = p at *
  have hp : p.length ≤ 2 := by omega
  clear hl
  go_wp2_with fail
  go_ret2
  exact RetB.mk rfl b1
theorem streamPut_long (s : List UInt8) (w : World) (h : 65535 < s.length) : Calls Try.prog 39 #[.string (bs s)] w (RetB (.tuple #[.string (bs []), .int .i64 3]) w) := by
  have h' : (65535 : Int) < s.length := by omega
  go_enter Try.func39, Try.ntmps39
  go_wp2_with fail
  go_ret2
  exact RetB.mk rfl (Below.refl _ _)

/-- A message's frame, and what is behind it. -/
theorem frame1 (t more : List UInt8) (h : t.length ≤ 65535) : wholeB (putB 2 t.length ++ t ++ more) = true ∧ msg1 (putB 2 t.length ++ t ++ more) = t ∧ rest1 (putB 2 t.length ++ t ++ more) = more := by
  have hl := putB_length 2 (t.length : Int)
  have hn : numB (putB 2 (t.length : Int)) = t.length := by
    have := numB_putB 2 (t.length : Int)
    have e : ((256 ^ 2 : Nat) : Int) = 65536 := rfl
    rw [e] at this; omega
  have ht : (putB 2 (t.length : Int) ++ t ++ more).take 2 = putB 2 (t.length : Int) := by
    rw [List.append_assoc, List.take_append_of_le_length (by omega), List.take_of_length_le (by omega)]
  refine ⟨(wholeB_iff _).2 ⟨by simp [hl], by rw [ht, hn]; simp [hl]⟩, ?_, ?_⟩
  · unfold msg1
    rw [ht, hn, List.append_assoc, List.drop_append_of_le_length (by omega), List.drop_of_length_le (by omega), List.nil_append, List.take_left]
  · unfold rest1
    rw [ht, hn, show 2 + t.length = (putB 2 (t.length : Int) ++ t).length by simp [hl], List.drop_left]

theorem frames_one (t : List UInt8) (h : t.length ≤ 65535) : frames (putB 2 t.length ++ t) = [t] ∧ restF (putB 2 t.length ++ t) = [] := by
  obtain ⟨h1, h2, h3⟩ := frame1 t [] h
  rw [List.append_nil] at h1 h2 h3
  rw [(frames_yes _ h1).1, (frames_yes _ h1).2, h2, h3, (frames_no [] rfl).1, (frames_no [] rfl).2]
  exact ⟨rfl, rfl⟩

set_option maxHeartbeats 1000000 in
theorem streamLong_n (n : Int) (N : Nat) (w : World) (h0 : 0 ≤ n) (h1 : n ≤ 255) (hN : 65530 + n % 10 = N) :
    Calls Try.prog 9 #[.int .u8 n] w (RetB (.bool true) w) := by
  have hN1 : N ≤ 65539 := by omega
  have hN0 : 65530 ≤ N := by omega
  have hmk := run_mkbytes N (by omega)
  have hb := Blk.new w 5 (octs (List.replicate N 0))
  have hcv := run_str_of_row _ w.heap.size N (List.replicate N 0) _ hb (by rw [List.take_of_length_le (by simp [octs_length])])
  rw [List.length_replicate] at hcv
  have hzl : (List.replicate N (0 : UInt8)).length = N := List.length_replicate
  have ZL := Lib.hid hzl
  generalize List.replicate N (0 : UInt8) = z at *
  have hzN : z.length ≤ 65539 := by omega
  have hzN0 : 65530 ≤ z.length := by omega
  clear hzl hb
  generalize (octs z).toArray = O at *
  go_enter Try.func9, Try.ntmps9
  go_wp2_with fail
  clear hmk hcv
  by_cases hok : N ≤ 65535
  · refine (streamPut_ok z _ (by have := ZL.out; omega)).mono ?_
    rintro e w1 ⟨rfl, b1⟩
    have b1' : Below w.heap.size w w1 := below_then ((Below.refl _ _).alloc (Nat.le_refl _) _) (by simp) b1
    clear b1
    have FO := Lib.hid (frames_one z (by have := ZL.out; omega))
    have hpl : (putB 2 (z.length : Int) ++ z).length = N + 2 := by rw [List.length_append, putB_length, ZL.out]; omega
    have PL := Lib.hid hpl
    have hpl1 : (putB 2 (z.length : Int) ++ z).length ≤ 65541 := by omega
    have hokI : (N : Int) ≤ 65535 := by omega
    clear hpl
    generalize putB 2 (z.length : Int) ++ z = pz at *
    go_wp2_with fail
    refine (feed_any w1.heap.size [] pz _ (joinNew w1) (by simp; omega)).mono ?_
    rw [List.nil_append, FO.out.1, FO.out.2]
    rintro e w2 ⟨v2, rfl, t2, j2, g2⟩
    obtain ⟨A2, c2, rfl, r2, _⟩ := t2.form
    have b2 : Below w.heap.size w w2 := below_grown (b1'.alloc b1'.size _) g2 (by have := b1'.size; simp; omega) b1'.size
    rw [show [z].length = 1 from rfl]
    clear t2 g2 j2
    go_wp2_with fail
    refine (works15 _).mono ?_
    rintro e w3 ⟨rfl, b3⟩
    obtain ⟨b, off, rfl, _, hc⟩ := r2.below b3 (by simp)
    have x0 := hc 0 (by simp)
    rw [show [z][0] = z from rfl, Nat.add_zero] at x0
    have e1 : ((pz.length : Int) == (N : Int) + 2) = true := by have := PL.out; simp; omega
    have e2 : ((z.length : Int) == (N : Int)) = true := by have := ZL.out; simp; omega
    clear hc r2
    go_wp2_with fail
    go_ret
    exact RetB.mk rfl (below_then b2 b2.size b3)
  · refine (streamPut_long z _ (by have := ZL.out; omega)).mono ?_
    rintro e w1 ⟨rfl, b1⟩
    have hokI : (65535 : Int) < N := by omega
    go_wp2_with fail
    refine (works15 _).mono ?_
    rintro e w2 ⟨rfl, b2⟩
    go_wp2_with fail
    go_ret
    have b1' : Below w.heap.size w w1 := below_then ((Below.refl _ _).alloc (Nat.le_refl _) _) (by simp) b1
    exact RetB.mk rfl (below_then b1' b1'.size b2)

theorem streamLong_any (n : Int) (w : World) (hn : (Lit.int .u8 n).wf = true) : Calls Try.prog 9 #[.int .u8 n] w (RetB (.bool true) w) := by
  have hx : 0 ≤ n ∧ n ≤ 255 := by simpa [Lit.wf, IntKind.min, IntKind.max, IntKind.signed, IntKind.bits] using hn
  exact streamLong_n n (65530 + n % 10).toNat w hx.1 hx.2 (by omega)
end Go.Proofs.Ytokcfkfkpcgliaa

/-
  Layer 13 (rdata): Get.
-/
import Derived.Test.YtlmgdogblbigpaaGd3
namespace Go.Proofs.Ytlmgdogblbigpaa
open Go.RowKit
set_option maxRecDepth 100000
set_option linter.unusedVariables false
set_option linter.unusedSimpArgs false

/-- What Get tells. -/
def GetR (o : Except Int RR) (w : World) (e : Ending) (w' : World) : Prop :=
  match o with
  | .error x => x ≠ 0 ∧ e = .returned (.tuple #[.agg rrZ.toArray, .int .i64 x]) ∧ Below w.heap.size w w'
  | .ok r => ∃ cs, e = .returned (.tuple #[.agg cs.toArray, .int .i64 0]) ∧ RRown w' cs r ∧ Below w.heap.size w w'
theorem rrZ_lit : rrZ.toArray = #[.slice none 0 0, .int .i64 0, .int .i64 0, .int .i64 0, .int .i64 0, .int .u8 0, .int .u8 0, .int .u8 0, .int .u8 0, .int .u8 0, .int .u8 0, .int .u8 0, .int .u8 0, .int .u8 0, .int .u8 0, .int .u8 0, .int .u8 0, .int .u8 0, .int .u8 0, .int .u8 0, .int .u8 0, .int .i64 0, .slice none 0 0, .slice none 0 0, .int .i64 0, .int .i64 0, .int .i64 0, .int .i64 0, .int .i64 0, .int .i64 0, .int .i64 0, .int .i64 0, .string ⟨#[]⟩] := rfl
theorem rrZ_one : ∀ v ∈ rrZ, v.oneCell' = true := rrC_one rfl rfl rfl
theorem rget_len {L : List Value} {r : RR} {vn vt vm : Value} (e : L = rrC vn vt vm r) (h : r.wf) : L.length = 33 := by rw [e]; exact rrC_len h
set_option maxHeartbeats 1000000 in
theorem rget_raw (m : List UInt8) (a n : Nat) (ty cl : Int) (w : World) (hm : a + n ≤ m.length) (hl : m.length ≤ 4000000) (hk : kindR ty cl = 0) :
    Calls Try.prog 52 #[.string (bs m), .int .i64 a, .int .i64 n, .int .i64 ty, .int .i64 cl] w (GetR (.ok { RR.zero with raw := (m.take (a + n)).drop a }) w) := by
  have K := Lib.hid (fun w => kindOf_any ty cl w)
  rw [hk] at K
  clear hk
  have k1 : (0 : Int) ≤ a := by omega
  have k2 : (0 : Int) ≤ n := by omega
  have k3 : (a : Int) ≤ m.length := by omega
  have k4 : (n : Int) ≤ (m.length : Int) - a := by omega
  have k5 : (a : Int) + n ≤ m.length := by omega
  have hs0 : ((a : Int) + n).toNat = a + n := by omega
  obtain ⟨z1, hz1⟩ : ∃ z1, z1 = w.alloc (.cells rrZ.toArray 86) := ⟨_, rfl⟩
  obtain ⟨W, hW⟩ : ∃ W, W = z1.alloc (.cells rrZ.toArray 86) := ⟨_, rfl⟩
  have B10 : Blk W w.heap.size 86 rrZ := by rw [hW, hz1]; exact (Blk.new w 86 rrZ).alloc _
  have B12 : Blk W (w.heap.size + 1) 86 rrZ := by rw [hW, hz1]; exact Blk.new' _ _ rrZ _ (by simp)
  have HB : Below w.heap.size w W := by rw [hW, hz1]; exact ((Below.refl _ _).alloc (Nat.le_refl _) _).alloc (by simp) _
  have HW : Hid ((w.alloc (.cells #[.slice none 0 0, .int .i64 0, .int .i64 0, .int .i64 0, .int .i64 0, .int .u8 0, .int .u8 0, .int .u8 0, .int .u8 0, .int .u8 0, .int .u8 0, .int .u8 0, .int .u8 0, .int .u8 0, .int .u8 0, .int .u8 0, .int .u8 0, .int .u8 0, .int .u8 0, .int .u8 0, .int .u8 0, .int .i64 0, .slice none 0 0, .slice none 0 0, .int .i64 0, .int .i64 0, .int .i64 0, .int .i64 0, .int .i64 0, .int .i64 0, .int .i64 0, .int .i64 0, .string ⟨#[]⟩] 86)).alloc (.cells #[.slice none 0 0, .int .i64 0, .int .i64 0, .int .i64 0, .int .i64 0, .int .u8 0, .int .u8 0, .int .u8 0, .int .u8 0, .int .u8 0, .int .u8 0, .int .u8 0, .int .u8 0, .int .u8 0, .int .u8 0, .int .u8 0, .int .u8 0, .int .u8 0, .int .u8 0, .int .u8 0, .int .u8 0, .int .i64 0, .slice none 0 0, .slice none 0 0, .int .i64 0, .int .i64 0, .int .i64 0, .int .i64 0, .int .i64 0, .int .i64 0, .int .i64 0, .int .i64 0, .string ⟨#[]⟩] 86) = W) := Lib.hid (by rw [hW, hz1, rrZ_lit])
  have hWs : W.heap.size = w.heap.size + 1 + 1 := by rw [hW, hz1]; simp
  clear hW hz1
  go_enter Try.func52, Try.ntmps52
  go_wp2_with fail
  rw [HW.out]
  refine (K.out W).mono ?_
  rintro _ w1 ⟨rfl, rfl⟩
  clear K HW
  have hl33 : rrZ.length = 33 := rrZ_len
  go_wp2_with (refine at_op (.store 9 (.tmp 46) (.tmp 45)) rfl ?_; go_must (refine wpList_stC rfl 9 (.tmp 46) (.tmp 45) rfl (w.heap.size + 1) 32 rfl _ rfl B12 (by omega) strInfo1 rfl rfl ?_))
  intro w2 B2 g2 _
  have A2 := B10.grown g2 (by simp)
  have HB2 := below_grown HB g2 HB.size (by omega)
  rw [List.take_take, Nat.min_self] at B2
  clear B12 B10 HB g2
  obtain ⟨L, hL⟩ : ∃ L, L = rrZ.set 32 (.string (bs ((m.take (a + n)).drop a))) := ⟨_, rfl⟩
  rw [← hL] at B2
  replace hL : L = rrC nilS nilS nilS { RR.zero with raw := (m.take (a + n)).drop a } := hL
  have ll : L.length = 33 := rget_len hL ⟨rfl, rfl⟩
  have l1 : Hid (∀ v ∈ L, v.oneCell' = true) := Lib.hid (by rw [hL]; exact rrC_one rfl rfl rfl)
  have OW : Hid (∀ w', Stays w2 w' → RRown w' L { RR.zero with raw := (m.take (a + n)).drop a }) := Lib.hid (fun w' _ => ⟨nilS, nilS, nilS, hL, ⟨rfl, rfl⟩, NmO.nil _, NmO.nil _, NmO.nil _, by simp; omega⟩)
  clear hL
  go_wp2_with (first
    | (refine at_op (.load 86 (.tmp 12)) rfl ?_; go_must (refine wpList_ldB rfl 86 (.tmp 12) rfl (w.heap.size + 1) 0 rfl B2 33 (by omega) _ Try.underlying86 rfl rrInfo L (by rw [List.drop_zero, List.take_of_length_le (by omega)]) ?_))
    | (refine at_op (.store 86 (.tmp 10) (.tmp 79)) rfl ?_; go_must (refine wpList_stB rfl 86 (.tmp 10) (.tmp 79) rfl w.heap.size 0 rfl L rfl A2 (by rw [rrZ_len]; omega) (by rw [ll]; exact rrInfo) l1.out ?_)))
  intro w3 hb3 hg3 _
  rw [List.drop_of_length_le (by rw [rrZ_len]; omega), List.append_nil] at hb3
  have S3 := Stays.blk hg3 A2 (by decide)
  have HB3 := below_grown HB2 hg3 HB2.size (Nat.le_refl _)
  clear hg3 A2 B2 HB2
  go_wp2_with fail
  refine ret_cell_tmp rfl w.heap.size rfl hb3 _ Try.underlying86 rfl (by rw [ll]; exact rrInfo) rfl (.int .i64 0) rfl ?_
  exact ⟨L, rfl, OW.out _ S3, HB3⟩
set_option maxHeartbeats 1000000 in
theorem rget_adr (k : Nat) (fam : Int) (hkf : (k = 1 ∧ fam = 4) ∨ (k = 28 ∧ fam = 6)) (m : List UInt8) (a n : Nat) (ty cl : Int) (w : World) (hm : a + n ≤ m.length) (hl : m.length ≤ 4000000) (hk : kindR ty cl = k) (hn : n = if k = 1 then 4 else 16) :
    Calls Try.prog 52 #[.string (bs m), .int .i64 a, .int .i64 n, .int .i64 ty, .int .i64 cl] w (GetR (.ok (adR fam ((m.take (a + n)).drop a))) w) := by
  have K := Lib.hid (fun w => kindOf_any ty cl w)
  rw [hk] at K
  clear hk
  have hd : ((m.take (a + n)).drop a).length = n := by simp; omega
  have hd' : ((m.take (a + n)).drop a).length = 4 ∨ ((m.take (a + n)).drop a).length = 16 := by rw [hd, hn]; split <;> simp
  have GA := Lib.hid (fun g w hb => getAddr_ok g ((m.take (a + n)).drop a) fam w hb hd')
  rw [hd] at GA
  have hwf : (adR fam ((m.take (a + n)).drop a)).wf := ⟨by simp only [adR, List.length_append, List.length_replicate]; omega, rfl⟩
  obtain ⟨L, hL⟩ : ∃ L, L = rrC nilS nilS nilS (adR fam ((m.take (a + n)).drop a)) := ⟨_, rfl⟩
  rw [← hL] at GA
  have ll : L.length = 33 := rget_len hL hwf
  have l1 : Hid (∀ v ∈ L, v.oneCell' = true) := Lib.hid (by rw [hL]; exact rrC_one rfl rfl rfl)
  have OW' : Hid (∀ w', RRown w' L (adR fam ((m.take (a + n)).drop a))) := Lib.hid (fun w' => ⟨nilS, nilS, nilS, hL, hwf, NmO.nil _, NmO.nil _, NmO.nil _, by simp [adR, RR.zero]⟩)
  generalize adR fam ((m.take (a + n)).drop a) = r at *
  have hl33 : rrZ.length = 33 := rrZ_len
  clear hL hd hd' hwf
  rcases hkf with ⟨rfl, rfl⟩ | ⟨rfl, rfl⟩
  case inl =>
    have hn4 : ((n : Nat) : Int) = 4 := by rw [hn]; rfl
    rw [hn4] at GA
    clear hn4 hn
    have k1 : (0 : Int) ≤ a := by omega
    have k2 : (0 : Int) ≤ n := by omega
    have k3 : (a : Int) ≤ m.length := by omega
    have k4 : (n : Int) ≤ (m.length : Int) - a := by omega
    have k5 : (a : Int) + n ≤ m.length := by omega
    have hs0 : ((a : Int) + n).toNat = a + n := by omega
    obtain ⟨z1, hz1⟩ : ∃ z1, z1 = w.alloc (.cells rrZ.toArray 86) := ⟨_, rfl⟩
    obtain ⟨W, hW⟩ : ∃ W, W = z1.alloc (.cells rrZ.toArray 86) := ⟨_, rfl⟩
    have B10 : Blk W w.heap.size 86 rrZ := by rw [hW, hz1]; exact (Blk.new w 86 rrZ).alloc _
    have B12 : Blk W (w.heap.size + 1) 86 rrZ := by rw [hW, hz1]; exact Blk.new' _ _ rrZ _ (by simp)
    have HB : Below w.heap.size w W := by rw [hW, hz1]; exact ((Below.refl _ _).alloc (Nat.le_refl _) _).alloc (by simp) _
    have HW : Hid ((w.alloc (.cells #[.slice none 0 0, .int .i64 0, .int .i64 0, .int .i64 0, .int .i64 0, .int .u8 0, .int .u8 0, .int .u8 0, .int .u8 0, .int .u8 0, .int .u8 0, .int .u8 0, .int .u8 0, .int .u8 0, .int .u8 0, .int .u8 0, .int .u8 0, .int .u8 0, .int .u8 0, .int .u8 0, .int .u8 0, .int .i64 0, .slice none 0 0, .slice none 0 0, .int .i64 0, .int .i64 0, .int .i64 0, .int .i64 0, .int .i64 0, .int .i64 0, .int .i64 0, .int .i64 0, .string ⟨#[]⟩] 86)).alloc (.cells #[.slice none 0 0, .int .i64 0, .int .i64 0, .int .i64 0, .int .i64 0, .int .u8 0, .int .u8 0, .int .u8 0, .int .u8 0, .int .u8 0, .int .u8 0, .int .u8 0, .int .u8 0, .int .u8 0, .int .u8 0, .int .u8 0, .int .u8 0, .int .u8 0, .int .u8 0, .int .u8 0, .int .u8 0, .int .i64 0, .slice none 0 0, .slice none 0 0, .int .i64 0, .int .i64 0, .int .i64 0, .int .i64 0, .int .i64 0, .int .i64 0, .int .i64 0, .int .i64 0, .string ⟨#[]⟩] 86) = W) := Lib.hid (by rw [hW, hz1, rrZ_lit])
    have hWs : W.heap.size = w.heap.size + 1 + 1 := by rw [hW, hz1]; simp
    clear hW hz1
    go_enter Try.func52, Try.ntmps52
    go_wp2_with fail
    rw [HW.out]
    refine (K.out W).mono ?_
    rintro _ w1 ⟨rfl, rfl⟩
    clear K HW
    go_wp2_with fail
    rw [List.take_take, Nat.min_self]
    refine (GA.out (w.heap.size + 1) W B12).mono ?_
    rintro _ w2 ⟨rfl, B2, g2⟩
    have A2 := B10.grown g2 (by simp)
    have HB2 := below_grown HB g2 HB.size (by omega)
    have OW : Hid (∀ w', Stays w2 w' → RRown w' L r) := Lib.hid (fun w' _ => OW'.out w')
    clear B12 B10 HB g2 GA OW'
    go_wp2_with (first
      | (refine at_op (.load 86 (.tmp 12)) rfl ?_; go_must (refine wpList_ldB rfl 86 (.tmp 12) rfl (w.heap.size + 1) 0 rfl B2 33 (by omega) _ Try.underlying86 rfl rrInfo L (by rw [List.drop_zero, List.take_of_length_le (by omega)]) ?_))
      | (refine at_op (.store 86 (.tmp 10) (.tmp 79)) rfl ?_; go_must (refine wpList_stB rfl 86 (.tmp 10) (.tmp 79) rfl w.heap.size 0 rfl L rfl A2 (by rw [rrZ_len]; omega) (by rw [ll]; exact rrInfo) l1.out ?_)))
    intro w3 hb3 hg3 _
    rw [List.drop_of_length_le (by rw [rrZ_len]; omega), List.append_nil] at hb3
    have S3 := Stays.blk hg3 A2 (by decide)
    have HB3 := below_grown HB2 hg3 HB2.size (Nat.le_refl _)
    clear hg3 A2 B2 HB2
    go_wp2_with fail
    refine ret_cell_tmp rfl w.heap.size rfl hb3 _ Try.underlying86 rfl (by rw [ll]; exact rrInfo) rfl (.int .i64 0) rfl ?_
    exact ⟨L, rfl, OW.out _ S3, HB3⟩
  case inr =>
    have hn4 : ((n : Nat) : Int) = 16 := by rw [hn]; rfl
    rw [hn4] at GA
    clear hn4 hn
    have k1 : (0 : Int) ≤ a := by omega
    have k2 : (0 : Int) ≤ n := by omega
    have k3 : (a : Int) ≤ m.length := by omega
    have k4 : (n : Int) ≤ (m.length : Int) - a := by omega
    have k5 : (a : Int) + n ≤ m.length := by omega
    have hs0 : ((a : Int) + n).toNat = a + n := by omega
    obtain ⟨z1, hz1⟩ : ∃ z1, z1 = w.alloc (.cells rrZ.toArray 86) := ⟨_, rfl⟩
    obtain ⟨W, hW⟩ : ∃ W, W = z1.alloc (.cells rrZ.toArray 86) := ⟨_, rfl⟩
    have B10 : Blk W w.heap.size 86 rrZ := by rw [hW, hz1]; exact (Blk.new w 86 rrZ).alloc _
    have B12 : Blk W (w.heap.size + 1) 86 rrZ := by rw [hW, hz1]; exact Blk.new' _ _ rrZ _ (by simp)
    have HB : Below w.heap.size w W := by rw [hW, hz1]; exact ((Below.refl _ _).alloc (Nat.le_refl _) _).alloc (by simp) _
    have HW : Hid ((w.alloc (.cells #[.slice none 0 0, .int .i64 0, .int .i64 0, .int .i64 0, .int .i64 0, .int .u8 0, .int .u8 0, .int .u8 0, .int .u8 0, .int .u8 0, .int .u8 0, .int .u8 0, .int .u8 0, .int .u8 0, .int .u8 0, .int .u8 0, .int .u8 0, .int .u8 0, .int .u8 0, .int .u8 0, .int .u8 0, .int .i64 0, .slice none 0 0, .slice none 0 0, .int .i64 0, .int .i64 0, .int .i64 0, .int .i64 0, .int .i64 0, .int .i64 0, .int .i64 0, .int .i64 0, .string ⟨#[]⟩] 86)).alloc (.cells #[.slice none 0 0, .int .i64 0, .int .i64 0, .int .i64 0, .int .i64 0, .int .u8 0, .int .u8 0, .int .u8 0, .int .u8 0, .int .u8 0, .int .u8 0, .int .u8 0, .int .u8 0, .int .u8 0, .int .u8 0, .int .u8 0, .int .u8 0, .int .u8 0, .int .u8 0, .int .u8 0, .int .u8 0, .int .i64 0, .slice none 0 0, .slice none 0 0, .int .i64 0, .int .i64 0, .int .i64 0, .int .i64 0, .int .i64 0, .int .i64 0, .int .i64 0, .int .i64 0, .string ⟨#[]⟩] 86) = W) := Lib.hid (by rw [hW, hz1, rrZ_lit])
    have hWs : W.heap.size = w.heap.size + 1 + 1 := by rw [hW, hz1]; simp
    clear hW hz1
    go_enter Try.func52, Try.ntmps52
    go_wp2_with fail
    rw [HW.out]
    refine (K.out W).mono ?_
    rintro _ w1 ⟨rfl, rfl⟩
    clear K HW
    go_wp2_with fail
    rw [List.take_take, Nat.min_self]
    refine (GA.out (w.heap.size + 1) W B12).mono ?_
    rintro _ w2 ⟨rfl, B2, g2⟩
    have A2 := B10.grown g2 (by simp)
    have HB2 := below_grown HB g2 HB.size (by omega)
    have OW : Hid (∀ w', Stays w2 w' → RRown w' L r) := Lib.hid (fun w' _ => OW'.out w')
    clear B12 B10 HB g2 GA OW'
    go_wp2_with (first
      | (refine at_op (.load 86 (.tmp 12)) rfl ?_; go_must (refine wpList_ldB rfl 86 (.tmp 12) rfl (w.heap.size + 1) 0 rfl B2 33 (by omega) _ Try.underlying86 rfl rrInfo L (by rw [List.drop_zero, List.take_of_length_le (by omega)]) ?_))
      | (refine at_op (.store 86 (.tmp 10) (.tmp 79)) rfl ?_; go_must (refine wpList_stB rfl 86 (.tmp 10) (.tmp 79) rfl w.heap.size 0 rfl L rfl A2 (by rw [rrZ_len]; omega) (by rw [ll]; exact rrInfo) l1.out ?_)))
    intro w3 hb3 hg3 _
    rw [List.drop_of_length_le (by rw [rrZ_len]; omega), List.append_nil] at hb3
    have S3 := Stays.blk hg3 A2 (by decide)
    have HB3 := below_grown HB2 hg3 HB2.size (Nat.le_refl _)
    clear hg3 A2 B2 HB2
    go_wp2_with fail
    refine ret_cell_tmp rfl w.heap.size rfl hb3 _ Try.underlying86 rfl (by rw [ll]; exact rrInfo) rfl (.int .i64 0) rfl ?_
    exact ⟨L, rfl, OW.out _ S3, HB3⟩
end Go.Proofs.Ytlmgdogblbigpaa

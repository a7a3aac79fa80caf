/-
  Heads, the plain law: what is put is what is read.
-/
import Derived.Test.YtlmgdogblbigpaaGP
namespace Go.Proofs.Ytlmgdogblbigpaa
open Go.RowKit
set_option maxRecDepth 100000
set_option linter.unusedVariables false
set_option linter.unusedSimpArgs false

theorem bitw01 (b : Bool) (n : Int) : ∃ x : Int, bitw b n = n * x ∧ 0 ≤ x ∧ x ≤ 1 ∧ (x == 1) = b := by
  cases b
  · exact ⟨0, by simp [bitw], by omega, by omega, rfl⟩
  · exact ⟨1, by simp [bitw], by omega, by omega, rfl⟩
theorem hd_ok_iff (h : Hd) : h.ok = true ↔ (0 ≤ h.id ∧ h.id ≤ 65535) ∧ (0 ≤ h.op ∧ h.op ≤ 15) ∧ (0 ≤ h.rc ∧ h.rc ≤ 15) := by simp [Hd.ok, and_assoc]
theorem hd_num_lt (h : Hd) (hk : h.ok = true) : 0 ≤ h.num ∧ h.num ≤ 65535 := by
  obtain ⟨_, ⟨o0, o1⟩, ⟨r0, r1⟩⟩ := (hd_ok_iff h).1 hk
  have a := bitw_le h.qr 32768 (by decide)
  have b := bitw_le h.aa 1024 (by decide)
  have c := bitw_le h.tc 512 (by decide)
  have d := bitw_le h.rd 256 (by decide)
  have e := bitw_le h.ra 128 (by decide)
  have f := bitw_le h.ad 32 (by decide)
  have g := bitw_le h.cd 16 (by decide)
  unfold Hd.num
  omega
theorem numB2 (n : Int) (h : 0 ≤ n ∧ n ≤ 65535) : (numB (putB 2 n) : Int) = n := by
  rw [numB_putB]
  have : ((256 ^ 2 : Nat) : Int) = 65536 := rfl
  rw [this]; omega
theorem num_bits (h : Hd) (hk : h.ok = true) : hdOf (numB (putB 2 h.id)) (numB (putB 2 h.num)) = h := by
  have hn := numB2 h.num (hd_num_lt h hk)
  obtain ⟨hi, ⟨o0, o1⟩, ⟨r0, r1⟩⟩ := (hd_ok_iff h).1 hk
  have hid := numB2 h.id hi
  generalize numB (putB 2 h.num) = N at *
  generalize numB (putB 2 h.id) = I at *
  obtain ⟨id, qr, op, aa, tc, rd, ra, ad, cd, rc⟩ := h
  simp only [Hd.num] at *
  obtain ⟨x1, e1, p1, q1, rfl⟩ := bitw01 qr 32768
  obtain ⟨x2, e2, p2, q2, rfl⟩ := bitw01 aa 1024
  obtain ⟨x3, e3, p3, q3, rfl⟩ := bitw01 tc 512
  obtain ⟨x4, e4, p4, q4, rfl⟩ := bitw01 rd 256
  obtain ⟨x5, e5, p5, q5, rfl⟩ := bitw01 ra 128
  obtain ⟨x6, e6, p6, q6, rfl⟩ := bitw01 ad 32
  obtain ⟨x7, e7, p7, q7, rfl⟩ := bitw01 cd 16
  rw [e1, e2, e3, e4, e5, e6, e7] at hn
  have key : ∀ (k : Nat) (x : Int), (0 ≤ x ∧ x ≤ 1) → (N : Int) / (k : Int) % 2 = x → bitv N k = (x == 1) := by
    intro k x hx he
    rw [← bitvI, he]
  simp only [hdOf, Hd.mk.injEq]
  refine ⟨hid, key 32768 x1 ⟨p1, q1⟩ ?_, ?_, key 1024 x2 ⟨p2, q2⟩ ?_, key 512 x3 ⟨p3, q3⟩ ?_, key 256 x4 ⟨p4, q4⟩ ?_, key 128 x5 ⟨p5, q5⟩ ?_, key 32 x6 ⟨p6, q6⟩ ?_, key 16 x7 ⟨p7, q7⟩ ?_, ?_⟩
  all_goals omega
theorem at2_cut (a b c : List UInt8) (k : Nat) (ha : a.length = k) (hb : b.length = 2) : at2 (a ++ (b ++ c)) k = numB b := by
  subst ha
  unfold at2
  rw [List.drop_left, ← hb, List.take_left]
theorem at2_put (h : Hd) (c0 c1 c2 c3 : Int) (more : List UInt8) : at2 (putHead h c0 c1 c2 c3 ++ more) 0 = numB (putB 2 h.id) ∧ at2 (putHead h c0 c1 c2 c3 ++ more) 2 = numB (putB 2 h.num) ∧ at2 (putHead h c0 c1 c2 c3 ++ more) 4 = numB (putB 2 c0) ∧
    at2 (putHead h c0 c1 c2 c3 ++ more) 6 = numB (putB 2 c1) ∧ at2 (putHead h c0 c1 c2 c3 ++ more) 8 = numB (putB 2 c2) ∧ at2 (putHead h c0 c1 c2 c3 ++ more) 10 = numB (putB 2 c3) := by
  have l := putB_length 2
  unfold putHead
  refine ⟨?_, ?_, ?_, ?_, ?_, ?_⟩
  · have := at2_cut [] (putB 2 h.id) (putB 2 h.num ++ putB 2 c0 ++ putB 2 c1 ++ putB 2 c2 ++ putB 2 c3 ++ more) 0 rfl (l _)
    simpa [List.append_assoc] using this
  · have := at2_cut (putB 2 h.id) (putB 2 h.num) (putB 2 c0 ++ putB 2 c1 ++ putB 2 c2 ++ putB 2 c3 ++ more) 2 (l _) (l _)
    simpa [List.append_assoc] using this
  · have := at2_cut (putB 2 h.id ++ putB 2 h.num) (putB 2 c0) (putB 2 c1 ++ putB 2 c2 ++ putB 2 c3 ++ more) 4 (by simp [l]) (l _)
    simpa [List.append_assoc] using this
  · have := at2_cut (putB 2 h.id ++ putB 2 h.num ++ putB 2 c0) (putB 2 c1) (putB 2 c2 ++ putB 2 c3 ++ more) 6 (by simp [l]) (l _)
    simpa [List.append_assoc] using this
  · have := at2_cut (putB 2 h.id ++ putB 2 h.num ++ putB 2 c0 ++ putB 2 c1) (putB 2 c2) (putB 2 c3 ++ more) 8 (by simp [l]) (l _)
    simpa [List.append_assoc] using this
  · have := at2_cut (putB 2 h.id ++ putB 2 h.num ++ putB 2 c0 ++ putB 2 c1 ++ putB 2 c2) (putB 2 c3) more 10 (by simp [l]) (l _)
    simpa [List.append_assoc] using this
end Go.Proofs.Ytlmgdogblbigpaa

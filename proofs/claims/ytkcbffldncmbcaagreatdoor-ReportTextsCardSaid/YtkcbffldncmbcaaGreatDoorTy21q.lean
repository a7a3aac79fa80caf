/-
  Layers 13 and 26, the laws' own: Small, and what it tells.
-/
import Derived.Test.YtkcbffldncmbcaaGreatDoorTy20q
namespace Go.Proofs.YtkcbffldncmbcaaGreatDoor
open _root_.Go.Proofs.Tryz
open Go.RowKit
set_option maxRecDepth 100000
set_option linter.unusedVariables false
set_option linter.unusedSimpArgs false
def SmB (p : Prop) (w : World) (e : Ending) (w' : World) : Prop := ∃ b : Bool, e = .returned (.bool b) ∧ (b = true → p) ∧ Below w.heap.size w w'
set_option maxHeartbeats 1000000 in
theorem small13s_any (cs : List Value) (r : RR) (w : World) (h : RRis w cs r) : Calls prog 11 #[.agg cs.toArray] w (SmB (lsum r.name ≤ 400 ∧ lsum r.tg ≤ 400) w) := by
 obtain ⟨An, cn, At, ct, Am, cm, hcs, hr, hN, hT, hM, hraw⟩ := h
 have hl : cs.length = 33 := by rw [hcs]; exact rrC_len hr
 have L0 : cs[0]? = some (.slice An r.name.length cn) := by rw [hcs]; rfl
 have L22 : cs[22]? = some (.slice At r.tg.length ct) := by rw [hcs]; exact rrC_22 hr
 have L23 : cs[23]? = some (.slice Am r.ml.length cm) := by rw [hcs]; exact rrC_23 hr
 have L32 : cs[32]? = some (.string (bs r.raw)) := by rw [hcs]; exact rrC_32 hr
 have B0 := Blk.new w 45 cs
 have HB0 : Below w.heap.size w (w.alloc (.cells cs.toArray 45)) := (Below.refl _ _).alloc (Nat.le_refl _) _
 have F1 := Hh (fewN_any An cn r.name _ (hN.below HB0))
 have F2 := Hh (fewN_any At ct r.tg _ (hT.below HB0))
 have F3 := Hh (fewN_any Am cm r.ml _ (hM.below HB0))
 clear hcs hN hT hM
 obtain ⟨b1, hb1⟩ : ∃ b, Hid (decide (lsum r.name ≤ 400) = b) := ⟨_, Hh rfl⟩
 rw [hb1.out] at F1
 obtain ⟨b2, hb2⟩ : ∃ b, Hid (decide (lsum r.tg ≤ 400) = b) := ⟨_, Hh rfl⟩
 rw [hb2.out] at F2
 obtain ⟨b3, hb3⟩ : ∃ b, Hid (decide (lsum r.ml ≤ 400) = b) := ⟨_, Hh rfl⟩
 rw [hb3.out] at F3
 have HP : Hid (b1 = true → b2 = true → lsum r.name ≤ 400 ∧ lsum r.tg ≤ 400) := Hh (fun h1 h2 => ⟨of_decide_eq_true (hb1.out.trans h1), of_decide_eq_true (hb2.out.trans h2)⟩)
 clear hb1 hb2 hb3
 obtain ⟨PP, hPP⟩ : ∃ PP, Hid ((lsum r.name ≤ 400 ∧ lsum r.tg ≤ 400) = PP) := ⟨_, Hh rfl⟩
 rw [hPP.out] at HP ⊢
 clear hPP
 generalize r.name.length = n1 at *
 generalize r.tg.length = n2 at *
 generalize r.ml.length = n3 at *
 generalize r.raw = raw at *
 have c0 := B0.cell_ 0 L0
 have c22 := B0.cell_ 22 L22
 have c23 := B0.cell_ 23 L23
 have c32 := B0.cell_ 32 L32
 have D : ∃ d, decide ((raw.length : Int) ≤ 70000) = d := ⟨_, rfl⟩
 obtain ⟨d, hd⟩ := D
 go_enter func11, ntmps11
 go_wp2_with fail
 refine F1.out.mono ?_
 rintro _ w1 ⟨rfl, rfl⟩
 cases b1 with
 | false =>
  go_wp2_with fail
  go_ret
  exact ⟨_, rfl, fun h => (by cases h), HB0⟩
 | true =>
 go_wp2_with fail
 refine F2.out.mono ?_
 rintro _ w1 ⟨rfl, rfl⟩
 cases b2 with
 | false =>
  go_wp2_with fail
  go_ret
  exact ⟨_, rfl, fun h => (by cases h), HB0⟩
 | true =>
 go_wp2_with fail
 refine F3.out.mono ?_
 rintro _ w1 ⟨rfl, rfl⟩
 cases b3 with
 | false =>
  go_wp2_with fail
  go_ret
  exact ⟨_, rfl, fun h => (by cases h), HB0⟩
 | true =>
 go_wp2_with fail
 go_ret
 exact ⟨_, rfl, fun _ => HP.out (by first | trivial | rfl) (by first | trivial | rfl), HB0⟩
set_option maxHeartbeats 1000000 in
theorem small26_any (A : Option Addr) (c : Nat) (l : List RR) (w : World) (h : RRsR w A l) : Calls prog 4 #[.slice A l.length c] w (SmB (l.length ≤ 60 ∧ ∀ r ∈ l, lsum r.name ≤ 400 ∧ lsum r.tg ≤ 400) w) := by
 by_cases hbig : 60 < l.length
 case pos =>
  have hbig' : (60 : Int) < l.length := by omega
  go_enter func4, ntmps4
  go_wp2_with fail
  go_ret
  exact ⟨_, rfl, fun h => (by cases h), Below.refl _ _⟩
 have hbig' : ¬ (60 : Int) < l.length := by omega
 have HR := Lib.hid h
 clear h
 go_enter func4, ntmps4
 go_wp2_with fail
 go_loopw [3] (fun iv wr => ∃ k : Nat, k ≤ l.length ∧ iv = .int .i64 k ∧ Hid (∀ r ∈ l.take k, lsum r.name ≤ 400 ∧ lsum r.tg ≤ 400) ∧ Below w.heap.size w wr) (fun iv _ => l.length - (intOf iv).toNat)
 case atStart => exact ⟨0, Nat.zero_le _, rfl, Hh (fun r hr => by simp at hr), Below.refl _ _⟩
 obtain ⟨k, hk, rfl, HF, S⟩ := hrel
 by_cases hlt : k < l.length
 case pos =>
  have hlt' : (k : Int) < l.length := by omega
  obtain ⟨ba, oa, hAi, la, xa⟩ := HR.out (by omega)
  subst hAi
  obtain ⟨cs, hcs, hci⟩ := xa k hlt
  have hcs1 := range_below hcs S la
  have hcl : cs.length = 33 := hci.len
  have SM := Hh (fun V (hV : Below w.heap.size w V) => small13s_any cs l[k] V (by
   obtain ⟨An, cn, At, ct, Am, cm, h1, h2, h3, h4, h5, h6⟩ := hci
   exact ⟨An, cn, At, ct, Am, cm, h1, h2, h3.below hV, h4.below hV, h5.below hV, h6⟩))
  have HN : Hid ((lsum l[k].name ≤ 400 ∧ lsum l[k].tg ≤ 400) → ∀ r ∈ l.take (k + 1), lsum r.name ≤ 400 ∧ lsum r.tg ≤ 400) := Hh (fun h r hr => by
   rw [List.take_succ_eq_append_getElem hlt] at hr
   rcases List.mem_append.1 hr with hr | hr
   ·
    exact HF.out r hr
   ·
    rw [List.mem_singleton] at hr; rw [hr]; exact h)
  generalize l[k] = x at *
  obtain ⟨PX, hPX⟩ : ∃ PX, Hid ((lsum x.name ≤ 400 ∧ lsum x.tg ≤ 400) = PX) := ⟨_, Hh rfl⟩
  rw [hPX.out] at SM HN
  clear xa hcs hci HF hPX
  go_wp2_with (refine at_op (.load 45 (.tmp 15)) rfl ?_; go_must (refine wpList_ldR rfl 45 (.tmp 15) rfl ba (oa + k * 33) rfl cs hcs1 _ underlying45 rfl (by rw [hcl]; exact rrInfo) ?_))
  refine (SM.out _ S).mono ?_
  rintro _ w1 ⟨b, rfl, hb, b1⟩
  have S1 := below_then S S.size b1
  clear SM S b1 hcs1
  cases b with
  | false =>
   go_wp2_with fail
   go_ret
   exact ⟨_, rfl, fun h => (by cases h), S1⟩
  | true =>
   have HN2 := Hh (HN.out (hb rfl))
   clear HN hb
   go_wp2_with fail
   go_roundw
   case rel => exact ⟨k + 1, by omega, by go_num, HN2, S1⟩
   case measure => simp [intOf]; omega
 obtain rfl : k = l.length := by omega
 have hlt' : ¬ (l.length : Int) < l.length := by omega
 have HF2 : Hid (l.length ≤ 60 ∧ ∀ r ∈ l, lsum r.name ≤ 400 ∧ lsum r.tg ≤ 400) := Hh ⟨by omega, fun r hr => HF.out r (by rw [List.take_of_length_le (Nat.le_refl _)]; exact hr)⟩
 clear HF HR
 go_wp2_with fail
 go_ret
 exact ⟨_, rfl, fun _ => HF2.out, S⟩
end Go.Proofs.YtkcbffldncmbcaaGreatDoor

/-
  RdataBack: the walk.
-/
import Derived.Test.YtlmgdogblbigpaaLaw13
import Derived.Test.YtlmgdogblbigpaaGS
import Derived.Test.YtlmgdogblbigpaaGQ
namespace Go.Proofs.Ytlmgdogblbigpaa
open Go.RowKit
set_option maxRecDepth 100000
set_option linter.unusedVariables false
set_option linter.unusedSimpArgs false

/-- Behind a record. -/
def rbStep (st : WS) (r : RR) : WS := (st.1 ++ rputS st.2 st.1.length r, rputT st.2 st.1.length r)
structure RbOk (k : Nat) (st : WS) : Prop where
  len : st.1.length ≤ 20000 + 70000 * k
  few : fewO st.2 (508 * k)
  tab : TabOkO st.1 st.2
theorem RbOk.mono {k : Nat} {st : WS} (h : RbOk k st) : RbOk (k + 1) st := ⟨by have := h.len; omega, h.few.mono (by omega), h.tab⟩
theorem RbOk.step {k : Nat} {st : WS} {r : RR} (h : RbOk k st) (hw : r.wf) (hc : checkR r = 0) : RbOk (k + 1) (st.1 ++ dataR st.2 st.1.length r, tabR st.2 st.1.length r) := by
  refine ⟨?_, ?_, (getR_back st.1 st.2 r hw hc h.tab).2⟩
  · have h1 := dataR_len hw hc st.2 st.1.length
    have h2 := h.len
    simp only [List.length_append]; omega
  · have h1 := h.few
    show fewO (tabR st.2 st.1.length r) _
    unfold tabR
    split
    · exact (h1.put _ _).mono (by omega)
    split
    · exact ((h1.put _ _).put _ _).mono (by omega)
    · exact h1.mono (by omega)
theorem rris_wf {w : World} {cs : List Value} {r : RR} (h : RRis w cs r) : r.wf := by obtain ⟨_, _, _, _, _, _, _, hr, _⟩ := h; exact hr
set_option maxHeartbeats 4000000 in
theorem rdataBack_any (first : List UInt8) (A : Option Addr) (c : Nat) (l : List RR) (w : World) (hR : RRsR w A l) (hll : l.length ≤ 17592186044416) (hfl : first.length ≤ maxLen) :
    Calls Try.prog 12 #[.string (bs first), .slice A l.length c] w (RetB (.bool true) w) := by
  by_cases hf : 20000 < first.length
  case pos =>
    have hf' : (20000 : Int) < first.length := by omega
    clear hf
    go_enter Try.func12, Try.ntmps12
    go_wp2_with fail
    refine (works13_any _).mono ?_
    rintro _ w1 ⟨rfl, b1⟩
    go_wp2_with fail
    refine (works13_any _).mono ?_
    rintro _ w2 ⟨rfl, b2⟩
    have HB2 := below_then b1 b1.size b2
    go_wp2_with fail
    go_ret
    exact RetB.mk rfl HB2
  have hf' : ¬ (20000 : Int) < first.length := by omega
  by_cases hl : 20 < l.length
  case pos =>
    have hl' : (20 : Int) < l.length := by omega
    clear hl hf
    go_enter Try.func12, Try.ntmps12
    go_wp2_with fail
    refine (works13_any _).mono ?_
    rintro _ w1 ⟨rfl, b1⟩
    go_wp2_with fail
    refine (works13_any _).mono ?_
    rintro _ w2 ⟨rfl, b2⟩
    have HB2 := below_then b1 b1.size b2
    go_wp2_with fail
    go_ret
    exact RetB.mk rfl HB2
  have hl' : ¬ (20 : Int) < l.length := by omega
  have I0 : RbOk 0 (first, some []) := ⟨by simp only; omega, fun T' e => by cases e; simp, fun T' e => by cases e; exact tabOk_nil _⟩
  have HF := Lib.hid (show first.length ≤ 20000 by omega)
  have HL := Lib.hid (show l.length ≤ 20 by omega)
  clear hf hl hll hfl
  go_enter Try.func12, Try.ntmps12
  go_wp2_with fail
  refine (works13_any _).mono ?_
  rintro _ w1 ⟨rfl, b1⟩
  go_wp2_with fail
  refine (pnew_any _).mono ?_
  rintro _ w2 ⟨g, b, rfl, hT, k2, hg, hbb⟩
  have b2 := below_then b1 b1.size k2
  have T0 : TabO w.heap.size w2 (some ⟨g, 0, none⟩) (some []) := ⟨g, b, rfl, Nat.le_trans b1.size hg, Nat.le_trans b1.size hbb, hT⟩
  clear b1 k2 hT hg hbb hf' hl'
  generalize (some (⟨g, 0, none⟩ : Addr)) = p at *
  have hll : l.length ≤ 20 := HL.out
  go_wp2_with fail
  go_loopw [6, 7] (fun sv iv wr => ∃ (k : Nat) (st : WS), k ≤ l.length ∧ iv = .int .i64 k ∧ sv = .string (bs st.1) ∧ RbOk k st ∧ TabO w.heap.size wr p st.2 ∧ Below w.heap.size w wr) (fun _ iv _ => l.length - (intOf iv).toNat)
  case atStart => exact ⟨0, (first, some []), Nat.zero_le _, rfl, rfl, I0, T0, b2⟩
  clear I0 T0 b2 HF HL
  obtain ⟨k, st, hk, rfl, rfl, Ir, Tr, br⟩ := hrel
  by_cases hlt : k < l.length
  case neg =>
    obtain rfl : k = l.length := by omega
    have hlt' : ¬ (l.length : Int) < l.length := by omega
    clear hlt hk Ir
    go_wp2_with fail
    go_ret
    exact RetB.mk rfl br
  have hlt' : (k : Int) < l.length := by omega
  obtain ⟨ba, oa, hA, hba, hel⟩ := hR (by omega)
  subst hA
  obtain ⟨ck, hrg, hRR⟩ := hel k hlt
  have ckl := hRR.len
  have hwf := rris_wf hRR
  have SM := Lib.hid (fun w' (b : Below w.heap.size w w') => small13_any ck l[k] w' (hRR.below b))
  have hRk := range_below hrg br hba
  generalize hr : l[k]'hlt = r at *
  clear hr hel hR
  go_wp2_with (refine at_op (.load 86 (.tmp 35)) rfl ?_; go_must (refine wpList_ldR rfl 86 (.tmp 35) rfl ba (oa + k * 33) rfl ck hRk _ Try.underlying86 rfl (by rw [ckl]; exact rrInfo) ?_))
  refine (SM.out _ br).mono ?_
  rintro _ w4 ⟨sb, rfl, k4⟩
  have b4 := below_then br br.size k4
  have T4 := Tr.below k4
  have hR4 := range_below hrg b4 hba
  clear SM hRk Tr k4 br
  cases sb with
  | false =>
    go_wp2_with fail
    go_ret
    exact RetB.mk rfl b4
  | true =>
  have hlen := Ir.len
  have PU := Lib.hid (rput_any w.heap.size ck r st.1.length p st.2 w w4 hRR (Nat.le_refl _) b4 b4.size T4 (Ir.few.mono (by omega)) (by omega) (by omega))
  go_wp2_with (refine at_op (.load 86 (.tmp 42)) rfl ?_; go_must (refine wpList_ldR rfl 86 (.tmp 42) rfl ba (oa + k * 33) rfl ck hR4 _ Try.underlying86 rfl (by rw [ckl]; exact rrInfo) ?_))
  refine PU.out.mono ?_
  rintro _ w5 ⟨rfl, T5, K5⟩
  have b5 := b4.trans K5.1
  clear PU hR4 T4 b4 K5
  by_cases hc : checkR r = 0
  case neg =>
    have hcz : (checkR r != 0) = true := by simpa using hc
    unfold rputT at T5
    rw [if_neg hc] at T5
    have I2 := Ir.mono
    generalize checkR r = e at *
    clear hc hlen Ir
    go_wp2_with fail
    go_roundw
    case rel => exact ⟨k + 1, st, by omega, by go_num, rfl, I2, T5, b5⟩
    case measure => simp [intOf]; omega
  have I2 := Lib.hid (Ir.step hwf hc)
  have GB := (getR_back st.1 st.2 r hwf hc Ir.tab).1
  have hdl := dataR_len hwf hc st.2 st.1.length
  unfold rputT at T5
  rw [if_pos hc] at T5
  have RS : Hid (rputS st.2 st.1.length r = dataR st.2 st.1.length r) := Lib.hid (by unfold rputS; rw [if_pos hc])
  rw [RS.out, hc]
  obtain ⟨D, hD⟩ : ∃ D, D = dataR st.2 st.1.length r := ⟨_, rfl⟩
  rw [← hD] at I2 GB hdl ⊢
  have GG : Hid (∀ w', Calls Try.prog 52 #[.string (bs (st.1 ++ D)), .int .i64 (st.1.length : Int), .int .i64 (D.length : Int), .int .i64 r.ty, .int .i64 r.cl] w' (GetR (.ok (onlyD r)) w')) := Lib.hid (fun w' => by
    have := rget_any (st.1 ++ D) st.1.length D.length r.ty r.cl w' (by simp) (by simp; omega)
    rw [GB] at this
    exact this)
  have hsd : st.1.length + D.length ≤ 9223372036854775807 := by omega
  clear GB RS hD hlen Ir hc
  have hR5 := range_below hrg b5 hba
  obtain ⟨An, cn, At, ct, Am, cm, hcs, _, hN, hTg, hMl, hraw⟩ := hRR
  have L0 : ck[0]? = some (.slice An r.name.length cn) := by rw [hcs]; rfl
  have L1 : ck[1]? = some (.int .i64 r.ty) := by rw [hcs]; rfl
  have L2 : ck[2]? = some (.int .i64 r.cl) := by rw [hcs]; rfl
  have L3 : ck[3]? = some (.int .i64 r.ttl) := by rw [hcs]; rfl
  have c1 := hR5 1 _ L1
  have c2 := hR5 2 _ L2
  generalize hs : st.1 = s at *
  have HS := Lib.hid hs
  clear hs
  go_wp2_with fail
  refine wp_region_held_drew (S := fun W => W.cell? ⟨ba, oa + k * 33 + 1, none⟩ = some (.int .i64 r.ty) ∧ W.cell? ⟨ba, oa + k * 33 + 2, none⟩ = some (.int .i64 r.cl)) (by kernel_rfl) ⟨c1, c2⟩ (fun hS => ?_)
  (refine held_val 0 (some 53) rfl rfl (by kernel_rfl) (by kernel_rfl) (by kernel_rfl) (fun _ _ _ h => h) (by kernel_rfl) (fun W hW => rfl) hS ?_; simp only [Act.put, List.setIfInBounds_toArray, List.set_cons_zero, List.set_cons_succ])
  (refine held_val 1 (some 54) rfl rfl (by kernel_rfl) (by kernel_rfl) (by kernel_rfl) (fun _ _ _ h => h) (by kernel_rfl) (fun W hW => rfl) hS ?_; simp only [Act.put, List.setIfInBounds_toArray, List.set_cons_zero, List.set_cons_succ])
  refine held_val 2 (some 55) (v := .string (bs (s ++ D))) rfl rfl (by kernel_rfl) (by kernel_rfl) (by kernel_rfl) (fun _ _ _ h => h) (by kernel_rfl) (fun W hW => by go_simp) hS ?_
  simp only [Act.put, List.setIfInBounds_toArray, List.set_cons_zero, List.set_cons_succ]
  (refine held_val 3 (some 56) rfl rfl (by kernel_rfl) (by kernel_rfl) (by kernel_rfl) (fun _ _ _ h => h) (by kernel_rfl) (fun W hW => rfl) hS ?_; simp only [Act.put, List.setIfInBounds_toArray, List.set_cons_zero, List.set_cons_succ])
  refine held_val 4 (some 57) (v := .int .i64 (s.length : Int)) rfl rfl (by kernel_rfl) (by kernel_rfl) (by kernel_rfl) (fun _ _ _ h => h) (by kernel_rfl) (fun W hW => by go_simp) hS ?_
  simp only [Act.put, List.setIfInBounds_toArray, List.set_cons_zero, List.set_cons_succ]
  (refine held_val 5 (some 58) rfl rfl (by kernel_rfl) (by kernel_rfl) (by kernel_rfl) (fun _ _ _ h => h) (by kernel_rfl) (fun W hW => rfl) hS ?_; simp only [Act.put, List.setIfInBounds_toArray, List.set_cons_zero, List.set_cons_succ])
  refine held_val 6 (some 59) (v := .int .i64 (D.length : Int)) rfl rfl (by kernel_rfl) (by kernel_rfl) (by kernel_rfl) (fun _ _ _ h => h) (by kernel_rfl) (fun W hW => by go_simp) hS ?_
  simp only [Act.put, List.setIfInBounds_toArray, List.set_cons_zero, List.set_cons_succ]
  (refine held_val 7 (some 60) rfl rfl (by kernel_rfl) (by kernel_rfl) (by kernel_rfl) (fun _ _ _ h => h) (by kernel_rfl) (fun W hW => rfl) hS ?_; simp only [Act.put, List.setIfInBounds_toArray, List.set_cons_zero, List.set_cons_succ])
  (refine held_val 8 (some 61) rfl rfl (by kernel_rfl) (by kernel_rfl) (by kernel_rfl) (fun _ _ _ h => h) (by kernel_rfl) (fun W hW => rfl) hS ?_; simp only [Act.put, List.setIfInBounds_toArray, List.set_cons_zero, List.set_cons_succ])
  refine held_val 9 (some 62) (v := .pointer (some ⟨ba, oa + k * 33, none⟩)) rfl rfl (by kernel_rfl) (by kernel_rfl) (by kernel_rfl) (fun _ _ _ h => h) (by kernel_rfl) (fun W hW => by go_simp) hS ?_
  simp only [Act.put, List.setIfInBounds_toArray, List.set_cons_zero, List.set_cons_succ]
  (refine held_val 10 (some 63) rfl rfl (by kernel_rfl) (by kernel_rfl) (by kernel_rfl) (fun _ _ _ h => h) (by kernel_rfl) (fun W hW => rfl) hS ?_; simp only [Act.put, List.setIfInBounds_toArray, List.set_cons_zero, List.set_cons_succ])
  refine held_ld 11 (some 64) 3 (.tmp 63) ⟨ba, oa + k * 33 + 1, none⟩ rfl rfl rfl rfl (by kernel_rfl) (by kernel_rfl) (by kernel_rfl) (fun _ _ _ h => h) (by kernel_rfl) (fun W hW => run_load1 Try.underlying3 rfl hW.1) hS ?_
  simp only [Act.put, List.setIfInBounds_toArray, List.set_cons_zero, List.set_cons_succ]
  (refine held_val 12 (some 65) rfl rfl (by kernel_rfl) (by kernel_rfl) (by kernel_rfl) (fun _ _ _ h => h) (by kernel_rfl) (fun W hW => rfl) hS ?_; simp only [Act.put, List.setIfInBounds_toArray, List.set_cons_zero, List.set_cons_succ])
  (refine held_val 13 (some 66) rfl rfl (by kernel_rfl) (by kernel_rfl) (by kernel_rfl) (fun _ _ _ h => h) (by kernel_rfl) (fun W hW => rfl) hS ?_; simp only [Act.put, List.setIfInBounds_toArray, List.set_cons_zero, List.set_cons_succ])
  refine held_val 14 (some 67) (v := .pointer (some ⟨ba, oa + k * 33, none⟩)) rfl rfl (by kernel_rfl) (by kernel_rfl) (by kernel_rfl) (fun _ _ _ h => h) (by kernel_rfl) (fun W hW => by go_simp) hS ?_
  simp only [Act.put, List.setIfInBounds_toArray, List.set_cons_zero, List.set_cons_succ]
  (refine held_val 15 (some 68) rfl rfl (by kernel_rfl) (by kernel_rfl) (by kernel_rfl) (fun _ _ _ h => h) (by kernel_rfl) (fun W hW => rfl) hS ?_; simp only [Act.put, List.setIfInBounds_toArray, List.set_cons_zero, List.set_cons_succ])
  refine held_ld 16 (some 69) 3 (.tmp 68) ⟨ba, oa + k * 33 + 2, none⟩ rfl rfl rfl rfl (by kernel_rfl) (by kernel_rfl) (by kernel_rfl) (fun _ _ _ h => h) (by kernel_rfl) (fun W hW => run_load1 Try.underlying3 rfl hW.2) hS ?_
  simp only [Act.put, List.setIfInBounds_toArray, List.set_cons_zero, List.set_cons_succ]
  have HD : Below w5.heap.size w5 w5.drew := (Below.refl _ _).drew
  refine ord_two 17 21 (by kernel_rfl) ?_ ?_
  · refine opw_call 17 (some 70) 52 #[.string (bs (s ++ D)), .int .i64 (s.length : Int), .int .i64 (D.length : Int), .int .i64 r.ty, .int .i64 r.cl] rfl rfl (by kernel_rfl) (by go_simp) (GG.out _) ?_
    rintro _ wa ⟨cs, rfl, hOa, ka'⟩
    have ka := below_then HD (Nat.le_refl _) ka'
    have ba' := below_then b5 b5.size ka
    have hRa := range_below hrg ba' hba
    replace hS : wa.cell? ⟨ba, oa + k * 33 + 1, none⟩ = some (.int .i64 r.ty) ∧ wa.cell? ⟨ba, oa + k * 33 + 2, none⟩ = some (.int .i64 r.cl) := ⟨hRa 1 _ L1, hRa 2 _ L2⟩
    refine ⟨_, rfl, hS, ?_⟩
    simp only [Act.put, List.setIfInBounds_toArray, List.set_cons_zero, List.set_cons_succ]
    (refine held_val 18 (some 52) rfl rfl (by kernel_rfl) (by kernel_rfl) (by kernel_rfl) (fun _ _ _ h => h) (by kernel_rfl) (fun W hW => rfl) hS ?_; simp only [Act.put, List.setIfInBounds_toArray, List.set_cons_zero, List.set_cons_succ])
    (refine held_val 19 (some 71) rfl rfl (by kernel_rfl) (by kernel_rfl) (by kernel_rfl) (fun _ _ _ h => h) (by kernel_rfl) (fun W hW => rfl) hS ?_; simp only [Act.put, List.setIfInBounds_toArray, List.set_cons_zero, List.set_cons_succ])
    (refine held_val 20 (some 72) rfl rfl (by kernel_rfl) (by kernel_rfl) (by kernel_rfl) (fun _ _ _ h => h) (by kernel_rfl) (fun W hW => rfl) hS ?_; simp only [Act.put, List.setIfInBounds_toArray, List.set_cons_zero, List.set_cons_succ])
    refine ord_one 21 (by kernel_rfl) ?_
    have kn : Below wa.heap.size wa (wa.alloc (.cells rrZ.toArray 86)) := (Below.refl _ _).alloc (Nat.le_refl _) _
    have k6 := below_then ka ka.size kn
    have hO := hOa.stays (Stays.below kn)
    have B10 := Blk.new wa 86 rrZ
    have hg10 : w5.heap.size ≤ wa.heap.size := ka.size
    refine opw_run 21 (some 10) (v := .pointer (some ⟨wa.heap.size, 0, none⟩)) (w' := wa.alloc (.cells rrZ.toArray 86)) rfl rfl (by kernel_rfl) (by kernel_rfl) ?_
    generalize wa.alloc (.cells rrZ.toArray 86) = w6 at *
    generalize wa.heap.size = g10 at *
    clear ka ka' ba' hRa hOa kn hS
    have b6 := below_then b5 b5.size k6
    have hR6 := range_below hrg b6 hba
    have hS : w6.cell? ⟨ba, oa + k * 33 + 1, none⟩ = some (.int .i64 r.ty) ∧ w6.cell? ⟨ba, oa + k * 33 + 2, none⟩ = some (.int .i64 r.cl) := ⟨hR6 1 _ L1, hR6 2 _ L2⟩
    refine ⟨hS, ?_⟩
    simp only [Act.put, List.setIfInBounds_toArray, List.set_cons_zero, List.set_cons_succ]
    have hcl := hO.len
    have hc1 := Lib.hid hO.one
    refine held_stB 22 none 86 (.tmp 10) (.tmp 71) (by kernel_rfl) rfl rfl rfl (by kernel_rfl) g10 0 rfl cs rfl B10 (by rw [rrZ_len]; omega) (by rw [hcl]; exact rrInfo) hc1.out ?_
    intro w7 B7 g7 _
    rw [whole_of (by rw [rrZ_len]; omega)] at B7
    have k7 : Below w5.heap.size w5 w7 := below_grown k6 g7 k6.size hg10
    have b7 := below_then b5 b5.size k7
    have hR7 := range_below hrg b7 hba
    have O7 := hO.stays (Stays.blk g7 B10 (by decide))
    have hS : w7.cell? ⟨ba, oa + k * 33 + 1, none⟩ = some (.int .i64 r.ty) ∧ w7.cell? ⟨ba, oa + k * 33 + 2, none⟩ = some (.int .i64 r.cl) := ⟨hR7 1 _ L1, hR7 2 _ L2⟩
    refine ⟨hS, ?_⟩
    simp only [Act.put, List.setIfInBounds_toArray, List.set_cons_zero, List.set_cons_succ]
    (refine held_val 23 (some 11) rfl rfl (by kernel_rfl) (by kernel_rfl) (by kernel_rfl) (fun _ _ _ h => h) (by kernel_rfl) (fun W hW => rfl) hS ?_; simp only [Act.put, List.setIfInBounds_toArray, List.set_cons_zero, List.set_cons_succ])
    refine wpAnyH_done (by kernel_rfl) ?_ _
    clear hS B10 g7 k6 hO hc1 GG HD c1 c2 hR5
    have d0 : w7.cell? ⟨ba, oa + k * 33, none⟩ = some (.slice An r.name.length cn) := hR7 0 _ L0
    obtain ⟨vn, vt, vm, hcs', hwf', n1, n2, n3, hraw'⟩ := O7
    have HCS := Lib.hid hcs'
    clear hcs'
    go_wp2_with (refine at_op (.store 24 (.tmp 78) (.tmp 77)) rfl ?_; go_must (refine wpList_stC rfl 24 (.tmp 78) (.tmp 77) rfl g10 0 rfl (.slice An r.name.length cn) rfl B7 (by omega) nameInfo1 rfl rfl ?_))
    intro w8 B8 g8 _
    obtain ⟨M8, hM8⟩ : ∃ M, M = cs.set 0 (.slice An r.name.length cn) := ⟨_, rfl⟩
    rw [← hM8] at B8
    have lM8 : M8.length = 33 := by rw [hM8, List.length_set]; exact hcl
    have HM8 := Lib.hid hM8
    clear hM8
    have k8 := below_grown k7 g8 k7.size hg10
    have b8 := below_then b5 b5.size k8
    replace n2 := n2.stays (Stays.blk g8 B7 (by decide))
    replace n3 := n3.stays (Stays.blk g8 B7 (by decide))
    have d1 : w8.cell? ⟨ba, oa + k * 33 + 1, none⟩ = some (.int .i64 r.ty) := range_below hrg b8 hba 1 _ L1
    clear d0 B7 g8 k7 b7 hR7
    go_wp2_with (refine at_op (.store 3 (.tmp 84) (.tmp 83)) rfl ?_; go_must (refine wpList_stC rfl 3 (.tmp 84) (.tmp 83) rfl g10 1 rfl (.int .i64 r.ty) rfl B8 (by omega) intInfo1 rfl rfl ?_))
    intro w9 B9 g9 _
    obtain ⟨M9, hM9⟩ : ∃ M, M = M8.set 1 (.int .i64 r.ty) := ⟨_, rfl⟩
    rw [← hM9] at B9
    have lM9 : M9.length = 33 := by rw [hM9, List.length_set]; exact lM8
    have HM9 := Lib.hid hM9
    clear hM9
    have k9 := below_grown k8 g9 k8.size hg10
    have b9 := below_then b5 b5.size k9
    replace n2 := n2.stays (Stays.blk g9 B8 (by decide))
    replace n3 := n3.stays (Stays.blk g9 B8 (by decide))
    have d2 : w9.cell? ⟨ba, oa + k * 33 + 2, none⟩ = some (.int .i64 r.cl) := range_below hrg b9 hba 2 _ L2
    clear d1 B8 g9 k8 b8
    go_wp2_with (refine at_op (.store 3 (.tmp 90) (.tmp 89)) rfl ?_; go_must (refine wpList_stC rfl 3 (.tmp 90) (.tmp 89) rfl g10 2 rfl (.int .i64 r.cl) rfl B9 (by omega) intInfo1 rfl rfl ?_))
    intro wx Bx gx _
    obtain ⟨Mx, hMx⟩ : ∃ M, M = M9.set 2 (.int .i64 r.cl) := ⟨_, rfl⟩
    rw [← hMx] at Bx
    have lMx : Mx.length = 33 := by rw [hMx, List.length_set]; exact lM9
    have HMx := Lib.hid hMx
    clear hMx
    have kx := below_grown k9 gx k9.size hg10
    have bx := below_then b5 b5.size kx
    replace n2 := n2.stays (Stays.blk gx B9 (by decide))
    replace n3 := n3.stays (Stays.blk gx B9 (by decide))
    have d3 : wx.cell? ⟨ba, oa + k * 33 + 3, none⟩ = some (.int .i64 r.ttl) := range_below hrg bx hba 3 _ L3
    clear d2 B9 gx k9 b9
    go_wp2_with (refine at_op (.store 3 (.tmp 96) (.tmp 95)) rfl ?_; go_must (refine wpList_stC rfl 3 (.tmp 96) (.tmp 95) rfl g10 3 rfl (.int .i64 r.ttl) rfl Bx (by omega) intInfo1 rfl rfl ?_))
    intro wy By gy _
    have ky := below_grown kx gy kx.size hg10
    have by' := below_then b5 b5.size ky
    replace n2 := n2.stays (Stays.blk gy Bx (by decide))
    replace n3 := n3.stays (Stays.blk gy Bx (by decide))
    have hRy := range_below hrg by' hba
    clear d3 Bx gy kx bx
    obtain ⟨LL, hLL⟩ : ∃ LL, LL = Mx.set 3 (.int .i64 r.ttl) := ⟨_, rfl⟩
    rw [← hLL] at By
    replace hLL : LL = rrC (.slice An r.name.length cn) vt vm r := by rw [hLL, HMx.out, HM9.out, HM8.out, HCS.out]; rfl
    have hll2 : LL.length = 33 := rget_len hLL hwf
    obtain ⟨At', ct', rfl, n2'⟩ := n2.form
    obtain ⟨Am', cm', rfl, n3'⟩ := n3.form
    have RL : RRis wy LL r := ⟨An, cn, At', ct', Am', cm', hLL, hwf, hN.below by', n2', n3', hraw⟩
    have RK : RRis wy ck r := ⟨An, cn, At, ct, Am, cm, hcs, hwf, hN.below by', hTg.below by', hMl.below by', hraw⟩
    have SA := Lib.hid (fun w' (q : Below wy.heap.size wy w') => same13_any LL ck r r w' (RL.below q) (RK.below q))
    rw [show decide (r = r) = true from decide_eq_true rfl] at SA
    clear hLL HCS hwf' n1 n2 n3 n2' n3' hraw' hcl RL RK L0 L1 L2 L3 hcs hTg hMl hraw hN
    go_wp2_with fail
    refine wp_region_old (by kernel_rfl) (by kernel_rfl) ?_
    (refine wpQuiet_val (v := (.int .i64 0)) rfl (fun W hW => by first | (go_simp; done) | (go_simp; omega)) ?_; simp only [Act.put, List.setIfInBounds_toArray, List.set_cons_zero, List.set_cons_succ])
    (refine wpQuiet_val (v := (.bool false)) rfl (fun W hW => by first | (go_simp; done) | (go_simp; omega)) ?_; simp only [Act.put, List.setIfInBounds_toArray, List.set_cons_zero, List.set_cons_succ])
    (refine wpQuiet_val (v := (.bool false)) rfl (fun W hW => by first | (go_simp; done) | (go_simp; omega)) ?_; simp only [Act.put, List.setIfInBounds_toArray, List.set_cons_zero, List.set_cons_succ])
    refine wpQuiet_ld 86 (.tmp 10) rfl ⟨g10, 0, none⟩ rfl rfl (fun W hW => (By.below hW By.lt).loads 86 0 33 (by omega) _ Try.underlying86 rfl rrInfo LL (by rw [List.drop_zero, List.take_of_length_le (by omega)])) ?_
    simp only [Act.put, List.setIfInBounds_toArray, List.set_cons_zero, List.set_cons_succ]
    (refine wpQuiet_val (v := (.slice (some ⟨ba, oa, none⟩) l.length c)) rfl (fun W hW => by first | (go_simp; done) | (go_simp; omega)) ?_; simp only [Act.put, List.setIfInBounds_toArray, List.set_cons_zero, List.set_cons_succ])
    (refine wpQuiet_val (v := (.int .i64 k)) rfl (fun W hW => by first | (go_simp; done) | (go_simp; omega)) ?_; simp only [Act.put, List.setIfInBounds_toArray, List.set_cons_zero, List.set_cons_succ])
    (refine wpQuiet_val (v := (.pointer (some ⟨ba, oa + k * 33, none⟩))) rfl (fun W hW => by first | (go_simp; done) | (go_simp; omega)) ?_; simp only [Act.put, List.setIfInBounds_toArray, List.set_cons_zero, List.set_cons_succ])
    refine wpQuiet_ld 86 (.tmp 103) rfl ⟨ba, oa + k * 33, none⟩ rfl rfl (fun W hW => run_loadAt_mid W ba (oa + k * 33) 86 ck _ (range_below hRy hW (Nat.lt_of_lt_of_le hba by'.size)) Try.underlying86 rfl (by rw [ckl]; exact rrInfo)) ?_
    simp only [Act.put, List.setIfInBounds_toArray, List.set_cons_zero, List.set_cons_succ]
    refine wpQuiet_call 53 #[.agg LL.toArray, .agg ck.toArray] rfl (fun W => by go_simp) (fun W hW => RetB.old hW (SA.out W hW)) ?_
    simp only [Act.put, List.setIfInBounds_toArray, List.set_cons_zero, List.set_cons_succ]
    (refine wpQuiet_val (v := (.bool false)) rfl (fun W hW => by first | (go_simp; done) | (go_simp; omega)) ?_; simp only [Act.put, List.setIfInBounds_toArray, List.set_cons_zero, List.set_cons_succ])
    (refine wpQuiet_val (v := (.bool false)) rfl (fun W hW => by first | (go_simp; done) | (go_simp; omega)) ?_; simp only [Act.put, List.setIfInBounds_toArray, List.set_cons_zero, List.set_cons_succ])
    refine wpQuiet_nil ?_
    intro wz hBz
    have kz := below_then ky ky.size hBz
    have T9 := T5.below kz
    have bz := below_then b5 b5.size kz
    clear By hRy SA hBz ky by' kz T5
    go_wp2_with fail
    go_roundw
    case rel => exact ⟨k + 1, _, by omega, by go_num, rfl, I2.out, T9, bz⟩
    case measure => simp [intOf]; omega
  · refine opw_run 21 (some 10) (v := .pointer (some ⟨w5.heap.size, 0, none⟩)) (w' := w5.drew.alloc (.cells rrZ.toArray 86)) rfl rfl (by kernel_rfl) (by kernel_rfl) ?_
    have kn : Below w5.heap.size w5 (w5.drew.alloc (.cells rrZ.toArray 86)) := HD.alloc (Nat.le_refl _) _
    have Bn : Blk (w5.drew.alloc (.cells rrZ.toArray 86)) w5.heap.size 86 rrZ := Blk.new' w5.drew 86 rrZ _ rfl
    have bn := below_then b5 b5.size kn
    have hRn := range_below hrg bn hba
    have hgl := kn.size
    generalize w5.drew.alloc (.cells rrZ.toArray 86) = wn at *
    replace hS : wn.cell? ⟨ba, oa + k * 33 + 1, none⟩ = some (.int .i64 r.ty) ∧ wn.cell? ⟨ba, oa + k * 33 + 2, none⟩ = some (.int .i64 r.cl) := ⟨hRn 1 _ L1, hRn 2 _ L2⟩
    refine ⟨hS, ?_⟩
    simp only [Act.put, List.setIfInBounds_toArray, List.set_cons_zero, List.set_cons_succ]
    refine ord_one 17 (by kernel_rfl) ?_
    refine opw_call 17 (some 70) 52 #[.string (bs (s ++ D)), .int .i64 (s.length : Int), .int .i64 (D.length : Int), .int .i64 r.ty, .int .i64 r.cl] rfl rfl (by kernel_rfl) (by go_simp) (GG.out _) ?_
    rintro _ w6 ⟨cs, rfl, hO, ka'⟩
    have k6 := below_then kn hgl ka'
    have B10 := Bn.below ka' Bn.lt
    have b6' := below_then b5 b5.size k6
    have hRa := range_below hrg b6' hba
    replace hS : w6.cell? ⟨ba, oa + k * 33 + 1, none⟩ = some (.int .i64 r.ty) ∧ w6.cell? ⟨ba, oa + k * 33 + 2, none⟩ = some (.int .i64 r.cl) := ⟨hRa 1 _ L1, hRa 2 _ L2⟩
    have hg10 : w5.heap.size ≤ w5.heap.size := Nat.le_refl _
    refine ⟨_, rfl, hS, ?_⟩
    simp only [Act.put, List.setIfInBounds_toArray, List.set_cons_zero, List.set_cons_succ]
    (refine held_val 18 (some 52) rfl rfl (by kernel_rfl) (by kernel_rfl) (by kernel_rfl) (fun _ _ _ h => h) (by kernel_rfl) (fun W hW => rfl) hS ?_; simp only [Act.put, List.setIfInBounds_toArray, List.set_cons_zero, List.set_cons_succ])
    (refine held_val 19 (some 71) rfl rfl (by kernel_rfl) (by kernel_rfl) (by kernel_rfl) (fun _ _ _ h => h) (by kernel_rfl) (fun W hW => rfl) hS ?_; simp only [Act.put, List.setIfInBounds_toArray, List.set_cons_zero, List.set_cons_succ])
    (refine held_val 20 (some 72) rfl rfl (by kernel_rfl) (by kernel_rfl) (by kernel_rfl) (fun _ _ _ h => h) (by kernel_rfl) (fun W hW => rfl) hS ?_; simp only [Act.put, List.setIfInBounds_toArray, List.set_cons_zero, List.set_cons_succ])
    obtain ⟨g10, hgg⟩ : ∃ g10, g10 = w5.heap.size := ⟨_, rfl⟩
    rw [← hgg] at B10 ⊢
    replace hg10 : w5.heap.size ≤ g10 := by omega
    clear hgg kn Bn bn hRn hgl ka' b6' hRa hS
    have hcl := hO.len
    have hc1 := Lib.hid hO.one
    refine held_stB 22 none 86 (.tmp 10) (.tmp 71) (by kernel_rfl) rfl rfl rfl (by kernel_rfl) g10 0 rfl cs rfl B10 (by rw [rrZ_len]; omega) (by rw [hcl]; exact rrInfo) hc1.out ?_
    intro w7 B7 g7 _
    rw [whole_of (by rw [rrZ_len]; omega)] at B7
    have k7 : Below w5.heap.size w5 w7 := below_grown k6 g7 k6.size hg10
    have b7 := below_then b5 b5.size k7
    have hR7 := range_below hrg b7 hba
    have O7 := hO.stays (Stays.blk g7 B10 (by decide))
    have hS : w7.cell? ⟨ba, oa + k * 33 + 1, none⟩ = some (.int .i64 r.ty) ∧ w7.cell? ⟨ba, oa + k * 33 + 2, none⟩ = some (.int .i64 r.cl) := ⟨hR7 1 _ L1, hR7 2 _ L2⟩
    refine ⟨hS, ?_⟩
    simp only [Act.put, List.setIfInBounds_toArray, List.set_cons_zero, List.set_cons_succ]
    (refine held_val 23 (some 11) rfl rfl (by kernel_rfl) (by kernel_rfl) (by kernel_rfl) (fun _ _ _ h => h) (by kernel_rfl) (fun W hW => rfl) hS ?_; simp only [Act.put, List.setIfInBounds_toArray, List.set_cons_zero, List.set_cons_succ])
    refine wpAnyH_done (by kernel_rfl) ?_ _
    clear hS B10 g7 k6 hO hc1 GG HD c1 c2 hR5
    have d0 : w7.cell? ⟨ba, oa + k * 33, none⟩ = some (.slice An r.name.length cn) := hR7 0 _ L0
    obtain ⟨vn, vt, vm, hcs', hwf', n1, n2, n3, hraw'⟩ := O7
    have HCS := Lib.hid hcs'
    clear hcs'
    go_wp2_with (refine at_op (.store 24 (.tmp 78) (.tmp 77)) rfl ?_; go_must (refine wpList_stC rfl 24 (.tmp 78) (.tmp 77) rfl g10 0 rfl (.slice An r.name.length cn) rfl B7 (by omega) nameInfo1 rfl rfl ?_))
    intro w8 B8 g8 _
    obtain ⟨M8, hM8⟩ : ∃ M, M = cs.set 0 (.slice An r.name.length cn) := ⟨_, rfl⟩
    rw [← hM8] at B8
    have lM8 : M8.length = 33 := by rw [hM8, List.length_set]; exact hcl
    have HM8 := Lib.hid hM8
    clear hM8
    have k8 := below_grown k7 g8 k7.size hg10
    have b8 := below_then b5 b5.size k8
    replace n2 := n2.stays (Stays.blk g8 B7 (by decide))
    replace n3 := n3.stays (Stays.blk g8 B7 (by decide))
    have d1 : w8.cell? ⟨ba, oa + k * 33 + 1, none⟩ = some (.int .i64 r.ty) := range_below hrg b8 hba 1 _ L1
    clear d0 B7 g8 k7 b7 hR7
    go_wp2_with (refine at_op (.store 3 (.tmp 84) (.tmp 83)) rfl ?_; go_must (refine wpList_stC rfl 3 (.tmp 84) (.tmp 83) rfl g10 1 rfl (.int .i64 r.ty) rfl B8 (by omega) intInfo1 rfl rfl ?_))
    intro w9 B9 g9 _
    obtain ⟨M9, hM9⟩ : ∃ M, M = M8.set 1 (.int .i64 r.ty) := ⟨_, rfl⟩
    rw [← hM9] at B9
    have lM9 : M9.length = 33 := by rw [hM9, List.length_set]; exact lM8
    have HM9 := Lib.hid hM9
    clear hM9
    have k9 := below_grown k8 g9 k8.size hg10
    have b9 := below_then b5 b5.size k9
    replace n2 := n2.stays (Stays.blk g9 B8 (by decide))
    replace n3 := n3.stays (Stays.blk g9 B8 (by decide))
    have d2 : w9.cell? ⟨ba, oa + k * 33 + 2, none⟩ = some (.int .i64 r.cl) := range_below hrg b9 hba 2 _ L2
    clear d1 B8 g9 k8 b8
    go_wp2_with (refine at_op (.store 3 (.tmp 90) (.tmp 89)) rfl ?_; go_must (refine wpList_stC rfl 3 (.tmp 90) (.tmp 89) rfl g10 2 rfl (.int .i64 r.cl) rfl B9 (by omega) intInfo1 rfl rfl ?_))
    intro wx Bx gx _
    obtain ⟨Mx, hMx⟩ : ∃ M, M = M9.set 2 (.int .i64 r.cl) := ⟨_, rfl⟩
    rw [← hMx] at Bx
    have lMx : Mx.length = 33 := by rw [hMx, List.length_set]; exact lM9
    have HMx := Lib.hid hMx
    clear hMx
    have kx := below_grown k9 gx k9.size hg10
    have bx := below_then b5 b5.size kx
    replace n2 := n2.stays (Stays.blk gx B9 (by decide))
    replace n3 := n3.stays (Stays.blk gx B9 (by decide))
    have d3 : wx.cell? ⟨ba, oa + k * 33 + 3, none⟩ = some (.int .i64 r.ttl) := range_below hrg bx hba 3 _ L3
    clear d2 B9 gx k9 b9
    go_wp2_with (refine at_op (.store 3 (.tmp 96) (.tmp 95)) rfl ?_; go_must (refine wpList_stC rfl 3 (.tmp 96) (.tmp 95) rfl g10 3 rfl (.int .i64 r.ttl) rfl Bx (by omega) intInfo1 rfl rfl ?_))
    intro wy By gy _
    have ky := below_grown kx gy kx.size hg10
    have by' := below_then b5 b5.size ky
    replace n2 := n2.stays (Stays.blk gy Bx (by decide))
    replace n3 := n3.stays (Stays.blk gy Bx (by decide))
    have hRy := range_below hrg by' hba
    clear d3 Bx gy kx bx
    obtain ⟨LL, hLL⟩ : ∃ LL, LL = Mx.set 3 (.int .i64 r.ttl) := ⟨_, rfl⟩
    rw [← hLL] at By
    replace hLL : LL = rrC (.slice An r.name.length cn) vt vm r := by rw [hLL, HMx.out, HM9.out, HM8.out, HCS.out]; rfl
    have hll2 : LL.length = 33 := rget_len hLL hwf
    obtain ⟨At', ct', rfl, n2'⟩ := n2.form
    obtain ⟨Am', cm', rfl, n3'⟩ := n3.form
    have RL : RRis wy LL r := ⟨An, cn, At', ct', Am', cm', hLL, hwf, hN.below by', n2', n3', hraw⟩
    have RK : RRis wy ck r := ⟨An, cn, At, ct, Am, cm, hcs, hwf, hN.below by', hTg.below by', hMl.below by', hraw⟩
    have SA := Lib.hid (fun w' (q : Below wy.heap.size wy w') => same13_any LL ck r r w' (RL.below q) (RK.below q))
    rw [show decide (r = r) = true from decide_eq_true rfl] at SA
    clear hLL HCS hwf' n1 n2 n3 n2' n3' hraw' hcl RL RK L0 L1 L2 L3 hcs hTg hMl hraw hN
    go_wp2_with fail
    refine wp_region_old (by kernel_rfl) (by kernel_rfl) ?_
    (refine wpQuiet_val (v := (.int .i64 0)) rfl (fun W hW => by first | (go_simp; done) | (go_simp; omega)) ?_; simp only [Act.put, List.setIfInBounds_toArray, List.set_cons_zero, List.set_cons_succ])
    (refine wpQuiet_val (v := (.bool false)) rfl (fun W hW => by first | (go_simp; done) | (go_simp; omega)) ?_; simp only [Act.put, List.setIfInBounds_toArray, List.set_cons_zero, List.set_cons_succ])
    (refine wpQuiet_val (v := (.bool false)) rfl (fun W hW => by first | (go_simp; done) | (go_simp; omega)) ?_; simp only [Act.put, List.setIfInBounds_toArray, List.set_cons_zero, List.set_cons_succ])
    refine wpQuiet_ld 86 (.tmp 10) rfl ⟨g10, 0, none⟩ rfl rfl (fun W hW => (By.below hW By.lt).loads 86 0 33 (by omega) _ Try.underlying86 rfl rrInfo LL (by rw [List.drop_zero, List.take_of_length_le (by omega)])) ?_
    simp only [Act.put, List.setIfInBounds_toArray, List.set_cons_zero, List.set_cons_succ]
    (refine wpQuiet_val (v := (.slice (some ⟨ba, oa, none⟩) l.length c)) rfl (fun W hW => by first | (go_simp; done) | (go_simp; omega)) ?_; simp only [Act.put, List.setIfInBounds_toArray, List.set_cons_zero, List.set_cons_succ])
    (refine wpQuiet_val (v := (.int .i64 k)) rfl (fun W hW => by first | (go_simp; done) | (go_simp; omega)) ?_; simp only [Act.put, List.setIfInBounds_toArray, List.set_cons_zero, List.set_cons_succ])
    (refine wpQuiet_val (v := (.pointer (some ⟨ba, oa + k * 33, none⟩))) rfl (fun W hW => by first | (go_simp; done) | (go_simp; omega)) ?_; simp only [Act.put, List.setIfInBounds_toArray, List.set_cons_zero, List.set_cons_succ])
    refine wpQuiet_ld 86 (.tmp 103) rfl ⟨ba, oa + k * 33, none⟩ rfl rfl (fun W hW => run_loadAt_mid W ba (oa + k * 33) 86 ck _ (range_below hRy hW (Nat.lt_of_lt_of_le hba by'.size)) Try.underlying86 rfl (by rw [ckl]; exact rrInfo)) ?_
    simp only [Act.put, List.setIfInBounds_toArray, List.set_cons_zero, List.set_cons_succ]
    refine wpQuiet_call 53 #[.agg LL.toArray, .agg ck.toArray] rfl (fun W => by go_simp) (fun W hW => RetB.old hW (SA.out W hW)) ?_
    simp only [Act.put, List.setIfInBounds_toArray, List.set_cons_zero, List.set_cons_succ]
    (refine wpQuiet_val (v := (.bool false)) rfl (fun W hW => by first | (go_simp; done) | (go_simp; omega)) ?_; simp only [Act.put, List.setIfInBounds_toArray, List.set_cons_zero, List.set_cons_succ])
    (refine wpQuiet_val (v := (.bool false)) rfl (fun W hW => by first | (go_simp; done) | (go_simp; omega)) ?_; simp only [Act.put, List.setIfInBounds_toArray, List.set_cons_zero, List.set_cons_succ])
    refine wpQuiet_nil ?_
    intro wz hBz
    have kz := below_then ky ky.size hBz
    have T9 := T5.below kz
    have bz := below_then b5 b5.size kz
    clear By hRy SA hBz ky by' kz T5
    go_wp2_with fail
    go_roundw
    case rel => exact ⟨k + 1, _, by omega, by go_num, rfl, I2.out, T9, bz⟩
    case measure => simp [intOf]; omega
end Go.Proofs.Ytlmgdogblbigpaa

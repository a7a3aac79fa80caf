/-
  The reference's layer 14: SameQuestion, SameRRs; heads held against each other.
-/
import Derived.Test.YtlmgdogblbigpaaGQ
import Derived.Test.YtlmgdogblbigpaaRd10
namespace Go.Proofs.Ytlmgdogblbigpaa
open Go.RowKit
set_option maxRecDepth 100000
set_option linter.unusedVariables false
set_option linter.unusedSimpArgs false

theorem q_eq_split (a b : Qn) : decide (a = b) = (decide (a.name = b.name) && ((a.ty == b.ty) && (a.cl == b.cl))) := by
  rw [Bool.eq_iff_iff]
  obtain ⟨a0, a1, a2⟩ := a
  obtain ⟨b0, b1, b2⟩ := b
  simp
set_option maxHeartbeats 1000000 in
theorem sameQ_any (An Bn : Option Addr) (cn dn : Nat) (a b : Qn) (w : World) (hA : NmR w An cn a.name) (hB : NmR w Bn dn b.name) :
    Calls Try.prog 83 #[.agg (qC (.slice An a.name.length cn) a).toArray, .agg (qC (.slice Bn b.name.length dn) b).toArray] w (RetB (.bool (decide (a = b))) w) := by
  rw [q_eq_split]
  have HB0 : Below w.heap.size w ((w.alloc (.cells #[.slice An a.name.length cn, .int .i64 a.ty, .int .i64 a.cl] 61)).alloc (.cells #[.slice Bn b.name.length dn, .int .i64 b.ty, .int .i64 b.cl] 61)) := ((Below.refl _ _).alloc (Nat.le_refl _) _).alloc (by simp) _
  have X := Lib.hid (exact_any An Bn a.name b.name cn dn _ (hA.below HB0).1 (hB.below HB0).1 (by have := hA.2.2.1; omega) (by have := hB.2.2.1; omega))
  have B1' := (Blk.new w 61 [.slice An a.name.length cn, .int .i64 a.ty, .int .i64 a.cl]).alloc (.cells #[.slice Bn b.name.length dn, .int .i64 b.ty, .int .i64 b.cl] 61)
  have B2' := Blk.new' (w.alloc (.cells #[.slice An a.name.length cn, .int .i64 a.ty, .int .i64 a.cl] 61)) 61 [.slice Bn b.name.length dn, .int .i64 b.ty, .int .i64 b.cl] (w.heap.size + 1) (by simp)
  unfold qC
  clear hA hB
  generalize decide (a.name = b.name) = q0 at *
  generalize a.name.length = n1 at *
  generalize b.name.length = n2 at *
  obtain ⟨q1, h1⟩ : ∃ q, Hid ((a.ty == b.ty) = q) := ⟨_, Lib.hid rfl⟩
  obtain ⟨q2, h2⟩ : ∃ q, Hid ((a.cl == b.cl) = q) := ⟨_, Lib.hid rfl⟩
  rw [h1.out, h2.out]
  generalize a.ty = ta at *
  generalize b.ty = tb at *
  generalize a.cl = la at *
  generalize b.cl = lb at *
  go_enter Try.func83, Try.ntmps83
  go_wp2_with fail
  refine X.out.mono ?_
  rintro _ w1 ⟨rfl, b1⟩
  have B1 := B1'.below b1 B1'.lt
  have B2 := B2'.below b1 B2'.lt
  have HB := below_then HB0 HB0.size b1
  clear X B1' B2' HB0 b1
  cases q0 with
  | false =>
    go_wp2_with fail
    go_ret
    exact RetB.mk rfl HB
  | true =>
  have a1 := B1.cell_ 1 rfl
  have b1 := B2.cell_ 1 rfl
  have k1 := h1.out
  cases q1 with
  | false =>
    go_wp2_with fail
    go_ret
    exact RetB.mk rfl HB
  | true =>
  have a2 := B1.cell_ 2 rfl
  have b2 := B2.cell_ 2 rfl
  have k2 := h2.out
  cases q2 with
  | false =>
    go_wp2_with fail
    go_ret
    exact RetB.mk rfl HB
  | true =>
    go_wp2_with fail
    go_ret
    exact RetB.mk rfl HB
theorem ne_at {α : Type} {a b : List α} {k : Nat} (h1 : k < a.length) (h2 : k < b.length) (h : a[k] ≠ b[k]) : a ≠ b := by
  intro e; subst e; exact h rfl
set_option maxHeartbeats 1000000 in
theorem sameRRs_any (A B : Option Addr) (ca cb : Nat) (la lb : List RR) (w : World) (hA : RRsR w A la) (hB : RRsR w B lb) (lla : la.length ≤ 17592186044416) (llb : lb.length ≤ 17592186044416) :
    Calls Try.prog 84 #[.slice A la.length ca, .slice B lb.length cb] w (RetB (.bool (decide (la = lb))) w) := by
  by_cases hl : la.length = lb.length
  case neg =>
    have hd : decide (la = lb) = false := decide_eq_false (fun h => hl (by rw [h]))
    have hl' : ((la.length : Int) != (lb.length : Int)) = true := by simp; omega
    rw [hd]
    clear hd hl hA hB
    go_enter Try.func84, Try.ntmps84
    go_wp2_with fail
    go_ret
    exact RetB.mk rfl (Below.refl _ _)
  have hl' : ((la.length : Int) != (lb.length : Int)) = false := by simp; omega
  obtain ⟨q, hq⟩ : ∃ q, Hid (decide (la = lb) = q) := ⟨_, Lib.hid rfl⟩
  rw [hq.out]
  go_enter Try.func84, Try.ntmps84
  go_wp2_with fail
  go_loopw [5] (fun iv wr => ∃ k : Nat, k ≤ la.length ∧ iv = .int .i64 k ∧ (∀ i (h1 : i < la.length) (h2 : i < lb.length), i < k → la[i] = lb[i]) ∧ Below w.heap.size w wr) (fun iv _ => la.length - (intOf iv).toNat)
  case atStart => exact ⟨0, Nat.zero_le _, rfl, fun i _ _ h => absurd h (by omega), Below.refl _ _⟩
  obtain ⟨k, hk, rfl, he, hb⟩ := hrel
  have HE := Lib.hid he
  clear he
  by_cases hlt : k < la.length
  case pos =>
    have hlt' : (k : Int) < la.length := by omega
    have hlb : k < lb.length := by omega
    have hlb' : (k : Int) < lb.length := by omega
    obtain ⟨ba, oa, eA, hba, hel⟩ := hA (by omega)
    obtain ⟨bb, ob, eB, hbb, hem⟩ := hB (by omega)
    subst eA
    subst eB
    obtain ⟨ck, r1, i1⟩ := hel k hlt
    obtain ⟨dk, r2, i2⟩ := hem k hlb
    have l1 := (show ck.length = 33 by obtain ⟨_, _, _, _, _, _, rfl, hr, _⟩ := i1; exact rrC_len hr)
    have l2 := (show dk.length = 33 by obtain ⟨_, _, _, _, _, _, rfl, hr, _⟩ := i2; exact rrC_len hr)
    have S := Lib.hid (fun w' (b : Below w.heap.size w w') => same13_any ck dk la[k] lb[k] w' (i1.below b) (i2.below b))
    obtain ⟨s, hs⟩ : ∃ s, Hid (decide (la[k] = lb[k]) = s) := ⟨_, Lib.hid rfl⟩
    rw [hs.out] at S
    clear hel hem i1 i2
    go_wp2_with fail
    refine wp_region_old (by kernel_rfl) (by kernel_rfl) ?_
    (refine wpQuiet_val (v := (.slice (some ⟨ba, oa, none⟩) la.length ca)) rfl (fun W hW => by first | (go_simp; done) | (go_simp; omega)) ?_; simp only [Act.put, List.setIfInBounds_toArray, List.set_cons_zero, List.set_cons_succ])
    (refine wpQuiet_val (v := (.int .i64 k)) rfl (fun W hW => by first | (go_simp; done) | (go_simp; omega)) ?_; simp only [Act.put, List.setIfInBounds_toArray, List.set_cons_zero, List.set_cons_succ])
    (refine wpQuiet_val (v := (.pointer (some ⟨ba, oa + k * 33, none⟩))) rfl (fun W hW => by first | (go_simp; done) | (go_simp; omega)) ?_; simp only [Act.put, List.setIfInBounds_toArray, List.set_cons_zero, List.set_cons_succ])
    refine wpQuiet_ld 86 (.tmp 19) rfl ⟨ba, oa + k * 33, none⟩ rfl rfl (fun W hW => run_loadAt_mid W ba (oa + k * 33) 86 ck _ (range_below (range_below r1 hb hba) hW (Nat.lt_of_lt_of_le hba hb.size)) Try.underlying86 rfl (by rw [l1]; exact rrInfo)) ?_
    simp only [Act.put, List.setIfInBounds_toArray, List.set_cons_zero, List.set_cons_succ]
    (refine wpQuiet_val (v := (.slice (some ⟨bb, ob, none⟩) lb.length cb)) rfl (fun W hW => by first | (go_simp; done) | (go_simp; omega)) ?_; simp only [Act.put, List.setIfInBounds_toArray, List.set_cons_zero, List.set_cons_succ])
    (refine wpQuiet_val (v := (.int .i64 k)) rfl (fun W hW => by first | (go_simp; done) | (go_simp; omega)) ?_; simp only [Act.put, List.setIfInBounds_toArray, List.set_cons_zero, List.set_cons_succ])
    (refine wpQuiet_val (v := (.pointer (some ⟨bb, ob + k * 33, none⟩))) rfl (fun W hW => by first | (go_simp; done) | (go_simp; omega)) ?_; simp only [Act.put, List.setIfInBounds_toArray, List.set_cons_zero, List.set_cons_succ])
    refine wpQuiet_ld 86 (.tmp 23) rfl ⟨bb, ob + k * 33, none⟩ rfl rfl (fun W hW => run_loadAt_mid W bb (ob + k * 33) 86 dk _ (range_below (range_below r2 hb hbb) hW (Nat.lt_of_lt_of_le hbb hb.size)) Try.underlying86 rfl (by rw [l2]; exact rrInfo)) ?_
    simp only [Act.put, List.setIfInBounds_toArray, List.set_cons_zero, List.set_cons_succ]
    refine wpQuiet_call 53 #[.agg ck.toArray, .agg dk.toArray] rfl (fun W => by go_simp) (fun W hW => RetB.old hW (S.out W (below_then hb hb.size hW))) ?_
    simp only [Act.put, List.setIfInBounds_toArray, List.set_cons_zero, List.set_cons_succ]
    (refine wpQuiet_val (v := (.bool (!s))) rfl (fun W hW => by first | (go_simp; done) | (go_simp; omega)) ?_; simp only [Act.put, List.setIfInBounds_toArray, List.set_cons_zero, List.set_cons_succ])
    refine wpQuiet_nil ?_
    intro w4 hb4
    have HB4 := below_then hb hb.size hb4
    clear S hb4 hb
    cases s with
    | false =>
      obtain rfl : q = false := by
        rw [← hq.out]
        exact decide_eq_false (ne_at hlt hlb (of_decide_eq_false hs.out))
      clear hq hs HE
      go_wp2_with fail
      go_ret
      exact RetB.mk rfl HB4
    | true =>
      have e := of_decide_eq_true hs.out
      go_wp2_with fail
      go_roundw
      case rel => exact ⟨k + 1, by omega, by go_num, fun i h1 h2 h3 => by
        by_cases hi : i = k
        · subst hi; exact e
        · exact HE.out i h1 h2 (by omega), HB4⟩
      case measure => simp [intOf]; omega
  obtain rfl : k = la.length := by omega
  have hlt' : ¬ (la.length : Int) < la.length := by omega
  obtain rfl : q = true := by
    rw [← hq.out]
    exact decide_eq_true (List.ext_getElem hl (fun i h1 h2 => HE.out i h1 h2 h1))
  clear HE hq
  go_wp2_with fail
  go_ret
  exact RetB.mk rfl hb
end Go.Proofs.Ytlmgdogblbigpaa

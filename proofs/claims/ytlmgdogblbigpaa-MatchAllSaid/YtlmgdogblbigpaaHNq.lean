/-
  Layer 12 (packed), the plain law of PackedBack: what is put, one behind the other, is got.
-/
import Derived.Test.YtlmgdogblbigpaaGHq
import Derived.Test.YtlmgdogblbigpaaGJq
import Derived.Test.YtlmgdogblbigpaaHAq
import Derived.Test.YtlmgdogblbigpaaHTq
import Derived.Test.YtlmgdogblbigpaaHUq
namespace Go.Proofs.Ytlmgdogblbigpaa
set_option linter.unusedVariables false

/-- Names stand one behind the other. -/
def Row1 (x : List UInt8) (all : List (List (List UInt8))) (ats : List Nat) : Prop :=
  ats.length = all.length ∧ ∀ i (hi : i < all.length) (ha : i < ats.length), ats[i] ≤ x.length ∧ Rd x ats[i] ats[i] all[i] ((ats ++ [x.length]).getD (i + 1) 0) ∧ checkN all[i] = 0
theorem Row1.snoc {x a : List UInt8} {all : List (List (List UInt8))} {ats : List Nat} {n : List (List UInt8)} (h : Row1 x all ats) (hr : Rd (x ++ a) x.length x.length n (x.length + a.length)) (hc : checkN n = 0) : Row1 (x ++ a) (all ++ [n]) (ats ++ [x.length]) := by
  obtain ⟨hl, hi⟩ := h
  refine ⟨by simp [hl], fun i h1 h2 => ?_⟩
  by_cases hlt : i < all.length
  · have h3 : i < ats.length := by omega
    obtain ⟨p1, p2, p3⟩ := hi i hlt h3
    have e1 : (all ++ [n])[i] = all[i] := by rw [List.getElem_append_left]
    have e2 : (ats ++ [x.length])[i] = ats[i] := by rw [List.getElem_append_left]
    have e3 : (ats ++ [x.length] ++ [(x ++ a).length]).getD (i + 1) 0 = (ats ++ [x.length]).getD (i + 1) 0 := by
      simp only [List.getD]
      rw [List.getElem?_append_left (by simp; omega)]
    rw [e1, e2, e3]
    exact ⟨by simp; omega, p2.app a, p3⟩
  · have hi' : i = all.length := by simp at h1; omega
    subst hi'
    have e1 : (all ++ [n])[all.length] = n := by simp
    have e2 : (ats ++ [x.length])[all.length] = x.length := by simp [← hl]
    have e3 : (ats ++ [x.length] ++ [(x ++ a).length]).getD (all.length + 1) 0 = x.length + a.length := by
      simp only [List.getD]
      rw [List.getElem?_append_right (by simp; omega)]
      simp [hl]
    rw [e1, e2, e3]
    exact ⟨by simp, hr, hc⟩
end Go.Proofs.Ytlmgdogblbigpaa
/-
  Layer 13, the plain law of RdataBack: what is put is got.
-/
namespace Go.Proofs.Ytlmgdogblbigpaa
set_option linter.unusedVariables false
set_option linter.unusedSimpArgs false
set_option maxRecDepth 10000

def TabOkO (m : List UInt8) (T : Option Tab) : Prop := ∀ T', T = some T' → TabOk m T'
theorem TabOkO.app {m : List UInt8} {T : Option Tab} (h : TabOkO m T) (y : List UInt8) : TabOkO (m ++ y) T := fun T' e => (h T' e).app y
structure ROk (r : RR) : Prop where
  nm : checkN r.name = 0
  ty : inB 65535 r.ty = true
  cl : inB 65535 r.cl = true
  ttl : inB 4294967295 r.ttl = true
  has : hasE r = 0
  bare : bareB (clearR r) = true
theorem rOk_to {r : RR} (h : ROk r) : checkR r = 0 := by
  unfold checkR
  rw [if_neg (by simp [h.nm]), if_neg (by simp [h.ty, h.cl, h.ttl]), if_neg (by simp [h.has]), if_pos h.bare]
end Go.Proofs.Ytlmgdogblbigpaa
/-
  Heads, the plain law: what is put is what is read.
-/
namespace Go.Proofs.Ytlmgdogblbigpaa
open Go.RowKit
set_option maxRecDepth 100000
set_option linter.unusedVariables false
set_option linter.unusedSimpArgs false

theorem hd_ok_iff (h : Hd) : h.ok = true ↔ (0 ≤ h.id ∧ h.id ≤ 65535) ∧ (0 ≤ h.op ∧ h.op ≤ 15) ∧ (0 ≤ h.rc ∧ h.rc ≤ 15) := by simp [Hd.ok, and_assoc]
end Go.Proofs.Ytlmgdogblbigpaa
/-
  Messages, the plain law: what is encoded is decoded; packed it is not longer.
-/
namespace Go.Proofs.Ytlmgdogblbigpaa
set_option linter.unusedVariables false
set_option linter.unusedSimpArgs false
set_option maxRecDepth 10000

/-- What a question that may be has. -/
theorem qE_ok {q : Qn} (h : qE q = 0) : checkN q.name = 0 ∧ inB 65535 q.ty = true ∧ inB 65535 q.cl = true := by
  unfold qE at h
  by_cases h1 : checkN q.name = 0
  · rw [if_neg (by simp [h1])] at h
    by_cases h2 : (inB 65535 q.ty && inB 65535 q.cl) = true
    · rw [Bool.and_eq_true] at h2; exact ⟨h1, h2⟩
    · rw [if_neg h2] at h; cases h
  · rw [if_pos h1] at h; exact absurd h h1
theorem checkM_q {m : Msg} (h : checkM m = 0) : ∀ q ∈ m.qs, qE q = 0 := by
  unfold checkM at h
  cases hk : m.hd.ok with
  | false => rw [if_pos hk] at h; cases h
  | true =>
    rw [if_neg (by simp [hk])] at h
    by_cases h1 : 65535 < m.qs.length ∨ 65535 < m.an.length ∨ 65535 < m.au.length ∨ 65535 < m.ex.length
    · rw [if_pos h1] at h; cases h
    · rw [if_neg h1] at h
      by_cases h2 : fstE (m.qs.map qE) = 0
      · exact fun q hq => fstE_zero h2 _ (List.mem_map_of_mem hq)
      · rw [if_pos h2] at h; exact absurd h h2
theorem rrs_mem {m : Msg} {r : RR} : r ∈ m.rrs ↔ r ∈ m.an ∨ r ∈ m.au ∨ r ∈ m.ex := by simp [Msg.rrs, or_assoc]
end Go.Proofs.Ytlmgdogblbigpaa
/-
  Messages, the plain law: what octets are is a message that may be.
-/
namespace Go.Proofs.Ytlmgdogblbigpaa
set_option linter.unusedVariables false
set_option linter.unusedSimpArgs false
set_option maxRecDepth 10000

/-- What holds of a reading's place. -/
def GPos (a : Nat) (s : GS) : Prop := (s.behind = none → a ≤ s.at') ∧ (∀ b, s.behind = some b → a < b)
theorem gstep_pos {m : List UInt8} {a : Nat} {s : GS} (h : GPos a s) : (∀ s', gstep m s = .go s' → GPos a s') ∧ (∀ l n, gstep m s = .ok l n → a < n) := by
  obtain ⟨at', size, bound, behind, acc⟩ := s
  obtain ⟨h1, h2⟩ := h
  simp only at h1 h2
  unfold gstep
  simp only
  constructor
  · intro s' e
    repeat' split at e
    all_goals first
      | (injection e with e; subst e; cases behind with
          | none => have := h1 rfl; exact ⟨by simp <;> omega, by simp <;> omega⟩
          | some b => have := h2 b rfl; exact ⟨by simp, by simp <;> omega⟩)
      | exact GO.noConfusion e
  · intro l n e
    repeat' split at e
    all_goals first
      | (injection e with e1 e2; subst e2; cases behind with
          | none => have := h1 rfl; simp <;> omega
          | some b => have := h2 b rfl; simpa using this)
      | exact GO.noConfusion e
theorem gets_pos {m : List UInt8} {a : Nat} {s : GS} {o : GO} (h : Gets m s o) : GPos a s → ∀ l n, o = .ok l n → a < n := by
  induction h with
  | err e => intro _ l n he; cases he
  | ok e => intro hp l n he; injection he with h1 h2; subst h1 h2; exact (gstep_pos hp).2 _ _ e
  | go e _ ih => intro hp; exact ih ((gstep_pos hp).1 _ e)
theorem pget_pos {m : List UInt8} {a : Nat} {l : List (List UInt8)} {n : Nat} (h : pget m a = .ok l n) : a < n := by
  unfold pget at h
  cases ho : outR m a with
  | true => rw [ho, if_pos rfl] at h; cases h
  | false =>
    rw [ho, if_neg (by simp), Int.toNat_natCast] at h
    exact gets_pos (gets_at m a) ⟨fun _ => Nat.le_refl _, fun b hb => by cases hb⟩ _ _ h
theorem nameAt_ok {m : List UInt8} {p : Nat} {n : List (List UInt8)} {q : Nat} (h : nameAt m p = .ok (n, q)) : checkN n = 0 ∧ p < q ∧ q ≤ m.length := by
  rcases nameAt_cases m p with ⟨l, k, h1, h2, h3, h4, h5⟩ | ⟨e, h1, h2, h3⟩
  · rw [h2] at h
    injection h with h; injection h with e1 e2
    subst e1 e2
    exact ⟨checkN_ok' h4 h5, pget_pos h1, h3⟩
  · rw [h2] at h; cases h
theorem nameE_ok {m : List UInt8} {p : Nat} {n : List (List UInt8)} {q : Nat} (h : nameE m p = .ok (n, q)) : checkN n = 0 ∧ p < q ∧ q ≤ m.length := by
  unfold nameE at h
  cases h1 : nameAt m p with
  | error e => rw [h1] at h; cases h
  | ok y => obtain ⟨l, k⟩ := y; rw [h1] at h; injection h with h; injection h with e1 e2; subst e1 e2; exact nameAt_ok h1
theorem targAt_ok {m : List UInt8} {p : Nat} {n : List (List UInt8)} (h : targAt m p = .ok n) : checkN n = 0 := by
  unfold targAt at h
  cases h1 : nameE m p with
  | error e => rw [h1] at h; cases h
  | ok y =>
    obtain ⟨l, k⟩ := y
    rw [h1] at h
    simp only at h
    split at h
    · injection h with h; subst h; exact (nameE_ok h1).1
    · cases h
theorem numAt_ok {m : List UInt8} {k p n q : Nat} (h : numAt m k p = .ok (n, q)) : n < 256 ^ k ∧ q = p + k ∧ q ≤ m.length := by
  unfold numAt at h
  split at h
  · cases h
  · rename_i hh
    injection h with h; injection h with h1 h2
    subst h1 h2
    exact ⟨numB_le _ k (by simp; omega), rfl, by omega⟩
theorem inB_nat {k n : Nat} (h : n ≤ k) : inB (k : Int) (n : Int) = true := by simp [inB]; omega
theorem inB2 {n : Nat} (h : n < 65536) : inB 65535 (n : Int) = true := inB_nat (k := 65535) (by omega)
theorem inB4 {n : Nat} (h : n < 4294967296) : inB 4294967295 (n : Int) = true := inB_nat (k := 4294967295) (by omega)
theorem questAt_ok {m : List UInt8} {p : Nat} {q : Qn} {p' : Nat} (h : questAt m p = .ok (q, p')) : qE q = 0 ∧ p + 5 ≤ p' ∧ p' ≤ m.length := by
  unfold questAt at h
  cases h1 : nameAt m p with
  | error e => rw [h1] at h; cases h
  | ok y =>
  obtain ⟨n, p1⟩ := y
  rw [h1] at h
  simp only at h
  cases h2 : numAt m 2 p1 with
  | error e => rw [h2] at h; cases h
  | ok y =>
  obtain ⟨ty, p2⟩ := y
  rw [h2] at h
  simp only at h
  cases h3 : numAt m 2 p2 with
  | error e => rw [h3] at h; cases h
  | ok y =>
  obtain ⟨cl, p3⟩ := y
  rw [h3] at h
  simp only at h
  injection h with h; injection h with e1 e2
  obtain ⟨a1, a2, a3⟩ := nameAt_ok h1
  obtain ⟨b1, b2, b3⟩ := numAt_ok h2
  obtain ⟨c1, c2, c3⟩ := numAt_ok h3
  subst e1 e2
  refine ⟨?_, by omega, c3⟩
  unfold qE
  rw [if_neg (by simp [a1]), inB2 b1, inB2 c1]; rfl
/-- A record with data that are got. -/
theorem getR_ok {m : List UInt8} {a n : Nat} {ty cl : Int} {r : RR} (h : getR m a n ty cl = .ok r) (ha : a + n ≤ m.length) (hm : m.length ≤ 65535) (r' : RR)
    (hr : ∃ nm ttl, checkN nm = 0 ∧ inB 4294967295 ttl = true ∧ r' = { r with name := nm, ty := ty, cl := cl, ttl := ttl }) (hty : inB 65535 ty = true) (hcl : inB 65535 cl = true) : checkR r' = 0 ∧ r'.wf := by
  obtain ⟨nm, ttl, hnm, httl, rfl⟩ := hr
  have hd : ((m.take (a + n)).drop a).length = n := by simp; omega
  have hz : (List.replicate 16 (0 : UInt8)).length = 16 := rfl
  have key : ∀ r0 : RR, r0.ty = ty → r0.cl = cl → checkN r0.name = 0 → inB 4294967295 r0.ttl = true → hasE r0 = 0 → bareB (clearR r0) = true → checkR r0 = 0 := by
    intro r0 e1 e2 e3 e4 e5 e6
    exact rOk_to ⟨e3, by rw [e1]; exact hty, by rw [e2]; exact hcl, e4, e5, e6⟩
  unfold getR at h
  split at h
  · rename_i k1
    split at h
    · rename_i hn
      injection h with h; subst h
      refine ⟨key _ rfl rfl hnm httl ?_ ?_, by simp only [RR.wf, RR.zero]; simp; omega⟩
      · unfold hasE
        simp only [k1, if_true]
        have : (Adr.check ⟨4, (m.take (a + n)).drop a ++ List.replicate 12 0, 0⟩) = 0 := by
          unfold Adr.check
          simp only [if_true]
          rw [if_pos ⟨by rw [← hn]; exact List.drop_left' hd, trivial⟩]
        rw [this]; simp
      · unfold clearR
        simp only [k1, true_or, if_true, bareB, RR.zero]; first | decide | rfl | simp
    · cases h
  rename_i k1
  split at h
  · rename_i k2
    split at h
    · rename_i hn
      injection h with h; subst h
      refine ⟨key _ rfl rfl hnm httl ?_ ?_, by simp only [RR.wf, RR.zero]; simp; omega⟩
      · unfold hasE
        simp only [k1, k2, if_true, if_false]
        have : (Adr.check ⟨6, (m.take (a + n)).drop a, 0⟩) = 0 := by
          unfold Adr.check
          simp
        rw [this]; simp
      · unfold clearR
        simp only [k2, or_true, if_true, bareB, RR.zero]; first | decide | rfl | simp
    · cases h
  rename_i k2
  have k12 : ¬ (kindR ty cl = 1 ∨ kindR ty cl = 28) := by omega
  split at h
  · rename_i k3
    split at h
    · cases h
    · rename_i l ht
      injection h with h; subst h
      refine ⟨key _ rfl rfl hnm httl ?_ ?_, ⟨rfl, rfl⟩⟩
      · unfold hasE
        simp only [k1, k2, k3, if_true, if_false]
        exact targAt_ok ht
      · unfold clearR
        simp only [k12, k3, if_true, if_false, bareB, RR.zero]; first | decide | rfl | simp
  rename_i k3
  split at h
  · rename_i k4
    split at h
    · cases h
    · rename_i hn
      split at h
      · cases h
      · rename_i l ht
        injection h with h; subst h
        refine ⟨key _ rfl rfl hnm httl ?_ ?_, ⟨rfl, rfl⟩⟩
        · unfold hasE
          simp only [k1, k2, k3, k4, if_true, if_false]
          have e1 := inB2 (numB_le (((m.take (a + n)).drop a).take 2) 2 (by simp; omega))
          have e2 := inB2 (numB_le ((((m.take (a + n)).drop a).drop 2).take 2) 2 (by simp; omega))
          have e3 := inB2 (numB_le ((((m.take (a + n)).drop a).drop 4).take 2) 2 (by simp; omega))
          simp only [List.all_cons, List.all_nil, e1, e2, e3, Bool.and_true, if_true]
          exact targAt_ok ht
        · unfold clearR
          simp only [k12, k3, k4, if_true, if_false, bareB, RR.zero]; first | decide | rfl | simp
  rename_i k4
  split at h
  · rename_i k5
    cases h1 : nameE (m.take (a + n)) a with
    | error e => rw [h1] at h; cases h
    | ok y =>
    obtain ⟨l, p⟩ := y
    rw [h1] at h
    simp only at h
    cases h2 : nameE (m.take (a + n)) p with
    | error e => rw [h2] at h; cases h
    | ok y =>
    obtain ⟨l', q⟩ := y
    rw [h2] at h
    simp only at h
    split at h
    · injection h with h; subst h
      refine ⟨key _ rfl rfl hnm httl ?_ ?_, ⟨rfl, rfl⟩⟩
      · unfold hasE
        simp only [k1, k2, k3, k4, k5, if_true, if_false]
        have e : ∀ x : List UInt8, inB 4294967295 (numB (x.take 4) : Int) = true := fun x => inB4 (numB_le _ 4 (by simp; omega))
        simp only [numsAt, List.all_cons, List.all_nil, e, Bool.and_true, if_true]
        rw [if_neg (by decide), if_neg (by decide), (nameE_ok h1).1, (nameE_ok h2).1]; rfl
      · unfold clearR
        simp only [k12, k3, k4, k5, if_true, if_false, bareB, RR.zero]; first | decide | rfl | simp
    · cases h
  rename_i k5
  injection h with h; subst h
  refine ⟨key _ rfl rfl hnm httl ?_ ?_, ⟨rfl, rfl⟩⟩
  · unfold hasE
    simp only [k1, k2, k3, k4, k5, if_false]
    rw [if_neg (by rw [hd]; omega)]
  · unfold clearR
    simp only [k12, k3, k4, k5, if_false, bareB, RR.zero]; first | decide | rfl | simp
theorem recAt_ok {m : List UInt8} {p : Nat} {r : RR} {p' : Nat} (hm : m.length ≤ 65535) (h : recAt m p = .ok (r, p')) : (checkR r = 0 ∧ r.wf) ∧ p + 11 ≤ p' ∧ p' ≤ m.length := by
  unfold recAt at h
  cases h1 : nameAt m p with
  | error e => rw [h1] at h; cases h
  | ok y =>
  obtain ⟨n, p1⟩ := y
  rw [h1] at h
  simp only at h
  cases h2 : numAt m 2 p1 with
  | error e => rw [h2] at h; cases h
  | ok y =>
  obtain ⟨ty, p2⟩ := y
  rw [h2] at h
  simp only at h
  cases h3 : numAt m 2 p2 with
  | error e => rw [h3] at h; cases h
  | ok y =>
  obtain ⟨cl, p3⟩ := y
  rw [h3] at h
  simp only at h
  cases h4 : numAt m 4 p3 with
  | error e => rw [h4] at h; cases h
  | ok y =>
  obtain ⟨ttl, p4⟩ := y
  rw [h4] at h
  simp only at h
  cases h5 : numAt m 2 p4 with
  | error e => rw [h5] at h; cases h
  | ok y =>
  obtain ⟨sz, p5⟩ := y
  rw [h5] at h
  simp only at h
  split at h
  · cases h
  rename_i hsz
  cases h6 : getR m p5 sz ty cl with
  | error e => rw [h6] at h; cases h
  | ok r0 =>
  rw [h6] at h
  simp only at h
  injection h with h; injection h with e1 e2
  obtain ⟨a1, a2, a3⟩ := nameAt_ok h1
  obtain ⟨b1, b2, b3⟩ := numAt_ok h2
  obtain ⟨c1, c2, c3⟩ := numAt_ok h3
  obtain ⟨d1, d2, d3⟩ := numAt_ok h4
  obtain ⟨f1, f2, f3⟩ := numAt_ok h5
  refine ⟨getR_ok h6 (by omega) hm r ⟨n, ttl, a1, inB4 d1, e1.symm⟩ (inB2 b1) (inB2 c1), by omega, by omega⟩
theorem many_ok {α : Type} {g : Nat → Except Int (α × Nat)} {P : α → Prop} {c len : Nat} (hg : ∀ p x p', g p = .ok (x, p') → P x ∧ p + c ≤ p' ∧ p' ≤ len) :
    ∀ (k p : Nat) (l : List α) (p' : Nat), manyAt g k p = .ok (l, p') → p ≤ len → (∀ x ∈ l, P x) ∧ l.length = k ∧ p + c * k ≤ p' ∧ p' ≤ len
  | 0, p, l, p', h, hp => by
    unfold manyAt at h
    injection h with h; injection h with e1 e2
    subst e1 e2
    exact ⟨(fun x hx => by cases hx), rfl, by omega, hp⟩
  | k + 1, p, l, p', h, hp => by
    unfold manyAt at h
    cases h1 : g p with
    | error e => rw [h1] at h; cases h
    | ok y =>
    obtain ⟨x, p1⟩ := y
    rw [h1] at h
    simp only at h
    cases h2 : manyAt g k p1 with
    | error e => rw [h2] at h; cases h
    | ok y =>
    obtain ⟨l1, p2⟩ := y
    rw [h2] at h
    simp only at h
    injection h with h; injection h with e1 e2
    obtain ⟨a1, a2, a3⟩ := hg _ _ _ h1
    obtain ⟨b1, b2, b3, b4⟩ := many_ok hg k p1 l1 p2 h2 a3
    subst e1 e2
    refine ⟨fun y hy => ?_, by simp [b2], by rw [Nat.mul_succ]; omega, b4⟩
    rcases List.mem_cons.1 hy with rfl | hy
    · exact a1
    · exact b1 y hy
theorem hdOf_ok (a b : Nat) (ha : a < 65536) (hb : b < 65536) : (hdOf a b).ok = true := by
  rw [hd_ok_iff]
  simp only [hdOf]
  omega
/-- What octets are is a message that may be, and the number of its parts. -/
theorem decM_ok {s : List UInt8} {m : Msg} (h : decM s = .ok m) : checkM m = 0 ∧ (∀ r ∈ m.rrs, r.wf) ∧ 12 + 5 * m.qs.length + 11 * m.rrs.length ≤ s.length ∧ s.length ≤ 65535 := by
  unfold decM at h
  split at h
  · cases h
  rename_i hl
  split at h
  · cases h
  rename_i hs
  cases h1 : manyAt (questAt s) (at2 s 4) 12 with
  | error e => rw [h1] at h; cases h
  | ok y =>
  obtain ⟨q, p1⟩ := y
  rw [h1] at h
  simp only at h
  cases h2 : manyAt (recAt s) (at2 s 6) p1 with
  | error e => rw [h2] at h; cases h
  | ok y =>
  obtain ⟨a, p2⟩ := y
  rw [h2] at h
  simp only at h
  cases h3 : manyAt (recAt s) (at2 s 8) p2 with
  | error e => rw [h3] at h; cases h
  | ok y =>
  obtain ⟨u, p3⟩ := y
  rw [h3] at h
  simp only at h
  cases h4 : manyAt (recAt s) (at2 s 10) p3 with
  | error e => rw [h4] at h; cases h
  | ok y =>
  obtain ⟨x, p4⟩ := y
  rw [h4] at h
  simp only at h
  split at h
  · cases h
  injection h with h
  have q0 := at2_lt s 4
  have q1 := at2_lt s 6
  have q2 := at2_lt s 8
  have q3 := at2_lt s 10
  have hq := hdOf_ok _ _ (at2_lt s 0) (at2_lt s 2)
  obtain ⟨a1, a2, a3, a4⟩ := many_ok (fun p x p' h => questAt_ok (m := s) h) _ _ _ _ h1 (by omega)
  obtain ⟨b1, b2, b3, b4⟩ := many_ok (fun p x p' h => recAt_ok (m := s) (by omega) h) _ _ _ _ h2 a4
  obtain ⟨c1, c2, c3, c4⟩ := many_ok (fun p x p' h => recAt_ok (m := s) (by omega) h) _ _ _ _ h3 b4
  obtain ⟨d1, d2, d3, d4⟩ := many_ok (fun p x p' h => recAt_ok (m := s) (by omega) h) _ _ _ _ h4 c4
  have hr : ∀ r ∈ a ++ u ++ x, checkR r = 0 ∧ r.wf := by
    intro r hr
    simp only [List.mem_append] at hr
    rcases hr with (hr | hr) | hr
    · exact b1 r hr
    · exact c1 r hr
    · exact d1 r hr
  subst h
  refine ⟨?_, fun r hr' => (hr r hr').2, ?_, by omega⟩
  · unfold checkM
    simp only [hq]
    rw [if_neg (by simp), if_neg (by omega)]
    have e1 : fstE (q.map qE) = 0 := fstE_ok (fun j hj => by rw [List.getElem_map]; exact a1 _ (List.getElem_mem _))
    have e2 : fstE ((a ++ u ++ x).map checkR) = 0 := fstE_ok (fun j hj => by rw [List.getElem_map]; exact (hr _ (List.getElem_mem _)).1)
    rw [if_neg (by simp [e1])]
    exact e2
  · simp only [Msg.rrs, List.length_append]
    omega
end Go.Proofs.Ytlmgdogblbigpaa

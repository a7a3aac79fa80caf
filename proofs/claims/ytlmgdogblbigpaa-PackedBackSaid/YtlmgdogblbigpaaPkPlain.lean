/-
  Layer 12 (packed), the plain law: a name's octets with a table, and what they are read as.
-/
import Derived.Test.YtlmgdogblbigpaaNum
namespace Go.Proofs.Ytlmgdogblbigpaa

/-- A label's octets; a name's, without the 0 behind them. -/
def encL (l : List UInt8) : List UInt8 := UInt8.ofNat l.length :: l
def encN (n : List (List UInt8)) : List UInt8 := n.flatMap encL
theorem encL_length (l : List UInt8) : (encL l).length = l.length + 1 := by simp [encL]
@[simp] theorem encN_nil : encN [] = [] := rfl
theorem encN_cons (l : List UInt8) (n : List (List UInt8)) : encN (l :: n) = encL l ++ encN n := by simp [encN]
theorem encN_app (a b : List (List UInt8)) : encN (a ++ b) = encN a ++ encN b := by simp [encN]
/-- A name's size. -/
def lsum : List (List UInt8) → Nat
  | [] => 0
  | l :: n => l.length + 1 + lsum n
theorem lsum_app (a b : List (List UInt8)) : lsum (a ++ b) = lsum a + lsum b := by
  induction a with
  | nil => simp [lsum]
  | cons l a ih => simp [lsum, ih]; omega
theorem encN_length (n : List (List UInt8)) : (encN n).length = lsum n := by
  induction n with
  | nil => rfl
  | cons l n ih => rw [encN_cons, List.length_append, encL_length, ih, lsum]
theorem lsum_ge (n : List (List UInt8)) : n.length ≤ lsum n := by
  induction n with
  | nil => simp
  | cons l n ih => simp [lsum]; omega
theorem lsum_take (n : List (List UInt8)) (k : Nat) (h : k < n.length) : lsum (n.take (k + 1)) = lsum (n.take k) + (n[k].length + 1) := by
  rw [List.take_succ_eq_append_getElem h, lsum_app]; simp [lsum]
theorem lsum_take_le (n : List (List UInt8)) (k : Nat) : lsum (n.take k) ≤ lsum n := by
  have := lsum_app (n.take k) (n.drop k)
  rw [List.take_append_drop] at this; omega
/-- No label. -/
def badL (l : List UInt8) : Bool := decide (l.length < 1) || decide (63 < l.length)
/-- What is wrong with a name. -/
def checkN (n : List (List UInt8)) : Int := if n.any badL then 7 else if 255 < 1 + lsum n then 3 else 0
theorem checkN_ok {n : List (List UInt8)} (h : checkN n = 0) : (∀ l ∈ n, 1 ≤ l.length ∧ l.length ≤ 63) ∧ 1 + lsum n ≤ 255 := by
  unfold checkN at h
  split at h
  · cases h
  · rename_i ha
    split at h
    · cases h
    · refine ⟨fun l hl => ?_, by omega⟩
      have hb : badL l = false := by
        cases h : badL l with
        | false => rfl
        | true => exact absurd (List.any_eq_true.2 ⟨l, hl, h⟩) ha
      simp [badL] at hb
      cases l with
      | nil => simp at hb
      | cons x l => simp at hb ⊢; omega
theorem checkN_ok' {n : List (List UInt8)} (h : ∀ l ∈ n, 1 ≤ l.length ∧ l.length ≤ 63) (hs : 1 + lsum n ≤ 255) : checkN n = 0 := by
  unfold checkN
  have : n.any badL = false := by
    rw [List.any_eq_false]
    intro l hl
    have := h l hl
    rw [badL, decide_eq_false (by omega), decide_eq_false (by omega)]; simp
  rw [this, if_neg (by simp), if_neg (by omega)]

/-- A name's labels are of 1 q0 63 octets. -/
def GoodN (n : List (List UInt8)) : Prop := ∀ l ∈ n, 1 ≤ l.length ∧ l.length ≤ 63
theorem GoodN.tail {l : List UInt8} {n : List (List UInt8)} (h : GoodN (l :: n)) : GoodN n := fun x hx => h x (List.mem_cons_of_mem _ hx)
theorem GoodN.drop {n : List (List UInt8)} (h : GoodN n) (k : Nat) : GoodN (n.drop k) := fun x hx => h x (List.mem_of_mem_drop hx)
theorem ofNat_toNat63 {k : Nat} (h : k ≤ 255) : (UInt8.ofNat k).toNat = k := by
  rw [UInt8.toNat_ofNat']; exact Nat.mod_eq_of_lt (by omega)
theorem encN_inj : ∀ (a b : List (List UInt8)), GoodN a → GoodN b → encN a = encN b → a = b := by
  intro a
  induction a with
  | nil =>
    intro b _ _ h
    cases b with
    | nil => rfl
    | cons y b => rw [encN_cons] at h; simp [encL] at h
  | cons x a ih =>
    intro b ga gb h
    cases b with
    | nil => rw [encN_cons] at h; simp [encL] at h
    | cons y b =>
      rw [encN_cons, encN_cons] at h
      simp only [encL, List.cons_append, List.cons.injEq] at h
      obtain ⟨h1, h2⟩ := h
      have gx := ga x (List.mem_cons_self ..)
      have gy := gb y (List.mem_cons_self ..)
      have hl : x.length = y.length := by
        have := congrArg UInt8.toNat h1
        rwa [ofNat_toNat63 (by omega), ofNat_toNat63 (by omega)] at this
      obtain ⟨e1, e2⟩ := List.append_inj h2 hl
      rw [e1, ih b ga.tail gb.tail e2]

/-- Where a name stands. -/
def look (T : List (List (List UInt8) × Nat)) (n : List (List UInt8)) : Option Nat := (T.find? fun r => r.1 == n).map (·.2)
/-- May a place come into a table? -/
def low (at_ : Int) (k : Nat) : Bool := decide (0 ≤ at_) && decide (at_ < 16384) && decide (at_ + k < 16384)
theorem low_iff (at_ : Int) (k : Nat) : low at_ k = true ↔ 0 ≤ at_ ∧ at_ < 16384 ∧ at_ + k < 16384 := by simp [low, and_assoc]
/-- The octets of a name behind some of its own, with a table (its first octet at 'at'), and what comes into the table. -/
def pgo (T : List (List (List UInt8) × Nat)) (at_ : Int) (pre : List UInt8) : List (List UInt8) → List UInt8 × List (List (List UInt8) × Nat)
  | [] => (pre ++ [0], [])
  | l :: n => match look T (l :: n) with
    | some q0 => (pre ++ putB 2 (49152 + q0), [])
    | none => ((pgo T at_ (pre ++ encL l) n).1, (if low at_ pre.length then [(l :: n, (at_ + pre.length).toNat)] else []) ++ (pgo T at_ (pre ++ encL l) n).2)
theorem pgo_some {T : List (List (List UInt8) × Nat)} {at_ : Int} {pre l : List UInt8} {n : List (List UInt8)} {q0 : Nat} (h : look T (l :: n) = some q0) : pgo T at_ pre (l :: n) = (pre ++ putB 2 (49152 + q0), []) := by
  rw [pgo, h]
theorem pgo_no {T : List (List (List UInt8) × Nat)} {at_ : Int} {pre l : List UInt8} {n : List (List UInt8)} (h : look T (l :: n) = none) : pgo T at_ pre (l :: n) = ((pgo T at_ (pre ++ encL l) n).1, (if low at_ pre.length then [(l :: n, (at_ + pre.length).toNat)] else []) ++ (pgo T at_ (pre ++ encL l) n).2) := by
  rw [pgo, h]
theorem look_app_none (T U : List (List (List UInt8) × Nat)) (n : List (List UInt8)) (h : ∀ r ∈ U, r.1 ≠ n) : look (T ++ U) n = look T n := by
  unfold look
  rw [List.find?_append]
  have : U.find? (fun r => r.1 == n) = none := by
    rw [List.find?_eq_none]
    intro r hr; simpa using h r hr
  rw [this]; simp
theorem look_mem {T : List (List (List UInt8) × Nat)} {n : List (List UInt8)} {q : Nat} (h : look T n = some q) : (n, q) ∈ T := by
  unfold look at h
  rw [Option.map_eq_some_iff] at h
  obtain ⟨r, hr, rfl⟩ := h
  have h1 := List.find?_some hr
  have h2 := List.mem_of_find?_eq_some hr
  have : r.1 = n := by simpa using h1
  rw [← this]; exact h2

/-- What stands at p, read with the bound b: a name, and the offset behind it. -/
inductive Rd (m : List UInt8) : Nat → Nat → List (List UInt8) → Nat → Prop where
  | nil {b p} : p < m.length → (m.getD p 0).toNat = 0 → Rd m b p [] (p + 1)
  | cons {b p l n e} : p < m.length → (m.getD p 0).toNat = l.length → 1 ≤ l.length → l.length ≤ 63 → p + 1 + l.length ≤ m.length → (m.take (p + 1 + l.length)).drop (p + 1) = l → Rd m b (p + 1 + l.length) n e → Rd m b p (l :: n) e
  | ptr {b p q n e} : p + 1 < m.length → 192 ≤ (m.getD p 0).toNat → (m.getD p 0).toNat * 256 + (m.getD (p + 1) 0).toNat - 49152 = q → q < b → Rd m q q n e → Rd m b p n (p + 2)
theorem getD_app (m y : List UInt8) (p : Nat) (h : p < m.length) : (m ++ y).getD p 0 = m.getD p 0 := by
  simp [List.getD, List.getElem?_append_left h]
theorem Rd.app {m : List UInt8} {b p : Nat} {n : List (List UInt8)} {e : Nat} (h : Rd m b p n e) (y : List UInt8) : Rd (m ++ y) b p n e := by
  induction h with
  | nil h1 h2 => exact .nil (by simp; omega) (by rw [getD_app _ _ _ h1]; exact h2)
  | cons h1 h2 h3 h4 h5 h6 _ ih =>
    exact .cons (by simp; omega) (by rw [getD_app _ _ _ h1]; exact h2) h3 h4 (by simp; omega) (by rw [List.take_append_of_le_length h5]; exact h6) ih
  | ptr h1 h2 h3 h4 _ ih =>
    exact .ptr (by simp; omega) (by rw [getD_app _ _ _ (by omega)]; exact h2) (by rw [getD_app _ _ _ (by omega), getD_app _ _ _ h1]; exact h3) h4 ih
theorem Rd.mono {m : List UInt8} {b p : Nat} {n : List (List UInt8)} {e : Nat} (h : Rd m b p n e) : ∀ b', b ≤ b' → Rd m b' p n e := by
  induction h with
  | nil h1 h2 => intro b' hb; exact .nil h1 h2
  | cons h1 h2 h3 h4 h5 h6 _ ih => intro b' hb; exact .cons h1 h2 h3 h4 h5 h6 (ih b' hb)
  | ptr h1 h2 h3 h4 h5 ih => intro b' hb; exact .ptr h1 h2 h3 (by omega) h5
/-- The table's rows stand where it says. -/
def TabOk (m : List UInt8) (T : List (List (List UInt8) × Nat)) : Prop := ∀ r ∈ T, r.1 ≠ [] ∧ r.2 < 16384 ∧ r.2 < m.length ∧ ∃ e, Rd m r.2 r.2 r.1 e
theorem TabOk.app {m : List UInt8} {T : List (List (List UInt8) × Nat)} (h : TabOk m T) (y : List UInt8) : TabOk (m ++ y) T := by
  intro r hr
  obtain ⟨h1, h2, h3, e, h4⟩ := h r hr
  exact ⟨h1, h2, by simp; omega, e, h4.app y⟩
theorem ptr_octs (q0 : Nat) (h : q0 < 16384) : putB 2 (49152 + q0) = [UInt8.ofNat (192 + q0 / 256), UInt8.ofNat (q0 % 256)] := by
  have e1 : ((49152 + (q0 : Int)) / 256 % 256).toNat = 192 + q0 / 256 := by omega
  have e2 : ((49152 + (q0 : Int)) % 256).toNat = q0 % 256 := by omega
  simp [putB, e1, e2]
theorem getD_at (x y : List UInt8) (c : UInt8) : (x ++ c :: y).getD x.length 0 = c := by simp [List.getD]
theorem getD_at1 (x y : List UInt8) (c d : UInt8) : (x ++ c :: d :: y).getD (x.length + 1) 0 = d := by simp [List.getD]
theorem ptr_back (q0 : Nat) (h : q0 < 16384) : (UInt8.ofNat (192 + q0 / 256)).toNat * 256 + (UInt8.ofNat (q0 % 256)).toNat - 49152 = q0 := by
  rw [ofNat_toNat63 (by omega), ofNat_toNat63 (by omega)]; omega
/-- What is put is read, and so are the rows that come into the table. -/
theorem pgo_rd (T : List (List (List UInt8) × Nat)) (first : List UInt8) (hT : TabOk first T) : ∀ (n : List (List UInt8)) (pre : List UInt8), GoodN n →
    (∃ a, (pgo T first.length pre n).1 = pre ++ a ∧ a.length ≤ lsum n + 1 ∧ 1 ≤ a.length ∧ ∀ b, first.length ≤ b → Rd (first ++ (pre ++ a)) b (first.length + pre.length) n (first.length + pre.length + a.length)) ∧
    TabOk (first ++ (pgo T first.length pre n).1) (pgo T first.length pre n).2 := by
  intro n
  induction n with
  | nil =>
    intro pre _
    refine ⟨⟨[0], rfl, by simp [lsum], by simp, fun b _ => ?_⟩, by simp [pgo, TabOk]⟩
    refine .nil (by simp) ?_
    rw [← List.append_assoc, ← List.length_append, getD_at]; rfl
  | cons l n ih =>
    intro pre hg
    have hl := hg l (List.mem_cons_self ..)
    cases hk : look T (l :: n) with
    | some q0 =>
      rw [pgo_some hk]
      have hm := look_mem hk
      obtain ⟨h1, h2, h3, e, h4⟩ := hT _ hm
      simp only at h1 h2 h3 h4
      simp only
      refine ⟨⟨putB 2 (49152 + q0), rfl, by rw [putB_length]; simp [lsum]; omega, by rw [putB_length]; omega, fun b hb => ?_⟩, by simp [TabOk]⟩
      rw [putB_length, ptr_octs q0 h2]
      refine .ptr (q := q0) (e := e) (by simp; omega) ?_ ?_ (by omega) ?_
      · rw [← List.append_assoc, ← List.length_append, getD_at, ofNat_toNat63 (by omega)]; omega
      · rw [← List.append_assoc, ← List.length_append, getD_at, getD_at1]; exact ptr_back q0 h2
      · exact h4.app _
    | none =>
      rw [pgo_no hk]
      obtain ⟨⟨a, ha, hla, hla1, hr⟩, ht⟩ := ih (pre ++ encL l) hg.tail
      have hR : ∀ b, first.length ≤ b → Rd (first ++ (pre ++ (encL l ++ a))) b (first.length + pre.length) (l :: n) (first.length + pre.length + (encL l ++ a).length) := by
        intro b hb
        have := hr b hb
        rw [List.append_assoc] at this
        rw [show first.length + (pre ++ encL l).length = first.length + pre.length + 1 + l.length by simp [encL]; omega] at this
        rw [show first.length + pre.length + (encL l ++ a).length = first.length + pre.length + 1 + l.length + a.length by simp [encL]; omega]
        refine .cons (by simp [encL]) ?_ hl.1 hl.2 (by simp [encL]; omega) ?_ this
        · rw [← List.append_assoc, ← List.length_append]
          simp only [encL, List.cons_append]
          rw [getD_at, ofNat_toNat63 (by omega)]
        · have e1 : first ++ (pre ++ (encL l ++ a)) = (first ++ pre ++ [UInt8.ofNat l.length]) ++ (l ++ a) := by simp [encL]
          have e2 : first.length + pre.length + 1 = (first ++ pre ++ [UInt8.ofNat l.length]).length := by simp; omega
          rw [e1, e2, List.drop_take, List.drop_left, Nat.add_sub_cancel_left, List.take_left]
      refine ⟨⟨encL l ++ a, by rw [ha]; simp, by rw [List.length_append, encL_length, lsum]; omega, by rw [List.length_append]; omega, hR⟩, ?_⟩
      intro r hr'
      rcases List.mem_append.1 hr' with h | h
      · by_cases hc : low first.length pre.length = true
        · rw [if_pos hc, List.mem_singleton] at h
          have hc' := (low_iff _ _).1 hc
          have e : (((first.length : Int)) + (pre.length : Int)).toNat = first.length + pre.length := by omega
          rw [e] at h
          rw [h]
          refine ⟨by simp, by omega, ?_, first.length + pre.length + (encL l ++ a).length, ?_⟩
          · rw [ha]; simp [encL]
          · rw [ha, List.append_assoc]; exact hR _ (by omega)
        · rw [if_neg hc] at h; cases h
      · exact ht r h
/-- Without a table. -/
theorem pgo_none (at_ : Int) : ∀ (n : List (List UInt8)) (pre : List UInt8), (pgo [] at_ pre n).1 = pre ++ encN n ++ [0] := by
  intro n
  induction n with
  | nil => intro pre; simp [pgo]
  | cons l n ih =>
    intro pre
    rw [pgo_no rfl, ih, encN_cons]; simp
end Go.Proofs.Ytlmgdogblbigpaa

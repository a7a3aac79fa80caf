/-
  What octets say, plainly: names, numbers, records' data, questions, records, messages.
-/
import Derived.Test.YtlmgdogblbigpaaGQ
import Derived.Test.YtlmgdogblbigpaaGH
namespace Go.Proofs.Ytlmgdogblbigpaa
set_option linter.unusedVariables false
set_option linter.unusedSimpArgs false

/-- The name at an offset, and the offset behind it. -/
def nameAt (m : List UInt8) (p : Nat) : Except Int (List (List UInt8) × Nat) := match pget m p with
  | .ok l n => .ok (l, n)
  | .err e => .error e
  | .go _ => .error 0
/-- .. of data that end with the octets. -/
def nameE (m : List UInt8) (p : Nat) : Except Int (List (List UInt8) × Nat) := match nameAt m p with
  | .ok x => .ok x
  | .error e => .error (if e = 1 then 5 else e)
/-- The number of k octets at an offset. -/
def numAt (m : List UInt8) (k p : Nat) : Except Int (Nat × Nat) := if m.length < p + k then .error 1 else .ok (numB ((m.take (p + k)).drop p), p + k)
/-- A name with which data end. -/
def targAt (s : List UInt8) (p : Nat) : Except Int (List (List UInt8)) := match nameE s p with
  | .error e => .error e
  | .ok (l, q) => if q = s.length then .ok l else .error 5
def numsAt (s : List UInt8) (p : Nat) : List Int := [(numB ((s.drop p).take 4) : Int), (numB ((s.drop (p + 4)).take 4) : Int), (numB ((s.drop (p + 8)).take 4) : Int), (numB ((s.drop (p + 12)).take 4) : Int), (numB ((s.drop (p + 16)).take 4) : Int)]
/-- What the data at an offset say. -/
def getR (m : List UInt8) (a n : Nat) (ty cl : Int) : Except Int RR :=
  if kindR ty cl = 1 then (if n = 4 then .ok { RR.zero with ad := ⟨4, (m.take (a + n)).drop a ++ List.replicate 12 0, 0⟩ } else .error 5)
  else if kindR ty cl = 28 then (if n = 16 then .ok { RR.zero with ad := ⟨6, (m.take (a + n)).drop a, 0⟩ } else .error 5)
  else if kindR ty cl = 5 ∨ kindR ty cl = 12 then (match targAt (m.take (a + n)) a with
    | .error e => .error e
    | .ok l => .ok { RR.zero with tg := l })
  else if kindR ty cl = 33 then (if n < 6 then .error 5 else match targAt (m.take (a + n)) (a + 6) with
    | .error e => .error e
    | .ok l => .ok { RR.zero with pri := numB (((m.take (a + n)).drop a).take 2), we := numB ((((m.take (a + n)).drop a).drop 2).take 2), po := numB ((((m.take (a + n)).drop a).drop 4).take 2), tg := l })
  else if kindR ty cl = 6 then (match nameE (m.take (a + n)) a with
    | .error e => .error e
    | .ok (l, p) => match nameE (m.take (a + n)) p with
      | .error e => .error e
      | .ok (l', q) => if q + 20 = (m.take (a + n)).length then .ok { RR.zero with tg := l, ml := l', nums := numsAt (m.take (a + n)) q } else .error 5)
  else .ok { RR.zero with raw := (m.take (a + n)).drop a }
def questAt (m : List UInt8) (p : Nat) : Except Int (Qn × Nat) := match nameAt m p with
  | .error e => .error e
  | .ok (n, p) => match numAt m 2 p with
    | .error e => .error e
    | .ok (ty, p) => match numAt m 2 p with
      | .error e => .error e
      | .ok (cl, p) => .ok (⟨n, ty, cl⟩, p)
def recAt (m : List UInt8) (p : Nat) : Except Int (RR × Nat) := match nameAt m p with
  | .error e => .error e
  | .ok (n, p) => match numAt m 2 p with
    | .error e => .error e
    | .ok (ty, p) => match numAt m 2 p with
      | .error e => .error e
      | .ok (cl, p) => match numAt m 4 p with
        | .error e => .error e
        | .ok (ttl, p) => match numAt m 2 p with
          | .error e => .error e
          | .ok (sz, p) => if m.length < p + sz then .error 1 else match getR m p sz ty cl with
            | .error e => .error e
            | .ok r => .ok ({ r with name := n, ty := ty, cl := cl, ttl := ttl }, p + sz)
/-- The next n of a kind. -/
def manyAt {α : Type} (f : Nat → Except Int (α × Nat)) : Nat → Nat → Except Int (List α × Nat)
  | 0, p => .ok ([], p)
  | k + 1, p => match f p with
    | .error e => .error e
    | .ok (x, p) => match manyAt f k p with
      | .error e => .error e
      | .ok (l, p) => .ok (x :: l, p)
/-- What stands behind a part that is read. -/
def behindL {α : Type} (acc : List α) (o : Except Int (List α × Nat)) : Except Int (List α × Nat) := match o with
  | .error e => .error e
  | .ok (l, p) => .ok (acc ++ l, p)
theorem many_step {α : Type} {f : Nat → Except Int (α × Nat)} {acc : List α} {k p p' : Nat} {x : α} (h : f p = .ok (x, p')) : behindL acc (manyAt f (k + 1) p) = behindL (acc ++ [x]) (manyAt f k p') := by
  simp only [manyAt, h]
  cases manyAt f k p' with
  | error e => rfl
  | ok y => obtain ⟨l, q⟩ := y; simp [behindL]
theorem many_fail {α : Type} {f : Nat → Except Int (α × Nat)} {acc : List α} {k p : Nat} {e : Int} (h : f p = .error e) : behindL acc (manyAt f (k + 1) p) = .error e := by
  simp only [manyAt, h, behindL]
theorem many_zero {α : Type} {f : Nat → Except Int (α × Nat)} {acc : List α} {p : Nat} : behindL acc (manyAt f 0 p) = .ok (acc, p) := by simp [manyAt, behindL]
theorem behind_nil {α : Type} (o : Except Int (List α × Nat)) : behindL [] o = o := by
  cases o with
  | error e => rfl
  | ok y => obtain ⟨l, q⟩ := y; simp [behindL]
/-- What octets are. -/
def decM (m : List UInt8) : Except Int Msg :=
  if 65535 < m.length then .error 3
  else if m.length < 12 then .error 1
  else match manyAt (questAt m) (at2 m 4) 12 with
    | .error e => .error e
    | .ok (q, p) => match manyAt (recAt m) (at2 m 6) p with
      | .error e => .error e
      | .ok (a, p) => match manyAt (recAt m) (at2 m 8) p with
        | .error e => .error e
        | .ok (u, p) => match manyAt (recAt m) (at2 m 10) p with
          | .error e => .error e
          | .ok (x, p) => if p < m.length then .error 2 else .ok ⟨hdOf (at2 m 0) (at2 m 2), q, a, u, x⟩
/-- The errors of names. -/
def nErr (e : Int) : Prop := e = 1 ∨ e = 3 ∨ e = 4 ∨ e = 7 ∨ e = 9
theorem nErr.ne {e : Int} (h : nErr e) : e ≠ 0 := by unfold nErr at h; omega
theorem nErr.nz {e : Int} (h : nErr e) : (e != 0) = true := by simp; exact h.ne
theorem nameAt_cases (m : List UInt8) (p : Nat) : (∃ l n, pget m p = .ok l n ∧ nameAt m p = .ok (l, n) ∧ n ≤ m.length ∧ GoodN l ∧ 1 + lsum l ≤ 255) ∨ (∃ e, pget m p = .err e ∧ nameAt m p = .error e ∧ nErr e) := by
  have := pget_fin m p
  unfold nameAt
  cases h : pget m (p : Int) with
  | ok l n => rw [h] at this; exact .inl ⟨l, n, rfl, rfl, this.2.2, this.1, this.2.1⟩
  | err e => rw [h] at this; exact .inr ⟨e, rfl, rfl, this⟩
  | go s => rw [h] at this; exact False.elim this
/-- The errors of names in data. -/
def dErr (e : Int) : Prop := e = 5 ∨ e = 3 ∨ e = 4 ∨ e = 7 ∨ e = 9
theorem dErr.ne {e : Int} (h : dErr e) : e ≠ 0 := by unfold dErr at h; omega
theorem dErr.nz {e : Int} (h : dErr e) : (e != 0) = true := by simp; exact h.ne
theorem nameE_cases (m : List UInt8) (p : Nat) : (∃ l n, pget m p = .ok l n ∧ nameE m p = .ok (l, n) ∧ n ≤ m.length ∧ GoodN l ∧ 1 + lsum l ≤ 255) ∨ (∃ e, pget m p = .err e ∧ nameE m p = .error (if e = 1 then 5 else e) ∧ nErr e ∧ dErr (if e = 1 then 5 else e)) := by
  unfold nameE
  rcases nameAt_cases m p with ⟨l, n, h1, h2, h3⟩ | ⟨e, h1, h2, h3⟩
  · exact .inl ⟨l, n, h1, by rw [h2], h3⟩
  · refine .inr ⟨e, h1, by rw [h2], h3, ?_⟩
    unfold nErr at h3; unfold dErr
    split <;> omega
end Go.Proofs.Ytlmgdogblbigpaa

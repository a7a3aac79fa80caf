/-
  Layer 14, the reference: the reader: section.
-/
import Derived.Test.YtlmgdogblbigpaaRr1
import Derived.Test.YtlmgdogblbigpaaRg5
import Derived.Test.YtlmgdogblbigpaaMr3
namespace Go.Proofs.Ytlmgdogblbigpaa
open Go.RowKit
set_option maxRecDepth 100000
set_option linter.unusedVariables false
set_option linter.unusedSimpArgs false

/-- A name, or a number, whatever stands before it. -/
def AnyRet {α : Type} (V : World → Value → α → Prop) (x0 : α) (f : Nat → Except Int (α × Nat)) (g : Nat) (m : List UInt8) (a y : Int) (w : World) (e : Ending) (w' : World) : Prop :=
  ∃ v x p y', e = .returned v ∧ V w' v x ∧ RdX w' g m p y' ∧ w.grownBy w' (some g) ∧ ((y ≠ 0 → y' = y ∧ x = x0) ∧ (y = 0 → ∀ k : Nat, a = k → k ≤ m.length → Step (f k) m.length x p y'))
theorem refname_all (g : Nat) (m : List UInt8) (a y : Int) (w : World) (h : RdX w g m a y) (hl : m.length ≤ 65535) (ha : y = 0 → ∃ k : Nat, a = k ∧ k ≤ m.length) :
    Calls Try.prog 86 #[.pointer (some ⟨g, 0, none⟩)] w (AnyRet NmO [] (nameAt m) g m a y w) := by
  by_cases hy : y = 0
  · subst hy
    obtain ⟨k, rfl, hk⟩ := ha rfl
    refine (refname_any g m k w h hl).mono ?_
    rintro e w' ⟨v, x, p, y', h1, h2, h3, h4, h5⟩
    exact ⟨v, x, p, y', h1, h2, h3, h4, fun h => absurd rfl h, fun _ j hj _ => by obtain rfl : k = j := by omega
                                                                                  exact h5⟩
  · refine (refname_idle g m a y w h hy).mono ?_
    rintro e w' ⟨h1, h2, h3⟩
    exact ⟨_, [], a, y, h1, NmO.nil w', h2, grown_of_below h3 _, fun _ => ⟨rfl, rfl⟩, fun h => absurd h hy⟩
theorem refnum_all (g : Nat) (m : List UInt8) (a y : Int) (k : Nat) (w : World) (h : RdX w g m a y) (hl : m.length ≤ 65535) (hk : k = 2 ∨ k = 4) (ha : y = 0 → ∃ k : Nat, a = k ∧ k ≤ m.length) :
    Calls Try.prog 87 #[.pointer (some ⟨g, 0, none⟩), .int .i64 k] w (AnyRet (fun _ v n => v = .int .i64 ((n : Nat) : Int)) 0 (numAt m k) g m a y w) := by
  by_cases hy : y = 0
  · subst hy
    obtain ⟨j, rfl, hj⟩ := ha rfl
    refine (refnum_any g m j k w h hl hj hk).mono ?_
    rintro e w' ⟨v, x, p, y', h1, h2, h3, h4, h5⟩
    exact ⟨v, x, p, y', h1, h2, h3, h4, fun h => absurd rfl h, fun _ i hi _ => by obtain rfl : j = i := by omega
                                                                                  exact h5⟩
  · refine (refnum_idle g m a y k w h hy).mono ?_
    rintro e w' ⟨h1, h2, h3⟩
    exact ⟨_, 0, a, y, h1, rfl, h2, grown_of_below h3 _, fun _ => ⟨rfl, rfl⟩, fun h => absurd h hy⟩
theorem Step.ok0 {α : Type} {o : Except Int (α × Nat)} {len : Nat} {x : α} {p y : Int} (h : Step o len x p y) (hy : y = 0) : ∃ q : Nat, o = .ok (x, q) ∧ p = q ∧ q ≤ len := by
  cases o with
  | error z => obtain ⟨h1, h2⟩ := h; omega
  | ok z => obtain ⟨x0, q⟩ := z; obtain ⟨h1, h2, h3, h4⟩ := h; subst h1; exact ⟨q, rfl, h2, h4⟩
theorem Step.err {α : Type} {o : Except Int (α × Nat)} {len : Nat} {x : α} {p y : Int} (h : Step o len x p y) (hy : y ≠ 0) : o = .error y := by
  cases o with
  | error z => obtain ⟨h1, h2⟩ := h; rw [h1]
  | ok z => obtain ⟨x0, q⟩ := z; obtain ⟨h1, h2, h3, h4⟩ := h; omega
/-- One more part, as AnyRet tells it. -/
def Next {α : Type} (x0 : α) (f : Nat → Except Int (α × Nat)) (len : Nat) (a y : Int) (x : α) (p y' : Int) : Prop := (y ≠ 0 → y' = y ∧ x = x0) ∧ (y = 0 → ∀ k : Nat, a = k → k ≤ len → Step (f k) len x p y')
theorem Next.ok0 {α : Type} {x0 : α} {f : Nat → Except Int (α × Nat)} {len : Nat} {a y : Int} {x : α} {p y' : Int} (h : Next x0 f len a y x p y') (hy : y' = 0) (ha : y = 0 → ∃ k : Nat, a = k ∧ k ≤ len) : y = 0 ∧ ∃ k q : Nat, a = k ∧ f k = .ok (x, q) ∧ p = q ∧ q ≤ len := by
  by_cases h0 : y = 0
  · obtain ⟨k, hk, hl⟩ := ha h0
    obtain ⟨q, h1, h2, h3⟩ := (h.2 h0 k hk hl).ok0 hy
    exact ⟨h0, k, q, hk, h1, h2, h3⟩
  · have := (h.1 h0).1; omega
theorem Next.err {α : Type} {x0 : α} {f : Nat → Except Int (α × Nat)} {len : Nat} {a y : Int} {x : α} {p y' : Int} (h : Next x0 f len a y x p y') (hy : y' ≠ 0) (ha : y = 0 → ∃ k : Nat, a = k ∧ k ≤ len) : (y ≠ 0 ∧ y' = y) ∨ (y = 0 ∧ ∃ k : Nat, a = k ∧ f k = .error y') := by
  by_cases h0 : y = 0
  · obtain ⟨k, hk, hl⟩ := ha h0
    exact .inr ⟨h0, k, hk, (h.2 h0 k hk hl).err hy⟩
  · exact .inl ⟨h0, (h.1 h0).1⟩
theorem Next.pos {α : Type} {x0 : α} {f : Nat → Except Int (α × Nat)} {len : Nat} {a y : Int} {x : α} {p y' : Int} (h : Next x0 f len a y x p y') (ha : y = 0 → ∃ k : Nat, a = k ∧ k ≤ len) : y' = 0 → ∃ k : Nat, p = k ∧ k ≤ len := by
  intro hy
  obtain ⟨_, _, q, _, _, h3, h4⟩ := h.ok0 hy ha
  exact ⟨q, h3, h4⟩
/-- A record's head: what the five parts told. -/
theorem head5 {m : List UInt8} {j : Nat} {nm : List (List UInt8)} {p1 y1 : Int} {ty : Nat} {p2 y2 : Int} {cl : Nat} {p3 y3 : Int} {ttl : Nat} {p4 y4 : Int} {sz : Nat} {p5 y5 : Int}
    (s1 : Step (nameAt m j) m.length nm p1 y1) (s2 : Next 0 (numAt m 2) m.length p1 y1 ty p2 y2) (s3 : Next 0 (numAt m 2) m.length p2 y2 cl p3 y3) (s4 : Next 0 (numAt m 4) m.length p3 y3 ttl p4 y4) (s5 : Next 0 (numAt m 2) m.length p4 y4 sz p5 y5) :
    (y5 ≠ 0 ∧ recAt m j = .error y5) ∨ (y5 = 0 ∧ ∃ q : Nat, p5 = q ∧ q ≤ m.length ∧ sz < 65536 ∧ recAt m j = (if m.length < q + sz then .error 1 else match getR m q sz ty cl with
      | .error e => .error e
      | .ok r => .ok ({ r with name := nm, ty := ty, cl := cl, ttl := ttl }, q + sz))) := by
  have a1 : y1 = 0 → ∃ k : Nat, p1 = k ∧ k ≤ m.length := fun h => by obtain ⟨q, _, h2, h3⟩ := s1.ok0 h; exact ⟨q, h2, h3⟩
  have a2 := s2.pos a1
  have a3 := s3.pos a2
  have a4 := s4.pos a3
  by_cases h5 : y5 = 0
  · right
    obtain ⟨e4, k4, q5, i4, f5, i5, l5⟩ := s5.ok0 h5 a4
    obtain ⟨e3, k3, q4, i3, f4, i4', l4⟩ := s4.ok0 e4 a3
    obtain ⟨e2, k2, q3, i2, f3, i3', l3⟩ := s3.ok0 e3 a2
    obtain ⟨e1, k1, q2, i1, f2, i2', l2⟩ := s2.ok0 e2 a1
    obtain ⟨q1, f1, i1', l1⟩ := s1.ok0 e1
    obtain rfl : k1 = q1 := by omega
    obtain rfl : k2 = q2 := by omega
    obtain rfl : k3 = q3 := by omega
    obtain rfl : k4 = q4 := by omega
    refine ⟨h5, q5, i5, l5, numAt_lt2 f5, ?_⟩
    unfold recAt
    rw [f1]
    simp only
    rw [f2]
    simp only
    rw [f3]
    simp only
    rw [f4]
    simp only
    rw [f5]
    rfl
  · left
    refine ⟨h5, ?_⟩
    have hE : (y1 ≠ 0 → nameAt m j = .error y1) := fun h => s1.err h
    rcases s5.err h5 a4 with ⟨e4, rfl⟩ | ⟨e4, k4, i4, f5⟩
    · rcases s4.err e4 a3 with ⟨e3, rfl⟩ | ⟨e3, k3, i3, f4⟩
      · rcases s3.err e3 a2 with ⟨e2, rfl⟩ | ⟨e2, k2, i2, f3⟩
        · rcases s2.err e2 a1 with ⟨e1, rfl⟩ | ⟨e1, k1, i1, f2⟩
          · unfold recAt; rw [s1.err e1]
          · obtain ⟨q1, f1, i1', l1⟩ := s1.ok0 e1
            obtain rfl : k1 = q1 := by omega
            unfold recAt; rw [f1]; simp only; rw [f2]
        · obtain ⟨e1, k1, q2, i1, f2, i2', l2⟩ := s2.ok0 e2 a1
          obtain ⟨q1, f1, i1', l1⟩ := s1.ok0 e1
          obtain rfl : k1 = q1 := by omega
          obtain rfl : k2 = q2 := by omega
          unfold recAt; rw [f1]; simp only; rw [f2]; simp only; rw [f3]
      · obtain ⟨e2, k2, q3, i2, f3, i3', l3⟩ := s3.ok0 e3 a2
        obtain ⟨e1, k1, q2, i1, f2, i2', l2⟩ := s2.ok0 e2 a1
        obtain ⟨q1, f1, i1', l1⟩ := s1.ok0 e1
        obtain rfl : k1 = q1 := by omega
        obtain rfl : k2 = q2 := by omega
        obtain rfl : k3 = q3 := by omega
        unfold recAt; rw [f1]; simp only; rw [f2]; simp only; rw [f3]; simp only; rw [f4]
    · obtain ⟨e3, k3, q4, i3, f4, i4', l4⟩ := s4.ok0 e4 a3
      obtain ⟨e2, k2, q3, i2, f3, i3', l3⟩ := s3.ok0 e3 a2
      obtain ⟨e1, k1, q2, i1, f2, i2', l2⟩ := s2.ok0 e2 a1
      obtain ⟨q1, f1, i1', l1⟩ := s1.ok0 e1
      obtain rfl : k1 = q1 := by omega
      obtain rfl : k2 = q2 := by omega
      obtain rfl : k3 = q3 := by omega
      obtain rfl : k4 = q4 := by omega
      unfold recAt; rw [f1]; simp only; rw [f2]; simp only; rw [f3]; simp only; rw [f4]; simp only; rw [f5]
/-- What Get leaves, in one form. -/
def GetOne (o : Except Int RR) (w : World) (e : Ending) (w' : World) : Prop :=
  ∃ cs r x, e = .returned (.tuple #[.agg cs.toArray, .int .i64 x]) ∧ RRown w' cs r ∧ Below w.heap.size w w' ∧ ((x = 0 ∧ o = .ok r) ∨ (x ≠ 0 ∧ o = .error x))
theorem r13_one (m : List UInt8) (a n : Nat) (ty cl : Int) (w : World) (hm : a + n ≤ m.length) (hl : m.length ≤ 4000000) :
    Calls Try.prog 119 #[.string (bs m), .int .i64 a, .int .i64 n, .int .i64 ty, .int .i64 cl] w (GetOne (getR m a n ty cl) w) := by
  refine (r13_any m a n ty cl w hm hl).mono fun e w' h => ?_
  cases ho : getR m a n ty cl with
  | error x => rw [ho] at h; obtain ⟨h1, h2, h3⟩ := h; exact ⟨rrZ, RR.zero, x, h2, RRown.zero w', h3, .inr ⟨h1, rfl⟩⟩
  | ok r => rw [ho] at h; obtain ⟨cs, h1, h2, h3⟩ := h; exact ⟨cs, r, 0, h1, h2, h3, .inl ⟨rfl, rfl⟩⟩
end Go.Proofs.Ytlmgdogblbigpaa

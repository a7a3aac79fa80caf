/-
  PackedGets: the name that stands at any offset of any octets, or why there is none, as the reference tells it.
-/
import Derived.Test.YthnbcmlnpdabhaaGreatGHq
import Derived.Test.YthnbcmlnpdabhaaGreatPk10q
import Derived.Test.YthnbcmlnpdabhaaGreatGDq
namespace Go.Proofs.YthnbcmlnpdabhaaGreat
open _root_.Go.Proofs.Tryz
open Go.RowKit Go.Maps
set_option maxRecDepth 100000
set_option linter.unusedVariables false
def putZ (n : List (List UInt8)) : List UInt8 := if checkN n = 0 then encZ n else []
theorem putNil_any (A : Option Addr) (c : Nat) (n : List (List UInt8)) (at_ : Int) (w : World) (hA : NmR w A c n) :
  Calls prog 236 #[.pointer none, .slice A n.length c, .int .i64 at_] w (RetB (.tuple #[.string (bs (putZ n)), .int .i64 (checkN n)]) w) := by
 obtain ⟨h1, h2, h3, h4⟩ := hA
 by_cases hc : checkN n = 0
 ·
  unfold putZ; rw [if_pos hc]
  have := put_nil A c n at_ w h1 (by omega) hc
  rwa [hc]
 ·
  unfold putZ; rw [if_neg hc]
  exact (put_bad none A c n at_ w h1 (by omega) hc).mono fun _ _ h => h.toB
def PutAny (g b : Nat) (T : List (List (List UInt8) × Nat)) (n : List (List UInt8)) (at_ : Int) (w : World) (e : Ending) (w' : World) : Prop :=
 e = .returned (.tuple #[.string (bs (putS T at_ n)), .int .i64 (checkN n)]) ∧ TabAt w' g b (putT T at_ n) ∧ w.grownBy w' (some b)
theorem putTab_any (g b : Nat) (T : List (List (List UInt8) × Nat)) (A : Option Addr) (c : Nat) (n : List (List UInt8)) (at_ : Int) (w : World) (hT : TabAt w g b T) (hA : NmR w A c n) (hTl : T.length ≤ 900000) :
  Calls prog 236 #[.pointer (some ⟨g, 0, none⟩), .slice A n.length c, .int .i64 at_] w (PutAny g b T n at_ w) := by
 obtain ⟨h1, h2, h3, h4⟩ := hA
 by_cases hc : checkN n = 0
 ·
  refine (put_tab g b T A c n at_ w hT h1 (by omega) hc (by omega)).mono ?_
  rintro e w' ⟨rfl, h5, h6⟩
  unfold PutAny putS putT
  rw [if_pos hc, if_pos hc, hc]
  exact ⟨rfl, h5, h6⟩
 ·
  refine (put_bad (some ⟨g, 0, none⟩) A c n at_ w h1 (by omega) hc).mono ?_
  rintro e w' ⟨rfl, rfl⟩
  unfold PutAny putS putT
  rw [if_neg hc, if_neg hc]
  exact ⟨rfl, hT, World.grownBy.refl _ _⟩
theorem putT_length (T : List (List (List UInt8) × Nat)) (at_ : Int) (n : List (List UInt8)) : (putT T at_ n).length ≤ T.length + 254 := by
 unfold putT
 by_cases hc : checkN n = 0
 ·
  rw [if_pos hc, List.length_append]
  have hn : n.length ≤ 254 := by have := (checkN_ok hc).2; have := lsum_ge n; omega
  have : ∀ (n : List (List UInt8)) (pre : List UInt8), (pgo T at_ pre n).2.length ≤ n.length := by
   intro n
   induction n with
   | nil => intro pre; simp [pgo]
   | cons l n ih =>
    intro pre
    cases hk : look T (l :: n) with
    | some q => rw [pgo_some hk]; simp
    | none =>
     rw [pgo_no hk]
     have := ih (pre ++ encL l)
     simp only [List.length_append, List.length_cons]
     split <;> simp <;> omega
  have := this n []
  omega
 ·
  rw [if_neg hc]; omega
def NmsR (w : World) (A : Option Addr) (ls : List (List (List UInt8))) : Prop := 0 < ls.length → ∃ b off, A = some ⟨b, off, none⟩ ∧ b < w.heap.size ∧ ∀ i (hi : i < ls.length), ∃ Ai ci, w.cell? ⟨b, off + i, none⟩ = some (.slice Ai ls[i].length ci) ∧ NmR w Ai ci ls[i]
theorem fewN_any (A : Option Addr) (c : Nat) (n : List (List UInt8)) (w : World) (hA : NmR w A c n) : Calls prog 14 #[.slice A n.length c] w (Ret (.bool (decide (lsum n ≤ 400))) w) :=
 few_any A c n w hA.1 (by have := hA.2.2.1; omega) (fun l hl => by have := hA.2.2.2 l hl; omega)
def IntsR (w : World) (A : Option Addr) (l : List Int) : Prop := 0 < l.length → ∃ b off, A = some ⟨b, off, none⟩ ∧ b < w.heap.size ∧ ∀ i (hi : i < l.length), w.cell? ⟨b, off + i, none⟩ = some (.int .i64 l[i])
theorem TxtL.of {lo : Nat} {w w0 : World} {A : Option Addr} {c : Nat} {n : List (List UInt8)} (h : TxtR w0 A n) (hb : Below w0.heap.size w0 w) (hlo : w0.heap.size ≤ lo) : TxtL lo w (.slice A n.length c) n := by
 refine ⟨A, c, rfl, fun hp => ?_⟩
 obtain ⟨b, off, hA, hlt, hc⟩ := h hp
 exact ⟨b, off, hA, by omega, fun i hi => (hb.cell hlt).trans (hc i hi)⟩
end Go.Proofs.YthnbcmlnpdabhaaGreat

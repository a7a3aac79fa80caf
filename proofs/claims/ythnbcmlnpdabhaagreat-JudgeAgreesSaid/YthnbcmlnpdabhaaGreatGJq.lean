/-
  PackedGets: the name that stands at any offset of any octets, or why there is none, as the reference tells it.
-/
import Derived.Test.YthnbcmlnpdabhaaGreatGHq
import Derived.Test.YthnbcmlnpdabhaaGreatPk10q
import Derived.Test.YthnbcmlnpdabhaaGreatGDq
namespace Go.Proofs.YthnbcmlnpdabhaaGreat
open _root_.Go.Proofs.Tryz
open Go.RowKit Go.Maps
set_option maxRecDepth 100000
set_option linter.unusedVariables false
def rR (n : List (List UInt8)) : List UInt8 := if nH n = 0 then Gp n else []
theorem zT (A : Option Addr) (c : Nat) (n : List (List UInt8)) (at_ : Int) (w : World) (hA : rQ w A c n) :
  Calls prog 236 #[.pointer none, .slice A n.length c, .int .i64 at_] w (nM (.tuple #[.string (bs (rR n)), .int .i64 (nH n)]) w) := by
 obtain ⟨h1, h2, h3, h4⟩ := hA;by_cases hc : nH n = 0
 ·unfold rR; rw [if_pos hc];have := RX A c n at_ w h1 ak hc;rwa [hc]
 ·unfold rR; rw [if_neg hc];exact (Kw none A c n at_ w h1 ak hc).mono fun _ _ h => h.Vk
def Jk (g b : Nat) (T : List (List (List UInt8) × Nat)) (n : List (List UInt8)) (at_ : Int) (w : World) (e : Ending) (w' : World) : Prop :=
 e = .returned (.tuple #[.string (bs (Cz T at_ n)), .int .i64 (nH n)]) /\ tD w' g b (EB T at_ n) /\ w.grownBy w' (some b)
theorem Jl (g b : Nat) (T : List (List (List UInt8) × Nat)) (A : Option Addr) (c : Nat) (n : List (List UInt8)) (at_ : Int) (w : World) (hT : tD w g b T) (hA : rQ w A c n) (hTl : T.length <= 900000) :
  Calls prog 236 #[.pointer (some ⟨g, 0, none⟩), .slice A n.length c, .int .i64 at_] w (Jk g b T n at_ w) := by
 obtain ⟨h1, h2, h3, h4⟩ := hA;by_cases hc : nH n = 0
 ·refine (Sa g b T A c n at_ w hT h1 ak hc ak).mono ?_;rintro e w' ⟨rfl, h5, h6⟩;unfold Jk Cz EB;rw [if_pos hc, if_pos hc, hc];exact ⟨rfl, h5, h6⟩
 ·refine (Kw (some ⟨g, 0, none⟩) A c n at_ w h1 ak hc).mono ?_;rintro e w' ⟨rfl, rfl⟩;unfold Jk Cz EB;rw [if_neg hc, if_neg hc];exact ⟨rfl, hT, World.grownBy.refl _ _⟩
theorem GB (T : List (List (List UInt8) × Nat)) (at_ : Int) (n : List (List UInt8)) : (EB T at_ n).length <= T.length + 254 := by
 unfold EB;by_cases hc : nH n = 0
 ·
  rw [if_pos hc, List.length_append];have hn : n.length <= 254 := by have := (qB hc).2; have := wB n; omega
  have : ∀ (n : List (List UInt8)) (pre : List UInt8), (wY T at_ pre n).2.length <= n.length := by
   intro n;induction n with
   | nil => intro pre; simp [wY]
   | cons l n ih =>
    intro pre;cases hk : look T (l :: n) with
    | some q => rw [xF hk]; simp
    | none => rw [zG hk];have := ih (pre ++ r7 l);simp only [List.length_append, List.length_cons];split <;> simp <;> omega
  have := this n [];omega
 ·rw [if_neg hc]; omega
def yu (w : World) (A : Option Addr) (ls : List (List (List UInt8))) : Prop := 0 < ls.length -> ∃ b off, A = some ⟨b, off, none⟩ /\ b < w.heap.size /\ ∀ i (hi : i < ls.length), ∃ Ai ci, w.cell? ⟨b, off + i, none⟩ = some (.slice Ai ls[i].length ci) /\ rQ w Ai ci ls[i]
theorem GC (A : Option Addr) (c : Nat) (n : List (List UInt8)) (w : World) (hA : rQ w A c n) : Calls prog 14 #[.slice A n.length c] w (rN (.bool (decide (oC n <= 400))) w) :=
 RJ A c n w hA.1 aM (fun l hl => by have := hA.2.2.2 l hl; omega)
def xN (w : World) (A : Option Addr) (l : List Int) : Prop := 0 < l.length -> ∃ b off, A = some ⟨b, off, none⟩ /\ b < w.heap.size /\ ∀ i (hi : i < l.length), w.cell? ⟨b, off + i, none⟩ = some (.int .i64 l[i])
theorem Vz.of {lo : Nat} {w w0 : World} {A : Option Addr} {c : Nat} {n : List (List UInt8)} (h : vz w0 A n) (hb : Below w0.heap.size w0 w) (hlo : w0.heap.size <= lo) : Vz lo w (.slice A n.length c) n := by
 refine ⟨A, c, rfl, fun hp => ?_⟩;obtain ⟨b, off, hA, hlt, hc⟩ := h hp;exact ⟨b, off, hA, ak, fun i hi => (hb.cell hlt).trans (hc i hi)⟩
end Go.Proofs.YthnbcmlnpdabhaaGreat

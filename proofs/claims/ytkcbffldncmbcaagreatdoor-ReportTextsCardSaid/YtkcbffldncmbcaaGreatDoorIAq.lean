/-
  What stays when the blocks of exchanges, dials and lots are written: a frame by blocks and their types.
-/
import Derived.Test.YtkcbffldncmbcaaGreatDoorHGq
namespace Go.Proofs.YtkcbffldncmbcaaGreatDoor
open _root_.Go.Proofs.Tryz
open Go.RowKit
set_option maxRecDepth 100000
set_option linter.unusedVariables false
set_option linter.unusedSimpArgs false
theorem run_appG {P : Program} (w : World) (t ty : TypeId) (e : TypeId) (z : Value) (size bytes : Nat) (ht : P.underlying t = some (.slice e)) (hi : (P.info? e).map (fun i => (i.zero, i.size, i.bytes)) = some (some z, size, bytes)) (hzs : z.cells.size = size) (hsz : 0 < size)
  (B : Nat) (v : Value) (n : Nat) (xs : List Value) (hown : w.ownsRow B e size v n xs) (hB : B ≤ w.heap.size) (A : Option Addr) (m c : Nat) (news : List Value) (hn : 0 < m → ∃ b off, A = some ⟨b, off, none⟩ ∧ w.rangeAt b off news) (hl : news.length = m * size) (h1 : ∀ u ∈ news, u.oneCell' = true) (h63 : n + m ≤ maxLen) (hbytes : (n + m) * bytes ≤ 140737488355328) :
  ∃ v' w', (Builtin.append_ #[t, t] ty #[v, .slice A m c]).run P w = .ok v' w' ∧ w'.ownsRow B e size v' (n + m) (xs ++ news) ∧ w.grownBy w' v.ownBlock := by
 obtain ⟨i, hi, hz, hsize, hby⟩ := info_parts hi
 by_cases hm : 0 < m
 ·
  obtain ⟨b, off, rfl, hr⟩ := hn hm
  obtain ⟨v', w', hr, h2, h3, _, h5⟩ := run_append_own_at (P := P) w B t ty e i _ size bytes ht hi hz hsize hby hzs (by omega) v n xs hown ⟨b, off, none⟩ m c news hl (fun j u hu => by
   have hadd : (⟨b, off, none⟩ : Addr).add j = ⟨b, off + j, none⟩ := by unfold Addr.add; split <;> simp_all
   rw [hadd]; exact hr j u hu) h1 h63 hbytes hB
  exact ⟨v', w', hr, h2, h3⟩
 ·
  obtain rfl : m = 0 := by omega
  have hnil : news = [] := List.length_eq_zero_iff.1 (by omega)
  subst hnil
  have hv : ∃ A' c', v = .slice A' n c' ∧ n ≤ c' := by
   rcases hown.2 with ⟨rfl, rfl⟩ | ⟨g, cap, cur, rfl, _, _, hc, _⟩
   ·
    exact ⟨none, 0, rfl, Nat.le_refl _⟩
   ·
    exact ⟨_, _, rfl, hc⟩
  obtain ⟨A', c', rfl, hcap⟩ := hv
  refine ⟨.slice A' n c', w, ?_, by simpa using hown, World.grownBy.refl _ _⟩
  cases A with
  | none => cases A' <;> simp [Builtin.append_, run_underlying ht, sizeOf, typeInfo, hi, hsize, Builtin.lenOf, hcap, Builtin.firstCells, storeCells]
  | some ad =>
   have hl0 : (loadCells ad 0).run P w = .ok #[] w := rfl
   cases A' <;> simp [hl0, Builtin.append_, run_underlying ht, sizeOf, typeInfo, hi, hsize, Builtin.lenOf, hcap, Builtin.firstCells, storeCells]
def LIn {α : Type} (w : World) (k : Nat) (R : List Value → α → Prop) (A : Option Addr) (l : List α) : Prop := 0 < l.length → ∃ b off, A = some ⟨b, off, none⟩ ∧ b < w.heap.size ∧ ∀ i (hi : i < l.length), ∃ cs, w.rangeAt b (off + i * k) cs ∧ R cs l[i]
theorem LIn.mono {α : Type} {w w' : World} {k : Nat} {R R' : List Value → α → Prop} {A : Option Addr} {l : List α} (h : LIn w k R A l) (hb : Below w.heap.size w w') (hm : ∀ cs x, R cs x → R' cs x) : LIn w' k R' A l := by
 intro hp
 obtain ⟨b, off, h1, h2, h3⟩ := h hp
 refine ⟨b, off, h1, Nat.lt_of_lt_of_le h2 hb.size, fun i hi => ?_⟩
 obtain ⟨cs, h4, h5⟩ := h3 i hi
 exact ⟨cs, range_below h4 hb h2, hm _ _ h5⟩
theorem blkAll {w : World} {g n : Nat} {t : TypeId} {L M : List Value} (h : Blk w g t (L ++ M.drop n)) (hM : M.length ≤ n) : Blk w g t L := by
 rwa [List.drop_of_length_le hM, List.append_nil] at h
theorem run_bsG {P : Program} (w : World) (t e : TypeId) (z : Value) (n bytes : Nat) (ht : P.underlying t = some (.slice e)) (hi : (P.info? e).map (fun i => (i.zero, i.size, i.bytes)) = some (some z, n, bytes)) (hn : 0 < n) (hn2 : n ≤ 1000) (cs : List Value) (hl : cs.length = n) : (Instr.buildSlice t 1 #[(0, .agg cs.toArray)]).run P w = .ok (.slice (some ⟨w.heap.size, 0, none⟩) 1 1) (w.alloc (.cells cs.toArray e)) := by
 obtain ⟨i, hi, hz, hsize, hby⟩ := info_parts hi
 refine run_buildSlice w t e 1 _ cs.toArray i _ ht hi hz (by rw [hsize]; omega) (by rw [hsize]; omega) ?_
 rw [hsize]
 have := fill_one n ((Array.range (1 * n)).map (z.cells[· % z.cells.size]!)).toList cs hl (by simp)
 rw [Array.toArray_toList] at this
 exact this
end Go.Proofs.YtkcbffldncmbcaaGreatDoor

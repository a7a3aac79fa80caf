/-
  Layer 12 (packed): tables as maps; New; Put without a table, and of names that may not be.
-/
import Derived.Test.YtlmgdogblbigpaaPk6
namespace Go.Proofs.Ytlmgdogblbigpaa
open Go.RowKit Go.Maps
set_option maxRecDepth 100000
set_option linter.unusedVariables false

theorem strKeyed : Keyed Try.prog 9 := string_keyed Try.underlying9
theorem zeroInt (w : World) : (zeroValue 3).run Try.prog w = .ok (.int .i64 0) w := by kernel_rfl
/-- Block b is a map from texts to numbers, of at most n entries. -/
def MapOf (w : World) (b n : Nat) (f : List UInt8 → Option Nat) : Prop :=
  ∃ D : DataW Unit, w.ownsMap Try.prog 9 (plainElem Try.prog 3) b n D ∧ ∀ k, match f k with
    | none => Maps.has D (.string k) = false
    | some x => Maps.has D (.string k) = true ∧ ∀ z, D.atKey (.string k) z = .lit (.int .i64 (x : Int))
theorem keyStr (k : List UInt8) (hk : k.length ≤ maxLen) : keyOf Try.prog 9 (.string (bs k)) = some (Lit.string k) := by
  have := WideMaps.keyOf_string_mk Try.underlying9 (s := bs k) (by rw [bs_size]; exact hk)
  rwa [bs_data] at this
theorem MapOf.made (w : World) : MapOf (w.alloc (.map #[] 0)) w.heap.size 0 (fun _ => none) := ⟨.map [], World.ownsMap_made _ _ _ _, fun k => rfl⟩
theorem MapOf.look {w : World} {b n : Nat} {f : List UInt8 → Option Nat} (h : MapOf w b n f) (k : List UInt8) (hk : k.length ≤ maxLen) :
    (Instr.lookup 106 (.map (some b)) (.string (bs k)) true).run Try.prog w = .ok (.tuple #[.int .i64 ((f k).getD 0 : Nat), .bool (f k).isSome]) w := by
  obtain ⟨D, ho, hf⟩ := h
  obtain ⟨v, ps, hrun, hv⟩ := ho.look_ok strKeyed Try.underlying106 (zeroInt w) (plainElem_int Try.underlying3 (a := 0) (by decide)) (keyStr k hk)
  obtain ⟨a, rfl, ha, _⟩ := plainElem_int_inv Try.underlying3 hv
  have hfk := hf k
  rw [hrun]
  cases hk : f k with
  | none =>
    rw [hk] at hfk
    simp only at hfk
    rw [Maps.atKey_of_not_has hfk] at ha
    have : a = 0 := by simpa using (congrArg Prod.fst ha).symm
    subst this
    rw [hfk]; rfl
  | some x =>
    rw [hk] at hfk
    simp only at hfk
    rw [hfk.2] at ha
    have : a = (x : Int) := by simpa using (congrArg Prod.fst ha).symm
    subst this
    rw [hfk.1]; rfl
theorem MapOf.store {w : World} {b n : Nat} {f : List UInt8 → Option Nat} (h : MapOf w b n f) (k : List UInt8) (hk : k.length ≤ maxLen) (x : Nat) (hx : x < 16384) (hn : n < maxLen) :
    ∃ w', (Instr.mapUpdate 106 (.map (some b)) (.string (bs k)) (.int .i64 (x : Int))).run Try.prog w = .ok () w' ∧ MapOf w' b (n + 1) (fun j => if j = k then some x else f j) ∧ w.grownBy w' (some b) := by
  obtain ⟨D, ho, hf⟩ := h
  obtain ⟨w', hrun, ho', hg⟩ := ho.update strKeyed Try.underlying106 hn (keyStr k hk) (plainElem_int Try.underlying3 (a := (x : Int)) (WalkArith.wf_i64 (by omega)))
  refine ⟨w', hrun, ⟨_, ho', fun j => ?_⟩, hg⟩
  by_cases hj : j = k
  · subst hj
    simp only [if_true]
    exact ⟨Maps.has_put_same ho.isMap (show WideAt.IsKeyLit (Lit.string j) from trivial) _, fun z => Maps.atKey_put_same ho.isMap (show WideAt.IsKeyLit (Lit.string j) from trivial) _ _⟩
  · simp only [if_neg hj]
    have hne : Lit.string j ≠ Lit.string k := fun e => hj (by injection e)
    have := hf j
    cases hfj : f j with
    | none =>
      rw [hfj] at this
      simp only at this ⊢
      rw [Maps.has_put_other hne]; exact this
    | some y =>
      rw [hfj] at this
      simp only at this ⊢
      exact ⟨by rw [Maps.has_put_other hne]; exact this.1, fun z => by rw [Maps.atKey_put_other hne]; exact this.2 z⟩
theorem MapOf.kept {w w' : World} {b n : Nat} {f : List UInt8 → Option Nat} {row : Option Nat} (h : MapOf w b n f) (hg : w.grownBy w' row) (hne : some b ≠ row) : MapOf w' b n f := by
  obtain ⟨D, ho, hf⟩ := h
  exact ⟨D, ho.kept hg hne, hf⟩
theorem MapOf.lt {w : World} {b n : Nat} {f : List UInt8 → Option Nat} (h : MapOf w b n f) : b < w.heap.size := by
  obtain ⟨D, ho, hf⟩ := h
  exact ho.lt
/-- A map is no row of cells. -/
theorem MapOf.ne_blk {w : World} {b n g : Nat} {f : List UInt8 → Option Nat} {t : TypeId} {cs : List Value} (h : MapOf w b n f) (hb : Blk w g t cs) : b ≠ g := by
  rintro rfl
  obtain ⟨D, ⟨es, cl, hm, _⟩, _⟩ := h
  unfold Blk at hb
  rw [hb] at hm; cases hm
theorem MapOf.ne_own {w : World} {b n B k s : Nat} {f : List UInt8 → Option Nat} {e : TypeId} {v : Value} {xs : List Value} (h : MapOf w b n f) (ho : w.ownsRow B e s v k xs) : some b ≠ v.ownBlock := by
  rcases ho.2 with ⟨rfl, _⟩ | ⟨g, cap, cur, rfl, _, hh, _⟩
  · simp [Value.ownBlock]
  · intro e
    have : b = g := by simpa [Value.ownBlock] using e
    subst this
    obtain ⟨D, ⟨es, cl, hm, _⟩, _⟩ := h
    rw [hh] at hm; cases hm

/-- A table: its block g, its map's block b, its rows. -/
def TabAt (w : World) (g b : Nat) (T : List (List (List UInt8) × Nat)) : Prop :=
  Blk w g 108 [.map (some b)] ∧ (∃ f, MapOf w b T.length f ∧ ∀ n, GoodN n → f (encN n) = look T n) ∧ ∀ r ∈ T, r.2 < 16384
/-- What New tells. -/
def NewRet (w : World) (e : Ending) (w' : World) : Prop := ∃ g b, e = .returned (.pointer (some ⟨g, 0, none⟩)) ∧ TabAt w' g b [] ∧ Below w.heap.size w w' ∧ w.heap.size ≤ g ∧ w.heap.size ≤ b
theorem pnew_any (w : World) : Calls Try.prog 23 #[] w (NewRet w) := by
  have hmm := @run_makeMap Try.prog
  go_enter Try.func23, Try.ntmps23
  go_wp2
  go_ret
  refine ⟨_, w.heap.size, rfl, ⟨Blk.new' _ _ [.map (some w.heap.size)] _ (by simp), ⟨fun _ => none, (MapOf.made w).kept (World.grownBy_alloc _ _ none) (by simp), fun n _ => rfl⟩, by simp⟩, ((Below.refl _ _).alloc (Nat.le_refl _) _).alloc (by simp) _, by simp, Nat.le_refl _⟩
end Go.Proofs.Ytlmgdogblbigpaa

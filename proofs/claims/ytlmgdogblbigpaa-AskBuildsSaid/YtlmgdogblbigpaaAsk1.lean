/-
  Layer 24 (ask): names cloned.
-/
import Derived.Test.YtlmgdogblbigpaaOwn2
import Derived.Test.YtlmgdogblbigpaaGB
namespace Go.Proofs.Ytlmgdogblbigpaa
open Go.RowKit
set_option maxRecDepth 100000
set_option linter.unusedVariables false
set_option linter.unusedSimpArgs false

def strs (n : List (List UInt8)) : List Value := n.map fun t => Value.string (bs t)
theorem strs_len (n : List (List UInt8)) : (strs n).length = n.length := by simp [strs]
theorem strs_one (n : List (List UInt8)) : ∀ v ∈ strs n, v.oneCell' = true := by
  intro v hv
  obtain ⟨b, _, rfl⟩ := List.mem_map.1 hv; rfl
theorem run_appT (w : World) (ty : TypeId) (B : Nat) (v : Value) (n : Nat) (xs : List Value) (hown : w.ownsRow B 9 1 v n xs) (hB : B ≤ w.heap.size) (A : Option Addr) (m c : Nat) (news : List Value) (hn : 0 < m → ∃ b off, A = some ⟨b, off, none⟩ ∧ w.rangeAt b off news) (hl : news.length = m) (h1 : ∀ u ∈ news, u.oneCell' = true) (hb : n + m ≤ 300000) :
    ∃ v' w', (Builtin.append_ #[24, 24] ty #[v, .slice A m c]).run Try.prog w = .ok v' w' ∧ w'.ownsRow B 9 1 v' (n + m) (xs ++ news) ∧ w.grownBy w' v.ownBlock := by
  obtain ⟨i, hi, hz, hsize, hby⟩ := info_parts strInfo
  by_cases hm : 0 < m
  · obtain ⟨b, off, rfl, hr⟩ := hn hm
    obtain ⟨v', w', hr, h2, h3, _, h5⟩ := run_append_own_at (P := Try.prog) w B 24 ty 9 i _ 1 16 Try.underlying24 hi hz hsize hby rfl (by omega) v n xs hown ⟨b, off, none⟩ m c news (by omega) (fun j u hu => by
      have hadd : (⟨b, off, none⟩ : Addr).add j = ⟨b, off + j, none⟩ := by unfold Addr.add; split <;> simp_all
      rw [hadd]; exact hr j u hu) h1 (by simp only [maxLen]; omega) (by omega) hB
    exact ⟨v', w', hr, h2, h3⟩
  · obtain rfl : m = 0 := by omega
    have hnil : news = [] := List.length_eq_zero_iff.1 (by omega)
    subst hnil
    have hv : ∃ A' c', v = .slice A' n c' ∧ n ≤ c' := by
      rcases hown.2 with ⟨rfl, rfl⟩ | ⟨g, cap, cur, rfl, _, _, hc, _⟩
      · exact ⟨none, 0, rfl, Nat.le_refl _⟩
      · exact ⟨_, _, rfl, hc⟩
    obtain ⟨A', c', rfl, hcap⟩ := hv
    refine ⟨.slice A' n c', w, ?_, by simpa using hown, World.grownBy.refl _ _⟩
    cases A with
    | none => cases A' <;> simp [Builtin.append_, run_underlying Try.underlying24, sizeOf, typeInfo, hi, hsize, Builtin.lenOf, hcap, Builtin.firstCells, storeCells]
    | some ad =>
      have hl0 : (loadCells ad 0).run Try.prog w = .ok #[] w := rfl
      cases A' <;> simp [hl0, Builtin.append_, run_underlying Try.underlying24, sizeOf, typeInfo, hi, hsize, Builtin.lenOf, hcap, Builtin.firstCells, storeCells]
theorem wpList_appT (w : World) {ops : Array Oper} {rest : List Oper} {o : Oper} {a : Act} {Q : Exit → Act → World → Prop} (hgd : o.guard = none) (s x : Operand)
    (ho : o.op = .call { callee := .builtin .append, args := #[s, x], argTypes := #[24, 24] })
    (B : Nat) (v : Value) (n : Nat) (xs : List Value) (hs : a.eval s = v) (hown : w.ownsRow B 9 1 v n xs) (hB : B ≤ w.heap.size) (A : Option Addr) (m c : Nat) (news : List Value) (hx : a.eval x = .slice A m c)
    (hn : 0 < m → ∃ b off, A = some ⟨b, off, none⟩ ∧ w.rangeAt b off news) (hl : news.length = m) (h1 : ∀ u ∈ news, u.oneCell' = true) (hb : n + m ≤ 300000) (k : Nat) (hk : k = n + m)
    (h : ∀ A' c' w', w'.ownsRow B 9 1 (.slice A' k c') k (xs ++ news) → w.grownBy w' v.ownBlock → wpList Try.prog ops Q rest (a.put o.dst (.slice A' k c')) w') :
    wpList Try.prog ops Q (o :: rest) a w := by
  subst hk
  refine wpList_plain hgd fun K hK => ?_
  obtain ⟨v', w', hr, h2, h3⟩ := run_appT w o.type B v n xs hown hB A m c news hn hl h1 hb
  obtain ⟨A', c', rfl⟩ := own_form h2
  unfold Oper.wp execOp
  simp only [ho, resolve, invoke, builtin, Sem.run_bind, Sem.run_pure, Result.andThen_ok, List.map_toArray, List.map_cons, List.map_nil, hs, hx, hr]
  exact hK _ _ (h A' c' w' h2 h3)
theorem NmR.range {w : World} {A : Option Addr} {c : Nat} {n : List (List UInt8)} (h : NmR w A c n) : 0 < n.length → ∃ b off, A = some ⟨b, off, none⟩ ∧ w.rangeAt b off (strs n) := by
  intro hp
  obtain ⟨b, off, h1, h2, h3⟩ := h.1 hp
  refine ⟨b, off, h1, fun j v hv => ?_⟩
  have hj : j < n.length := by have := (List.getElem?_eq_some_iff.1 hv).1; simpa [strs] using this
  rw [h3 j hj, ← hv]
  simp [strs, hj]
/-- A row of none. -/
theorem own_empty (w : World) (B : Nat) (hB : B ≤ w.heap.size) : (w.alloc (.cells #[] 9)).ownsRow B 9 1 (.slice (some ⟨w.heap.size, 0, none⟩) 0 0) 0 [] := by
  refine ⟨rfl, .inr ⟨w.heap.size, 0, #[], rfl, hB, heap_alloc_new w _, Nat.le_refl _, by simp [maxLen], rfl, rfl⟩⟩
theorem eq_nilS (A : Option Addr) (n c : Nat) (w : World) : (binOp BinOp.eql 24 (.slice A n c) (.slice none 0 0)).run Try.prog w = .ok (.bool A.isNone) w := by
  cases A <;> kernel_rfl
def CloneRet (n : List (List UInt8)) (w : World) (e : Ending) (w' : World) : Prop := ∃ A c, e = .returned (.slice A n.length c) ∧ w'.ownsRow w.heap.size 9 1 (.slice A n.length c) n.length (strs n) ∧ Below w.heap.size w w'
theorem clone_any (A : Option Addr) (c : Nat) (n : List (List UInt8)) (w : World) (hA : NmR w A c n) (hn : n.length ≤ 100000) :
    Calls Try.prog 90 #[.slice A n.length c] w (CloneRet n w) := by
  cases A with
  | none =>
    have h0 : n = [] := by
      cases n with
      | nil => rfl
      | cons x n => obtain ⟨b, off, h, _⟩ := hA.1 (by simp); cases h
    subst h0
    have EN := eq_nilS none 0 c
    go_enter Try.func90, Try.ntmps90
    go_wp2_with fail
    go_ret
    exact ⟨none, 0, rfl, World.ownsRow_nil _ _ _ _, Below.refl _ _⟩
  | some ad =>
    have RG := Lib.hid (fun w' (b : Below w.heap.size w w') => (hA.below b).range)
    clear hA
    have EN := eq_nilS (some ad) n.length c
    have kb : Below w.heap.size w (w.alloc (.cells #[] 9)) := (Below.refl _ _).alloc (Nat.le_refl _) _
    go_enter Try.func90, Try.ntmps90
    go_wp2_with (at_builtin; go_must (refine wpList_appT _ rfl (.tmp 5) (.tmp 6) rfl w.heap.size _ 0 [] rfl (own_empty w _ (Nat.le_refl _)) kb.size (some ad) n.length c (strs n) rfl (RG.out _ kb) (strs_len n) (strs_one n) (by omega) n.length (by omega) ?_))
    intro A' c' w' ho hg
    have HB : Below w.heap.size w w' := kb.grown hg kb.size (fun k hk => by simp [Value.ownBlock] at hk; omega)
    go_wp2_with fail
    go_ret
    exact ⟨A', c', rfl, by simpa using ho, HB⟩
end Go.Proofs.Ytlmgdogblbigpaa

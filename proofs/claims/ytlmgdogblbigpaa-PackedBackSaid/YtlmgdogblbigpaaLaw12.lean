/-
  PackedGets: the name that stands at any offset of any octets, or why there is none, as the reference tells it.
-/
import Derived.Test.YtlmgdogblbigpaaPk8
import Derived.Test.YtlmgdogblbigpaaPkGets
namespace Go.Proofs.Ytlmgdogblbigpaa
open Go.RowKit Go.Maps
set_option maxRecDepth 100000
set_option linter.unusedVariables false

theorem txt2_new (w : World) (a b : List UInt8) (k : Nat) (hk : k = w.heap.size) : TxtR (w.alloc (.cells #[.string (bs a), .string (bs b)] 9)) (some ⟨k, 0, none⟩) [a, b] := by
  subst hk
  intro _
  have hb := Blk.new w 9 [.string (bs a), .string (bs b)]
  refine ⟨_, 0, rfl, hb.lt, fun i hi => ?_⟩
  have : i = 0 ∨ i = 1 := by simp at hi; omega
  rcases this with rfl | rfl
  · exact hb.cell_ 0 rfl
  · exact hb.cell_ 1 rfl
theorem TabAt.alloc {w : World} {g b : Nat} {T : List (List (List UInt8) × Nat)} (h : TabAt w g b T) (o : Obj) : TabAt (w.alloc o) g b T := h.below ((Below.refl _ _).alloc (Nat.le_refl _) _)
def w12T : List (List (List UInt8) × Nat) := [([[97], [98]], 0), ([[98]], 2)]
theorem w12a : pgo [] 0 [] [[97], [98]] = ([1, 97, 1, 98, 0], w12T) := by decide
theorem w12b : pgo w12T 5 [] [[99], [98]] = ([1, 99, 192, 2], [([[99], [98]], 5)]) := by decide
def w12m : List UInt8 := [1, 97, 1, 98, 0, 1, 99, 192, 2]
theorem w12s1 : gstep w12m ⟨5, 1, 5, none, []⟩ = .go ⟨7, 3, 5, none, [[99]]⟩ := by kernel_rfl
theorem w12s2 : gstep w12m ⟨7, 3, 5, none, [[99]]⟩ = .go ⟨2, 3, 2, some 9, [[99]]⟩ := by kernel_rfl
theorem w12s3 : gstep w12m ⟨2, 3, 2, some 9, [[99]]⟩ = .go ⟨4, 5, 2, some 9, [[99], [98]]⟩ := by kernel_rfl
theorem w12s4 : gstep w12m ⟨4, 5, 2, some 9, [[99], [98]]⟩ = .ok [[99], [98]] 9 := by kernel_rfl
theorem w12c : Gets w12m ⟨5, 1, 5, none, []⟩ (.ok [[99], [98]] 9) := .go w12s1 (.go w12s2 (.go w12s3 (.ok w12s4)))

set_option maxHeartbeats 1000000 in
theorem works12 (w : World) : Calls Try.prog 18 #[] w (RetB (.bool true) w) := by
  go_enter Try.func18, Try.ntmps18
  go_wp2_with fail
  refine (pnew_any _).mono ?_
  rintro _ w1 ⟨g, b, rfl, hT1, hB1, hg1, hb1⟩
  go_wp2_with fail
  refine (put_tab g b [] _ _ [[97], [98]] 0 _ (hT1.alloc _) (txt2_new w1 [97] [98] _ rfl) (by decide) (by decide) (by decide)).mono ?_
  rw [w12a]
  rintro _ w2 ⟨rfl, hT2, hg2⟩
  have hB2 : Below w.heap.size w w2 := below_grown (hB1.alloc hB1.size _) hg2 (by have := hB1.size; simp; omega) hb1
  clear hT1 hB1 hg2
  go_wp2_with fail
  refine (put_tab g b w12T _ _ [[99], [98]] 5 _ (TabAt.alloc hT2 _) (txt2_new w2 [99] [98] _ rfl) (by decide) (by decide) (by decide)).mono ?_
  rw [w12b]
  rintro _ w3 ⟨rfl, hT3, hg3⟩
  have hB3 : Below w.heap.size w w3 := below_grown (hB2.alloc hB2.size _) hg3 (by have := hB2.size; simp; omega) hb1
  clear hT2 hB2 hg3 hT3
  go_wp2_with fail
  refine (get_in w12m 5 _ (by decide) (by decide) _ w12c).mono ?_
  rintro _ w4 ⟨v, rfl, hT4, hB4, _⟩
  have hB4' := below_then hB3 hB3.size hB4
  obtain ⟨A4, c4, rfl, hR4⟩ := hT4.toV
  clear hT4 hB4 hB3
  simp only [goB, goE, goN] at hR4 ⊢
  go_wp2_with fail
  refine (exact_any A4 _ [[99], [98]] [[99], [98]] _ _ _ (hR4.below ((Below.refl _ _).alloc (Nat.le_refl _) _)) (txt2_new w4 [99] [98] _ rfl) (by decide) (by decide)).mono ?_
  rw [decide_eq_true rfl]
  rintro _ w5 ⟨rfl, hB5⟩
  go_wp2_with fail
  go_ret
  exact RetB.mk rfl (below_then (hB4'.alloc hB4'.size _) (by have := hB4'.size; simp; omega) hB5)

theorem GetRet.form {o : GO} {w w' : World} {e : Ending} (h : GetRet o w e w') : ∃ A c, e = .returned (.tuple #[.slice A (goN o).length c, .int .i64 (goB o), .int .i64 (goE o)]) ∧ TxtR w' A (goN o) ∧ Below w.heap.size w w' := by
  obtain ⟨v, rfl, hT, hB, _⟩ := h
  obtain ⟨A, c, rfl, hR⟩ := hT.toV
  exact ⟨A, c, rfl, hR, hB⟩
set_option maxHeartbeats 1000000 in
theorem packedGets_any (m : List UInt8) (at_ : Int) (w : World) (hm : m.length ≤ maxLen) : Calls Try.prog 3 #[.string (bs m), .int .i64 at_] w (RetB (.bool true) w) := by
  by_cases hl : 70000 < m.length
  · have hl' : (70000 : Int) < m.length := by omega
    go_enter Try.func3, Try.ntmps3
    go_wp2_with fail
    refine (works12 _).mono ?_
    rintro e w1 ⟨rfl, b1⟩
    go_wp2_with fail
    go_ret
    exact RetB.mk rfl b1
  · have hl' : (m.length : Int) ≤ 70000 := by omega
    have C1 := get_any m at_ w (by omega)
    have C2 : ∀ w, _ := fun w => refGet_any m at_ w (by omega)
    have HC2 := Lib.hid C2
    have hnl : (goN (pget m at_)).length ≤ 281474976710656 := Nat.le_trans (goN_len m at_) (by decide)
    generalize pget m at_ = o at *
    clear C2
    go_enter Try.func3, Try.ntmps3
    go_wp2_with fail
    refine C1.mono ?_
    intro e w1 h1
    obtain ⟨A1, c1, rfl, hR1, hB1⟩ := h1.form
    clear h1 C1
    go_wp2_with fail
    refine (HC2.out _).mono ?_
    intro e w2 h2
    obtain ⟨A2, c2, rfl, hR2, hB2⟩ := h2.form
    have hB2' := below_then hB1 hB1.size hB2
    have hR1' := hR1.below hB2
    clear h2 hB1 hR1 hB2 HC2
    go_wp2_with fail
    refine (works12 _).mono ?_
    rintro e w3 ⟨rfl, hB3⟩
    have hB3' := below_then hB2' hB2'.size hB3
    have hR1'' := hR1'.below hB3
    have hR2'' := hR2.below hB3
    clear hB2' hB3 hR1' hR2
    go_wp2_with fail
    refine (exact_any A1 A2 _ _ _ _ _ hR1'' hR2'' hnl hnl).mono ?_
    rw [decide_eq_true rfl]
    rintro e w4 ⟨rfl, hB4⟩
    go_wp2_with fail
    go_ret
    exact RetB.mk rfl (below_then hB3' hB3'.size hB4)
end Go.Proofs.Ytlmgdogblbigpaa

/-
  PackedGets: the name that stands at any offset of any octets, or why there is none, as the reference tells it.
-/
import Derived.Test.YtlmgdogblbigpaaGF
import Derived.Test.YtlmgdogblbigpaaGH
import Derived.Test.YtlmgdogblbigpaaPk10
import Derived.Test.YtlmgdogblbigpaaGD
namespace Go.Proofs.Ytlmgdogblbigpaa
open Go.RowKit Go.Maps
set_option maxRecDepth 100000
set_option linter.unusedVariables false

theorem txt2_new (w : World) (a b : List UInt8) (k : Nat) (hk : k = w.heap.size) : TxtR (w.alloc (.cells #[.string (bs a), .string (bs b)] 9)) (some ⟨k, 0, none⟩) [a, b] := by
  subst hk
  intro _
  have hb := Blk.new w 9 [.string (bs a), .string (bs b)]
  refine ⟨_, 0, rfl, hb.lt, fun i hi => ?_⟩
  have : i = 0 ∨ i = 1 := by simp at hi; omega
  rcases this with rfl | rfl
  · exact hb.cell_ 0 rfl
  · exact hb.cell_ 1 rfl
theorem TabAt.alloc {w : World} {g b : Nat} {T : List (List (List UInt8) × Nat)} (h : TabAt w g b T) (o : Obj) : TabAt (w.alloc o) g b T := h.below ((Below.refl _ _).alloc (Nat.le_refl _) _)
def w12T : List (List (List UInt8) × Nat) := [([[97], [98]], 0), ([[98]], 2)]
theorem w12a : pgo [] 0 [] [[97], [98]] = ([1, 97, 1, 98, 0], w12T) := by decide
theorem w12b : pgo w12T 5 [] [[99], [98]] = ([1, 99, 192, 2], [([[99], [98]], 5)]) := by decide
def w12m : List UInt8 := [1, 97, 1, 98, 0, 1, 99, 192, 2]
theorem w12s1 : gstep w12m ⟨5, 1, 5, none, []⟩ = .go ⟨7, 3, 5, none, [[99]]⟩ := by kernel_rfl
theorem w12s2 : gstep w12m ⟨7, 3, 5, none, [[99]]⟩ = .go ⟨2, 3, 2, some 9, [[99]]⟩ := by kernel_rfl
theorem w12s3 : gstep w12m ⟨2, 3, 2, some 9, [[99]]⟩ = .go ⟨4, 5, 2, some 9, [[99], [98]]⟩ := by kernel_rfl
theorem w12s4 : gstep w12m ⟨4, 5, 2, some 9, [[99], [98]]⟩ = .ok [[99], [98]] 9 := by kernel_rfl
theorem w12c : Gets w12m ⟨5, 1, 5, none, []⟩ (.ok [[99], [98]] 9) := .go w12s1 (.go w12s2 (.go w12s3 (.ok w12s4)))

set_option maxHeartbeats 1000000 in
theorem works12 (w : World) : Calls Try.prog 18 #[] w (RetB (.bool true) w) := by
  go_enter Try.func18, Try.ntmps18
  go_wp2_with fail
  refine (pnew_any _).mono ?_
  rintro _ w1 ⟨g, b, rfl, hT1, hB1, hg1, hb1⟩
  go_wp2_with fail
  refine (put_tab g b [] _ _ [[97], [98]] 0 _ (hT1.alloc _) (txt2_new w1 [97] [98] _ rfl) (by decide) (by decide) (by decide)).mono ?_
  rw [w12a]
  rintro _ w2 ⟨rfl, hT2, hg2⟩
  have hB2 : Below w.heap.size w w2 := below_grown (hB1.alloc hB1.size _) hg2 (by have := hB1.size; simp; omega) hb1
  clear hT1 hB1 hg2
  go_wp2_with fail
  refine (put_tab g b w12T _ _ [[99], [98]] 5 _ (TabAt.alloc hT2 _) (txt2_new w2 [99] [98] _ rfl) (by decide) (by decide) (by decide)).mono ?_
  rw [w12b]
  rintro _ w3 ⟨rfl, hT3, hg3⟩
  have hB3 : Below w.heap.size w w3 := below_grown (hB2.alloc hB2.size _) hg3 (by have := hB2.size; simp; omega) hb1
  clear hT2 hB2 hg3 hT3
  go_wp2_with fail
  refine (get_in w12m 5 _ (by decide) (by decide) _ w12c).mono ?_
  rintro _ w4 ⟨v, rfl, hT4, hB4, _⟩
  have hB4' := below_then hB3 hB3.size hB4
  obtain ⟨A4, c4, rfl, hR4⟩ := hT4.toV
  clear hT4 hB4 hB3
  simp only [goB, goE, goN] at hR4 ⊢
  go_wp2_with fail
  refine (exact_any A4 _ [[99], [98]] [[99], [98]] _ _ _ (hR4.below ((Below.refl _ _).alloc (Nat.le_refl _) _)) (txt2_new w4 [99] [98] _ rfl) (by decide) (by decide)).mono ?_
  rw [decide_eq_true rfl]
  rintro _ w5 ⟨rfl, hB5⟩
  go_wp2_with fail
  go_ret
  exact RetB.mk rfl (below_then (hB4'.alloc hB4'.size _) (by have := hB4'.size; simp; omega) hB5)

theorem GetRet.form {o : GO} {w w' : World} {e : Ending} (h : GetRet o w e w') : ∃ A c, e = .returned (.tuple #[.slice A (goN o).length c, .int .i64 (goB o), .int .i64 (goE o)]) ∧ TxtR w' A (goN o) ∧ Below w.heap.size w w' := by
  obtain ⟨v, rfl, hT, hB, _⟩ := h
  obtain ⟨A, c, rfl, hR⟩ := hT.toV
  exact ⟨A, c, rfl, hR, hB⟩
set_option maxHeartbeats 1000000 in
theorem packedGets_any (m : List UInt8) (at_ : Int) (w : World) (hm : m.length ≤ maxLen) : Calls Try.prog 3 #[.string (bs m), .int .i64 at_] w (RetB (.bool true) w) := by
  by_cases hl : 70000 < m.length
  · have hl' : (70000 : Int) < m.length := by omega
    go_enter Try.func3, Try.ntmps3
    go_wp2_with fail
    refine (works12 _).mono ?_
    rintro e w1 ⟨rfl, b1⟩
    go_wp2_with fail
    go_ret
    exact RetB.mk rfl b1
  · have hl' : (m.length : Int) ≤ 70000 := by omega
    have C1 := get_any m at_ w (by omega)
    have C2 : ∀ w, _ := fun w => refGet_any m at_ w (by omega)
    have HC2 := Lib.hid C2
    have hnl : (goN (pget m at_)).length ≤ 281474976710656 := Nat.le_trans (goN_len m at_) (by decide)
    generalize pget m at_ = o at *
    clear C2
    go_enter Try.func3, Try.ntmps3
    go_wp2_with fail
    refine C1.mono ?_
    intro e w1 h1
    obtain ⟨A1, c1, rfl, hR1, hB1⟩ := h1.form
    clear h1 C1
    go_wp2_with fail
    refine (HC2.out _).mono ?_
    intro e w2 h2
    obtain ⟨A2, c2, rfl, hR2, hB2⟩ := h2.form
    have hB2' := below_then hB1 hB1.size hB2
    have hR1' := hR1.below hB2
    clear h2 hB1 hR1 hB2 HC2
    go_wp2_with fail
    refine (works12 _).mono ?_
    rintro e w3 ⟨rfl, hB3⟩
    have hB3' := below_then hB2' hB2'.size hB3
    have hR1'' := hR1'.below hB3
    have hR2'' := hR2.below hB3
    clear hB2' hB3 hR1' hR2
    go_wp2_with fail
    refine (exact_any A1 A2 _ _ _ _ _ hR1'' hR2'' hnl hnl).mono ?_
    rw [decide_eq_true rfl]
    rintro e w4 ⟨rfl, hB4⟩
    go_wp2_with fail
    go_ret
    exact RetB.mk rfl (below_then hB3' hB3'.size hB4)
end Go.Proofs.Ytlmgdogblbigpaa
/-
  PackedPuts: any names' octets, at any offsets, with one table, and without, as the reference puts them.
-/
namespace Go.Proofs.Ytlmgdogblbigpaa
open Go.RowKit Go.Maps
set_option maxRecDepth 100000
set_option linter.unusedVariables false

/-- What a Put without a table tells. -/
def putZ (n : List (List UInt8)) : List UInt8 := if checkN n = 0 then encZ n else []
theorem putNil_any (A : Option Addr) (c : Nat) (n : List (List UInt8)) (at_ : Int) (w : World) (hA : NmR w A c n) :
    Calls Try.prog 24 #[.pointer none, .slice A n.length c, .int .i64 at_] w (RetB (.tuple #[.string (bs (putZ n)), .int .i64 (checkN n)]) w) := by
  obtain ⟨h1, h2, h3, h4⟩ := hA
  by_cases hc : checkN n = 0
  · unfold putZ; rw [if_pos hc]
    have := put_nil A c n at_ w h1 (by omega) hc
    rwa [hc]
  · unfold putZ; rw [if_neg hc]
    exact (put_bad none A c n at_ w h1 (by omega) hc).mono fun _ _ h => h.toB
theorem refputNil_any (A : Option Addr) (c : Nat) (n : List (List UInt8)) (at_ : Int) (w : World) (hA : NmR w A c n) :
    Calls Try.prog 25 #[.pointer none, .slice A n.length c, .int .i64 at_] w (RetB (.tuple #[.string (bs (putZ n)), .int .i64 (checkN n)]) w) := by
  obtain ⟨h1, h2, h3, h4⟩ := hA
  by_cases hc : checkN n = 0
  · unfold putZ; rw [if_pos hc]
    have := refput_nil A c n at_ w h1 h2 hc
    rwa [hc]
  · unfold putZ; rw [if_neg hc]
    exact (refput_bad none A c n at_ w h1 (by omega) hc).mono fun _ _ h => h.toB
/-- What Put with a table tells. -/
def PutAny (g b : Nat) (T : List (List (List UInt8) × Nat)) (n : List (List UInt8)) (at_ : Int) (w : World) (e : Ending) (w' : World) : Prop :=
  e = .returned (.tuple #[.string (bs (putS T at_ n)), .int .i64 (checkN n)]) ∧ TabAt w' g b (putT T at_ n) ∧ w.grownBy w' (some b)
theorem putTab_any (g b : Nat) (T : List (List (List UInt8) × Nat)) (A : Option Addr) (c : Nat) (n : List (List UInt8)) (at_ : Int) (w : World) (hT : TabAt w g b T) (hA : NmR w A c n) (hTl : T.length ≤ 900000) :
    Calls Try.prog 24 #[.pointer (some ⟨g, 0, none⟩), .slice A n.length c, .int .i64 at_] w (PutAny g b T n at_ w) := by
  obtain ⟨h1, h2, h3, h4⟩ := hA
  by_cases hc : checkN n = 0
  · refine (put_tab g b T A c n at_ w hT h1 (by omega) hc (by omega)).mono ?_
    rintro e w' ⟨rfl, h5, h6⟩
    unfold PutAny putS putT
    rw [if_pos hc, if_pos hc, hc]
    exact ⟨rfl, h5, h6⟩
  · refine (put_bad (some ⟨g, 0, none⟩) A c n at_ w h1 (by omega) hc).mono ?_
    rintro e w' ⟨rfl, rfl⟩
    unfold PutAny putS putT
    rw [if_neg hc, if_neg hc]
    exact ⟨rfl, hT, World.grownBy.refl _ _⟩
def RPutAny (lo g : Nat) (T : List (List (List UInt8) × Nat)) (n : List (List UInt8)) (at_ : Int) (w : World) (e : Ending) (w' : World) : Prop :=
  e = .returned (.tuple #[.string (bs (putS T at_ n)), .int .i64 (checkN n)]) ∧ RTab lo w' g (putT T at_ n) ∧ KeepR lo w w'
theorem refputTab_any (lo g : Nat) (T : List (List (List UInt8) × Nat)) (A : Option Addr) (c : Nat) (n : List (List UInt8)) (at_ : Int) (w : World) (hT : RTab lo w g T) (hlo : lo ≤ w.heap.size) (hgl : lo ≤ g) (hL : TxtL lo w (.slice A n.length c) n) (hA : NmR w A c n) (hTl : T.length ≤ 900000) :
    Calls Try.prog 25 #[.pointer (some ⟨g, 0, none⟩), .slice A n.length c, .int .i64 at_] w (RPutAny lo g T n at_ w) := by
  obtain ⟨h1, h2, h3, h4⟩ := hA
  by_cases hc : checkN n = 0
  · refine (refput_tab lo g T A c n at_ w hT hlo hgl hL h2 hc hTl).mono ?_
    rintro e w' ⟨rfl, h5, h6⟩
    unfold RPutAny putS putT
    rw [if_pos hc, if_pos hc, hc]
    exact ⟨rfl, h5, h6⟩
  · refine (refput_bad (some ⟨g, 0, none⟩) A c n at_ w h1 (by omega) hc).mono ?_
    rintro e w' ⟨rfl, rfl⟩
    unfold RPutAny putS putT
    rw [if_neg hc, if_neg hc]
    exact ⟨rfl, hT, KeepR.refl _ _⟩
theorem putT_length (T : List (List (List UInt8) × Nat)) (at_ : Int) (n : List (List UInt8)) : (putT T at_ n).length ≤ T.length + 254 := by
  unfold putT
  by_cases hc : checkN n = 0
  · rw [if_pos hc, List.length_append]
    have hn : n.length ≤ 254 := by have := (checkN_ok hc).2; have := lsum_ge n; omega
    have : ∀ (n : List (List UInt8)) (pre : List UInt8), (pgo T at_ pre n).2.length ≤ n.length := by
      intro n
      induction n with
      | nil => intro pre; simp [pgo]
      | cons l n ih =>
        intro pre
        cases hk : look T (l :: n) with
        | some q => rw [pgo_some hk]; simp
        | none =>
          rw [pgo_no hk]
          have := ih (pre ++ encL l)
          simp only [List.length_append, List.length_cons]
          split <;> simp <;> omega
    have := this n []
    omega
  · rw [if_neg hc]; omega

/-- A slice of names. -/
def NmsR (w : World) (A : Option Addr) (ls : List (List (List UInt8))) : Prop := 0 < ls.length → ∃ b off, A = some ⟨b, off, none⟩ ∧ b < w.heap.size ∧ ∀ i (hi : i < ls.length), ∃ Ai ci, w.cell? ⟨b, off + i, none⟩ = some (.slice Ai ls[i].length ci) ∧ NmR w Ai ci ls[i]
theorem NmsR.below {w w' : World} {A : Option Addr} {ls : List (List (List UInt8))} (h : NmsR w A ls) (hb : Below w.heap.size w w') : NmsR w' A ls := by
  intro hp
  obtain ⟨b, off, hA, hlt, hc⟩ := h hp
  refine ⟨b, off, hA, Nat.lt_of_lt_of_le hlt hb.size, fun i hi => ?_⟩
  obtain ⟨Ai, ci, h1, h2⟩ := hc i hi
  exact ⟨Ai, ci, (hb.cell hlt).trans h1, h2.below hb⟩
def fewB (ls : List (List (List UInt8))) : Bool := decide (ls.length ≤ 40) && ls.all fun n => decide (lsum n ≤ 400)
theorem fewN_any (A : Option Addr) (c : Nat) (n : List (List UInt8)) (w : World) (hA : NmR w A c n) : Calls Try.prog 33 #[.slice A n.length c] w (Ret (.bool (decide (lsum n ≤ 400))) w) :=
  few_any A c n w hA.1 (by have := hA.2.2.1; omega) (fun l hl => by have := hA.2.2.2 l hl; omega)
theorem few12_any (A : Option Addr) (c : Nat) (ls : List (List (List UInt8))) (w : World) (hA : NmsR w A ls) :
    Calls Try.prog 22 #[.slice A ls.length c] w (Ret (.bool (fewB ls)) w) := by
  by_cases h40 : ls.length ≤ 40
  · have h40' : (ls.length : Int) ≤ 40 := by omega
    go_enter Try.func22, Try.ntmps22
    go_wp2_with fail
    go_loop [3] (fun i => ∃ k : Nat, k ≤ ls.length ∧ i = .int .i64 k ∧ Hid (∀ j (hj : j < ls.length), j < k → lsum ls[j] ≤ 400)) (fun i => ls.length - (intOf i).toNat)
    case atStart => exact ⟨0, Nat.zero_le _, rfl, Lib.hid (fun j hj h => by omega)⟩
    case round =>
      obtain ⟨k, hk, rfl, H⟩ := hrel
      by_cases hlt : k < ls.length
      · have hlt' : (k : Int) < ls.length := by omega
        obtain ⟨b, off, rfl, _, xa⟩ := hA (by omega)
        obtain ⟨Ai, ci, c1, hR⟩ := xa k hlt
        have C := fewN_any Ai ci ls[k] w hR
        clear xa
        by_cases h4 : lsum ls[k] ≤ 400
        · rw [decide_eq_true h4] at C
          have H4 := Lib.hid h4
          clear h4
          go_wp2_with fail
          refine C.mono ?_
          rintro _ w1 ⟨rfl, rfl⟩
          clear C
          go_wp2_with fail
          go_round
          case rel => exact ⟨k + 1, by omega, by go_num, Lib.hid (fun j hj h => by
            by_cases e : j = k
            · subst e; exact H4.out
            · exact H.out j hj (by omega))⟩
          case measure => simp [intOf]; omega
        · rw [decide_eq_false h4] at C
          have hno : fewB ls = false := by
            unfold fewB
            rw [Bool.and_eq_false_iff]; right
            rw [List.all_eq_false]
            exact ⟨ls[k], List.getElem_mem hlt, by simpa using h4⟩
          have R := Lib.hid hno
          clear hno h4
          go_wp2_with fail
          refine C.mono ?_
          rintro _ w1 ⟨rfl, rfl⟩
          clear C
          go_wp2_with fail
          go_ret
          exact Ret.mk (ret_bool R.out.symm) rfl
      · have hlt' : ¬ (k : Int) < ls.length := by omega
        have hyes : fewB ls = true := by
          unfold fewB
          rw [Bool.and_eq_true]
          refine ⟨decide_eq_true h40, List.all_eq_true.2 fun n hn => ?_⟩
          obtain ⟨j, hj, rfl⟩ := List.getElem_of_mem hn
          exact decide_eq_true (H.out j hj (by omega))
        have R := Lib.hid hyes
        clear hyes
        go_wp2_with fail
        go_ret
        exact Ret.mk (ret_bool R.out.symm) rfl
  · have h40' : (40 : Int) < ls.length := by omega
    have hno : fewB ls = false := by unfold fewB; rw [decide_eq_false h40]; rfl
    have R := Lib.hid hno
    clear hno
    go_enter Try.func22, Try.ntmps22
    go_wp2_with fail
    go_ret
    exact Ret.mk (ret_bool R.out.symm) rfl
theorem fewB_yes {ls : List (List (List UInt8))} (h : fewB ls = true) : ls.length ≤ 40 ∧ ∀ n ∈ ls, lsum n ≤ 400 := by
  unfold fewB at h
  rw [Bool.and_eq_true] at h
  exact ⟨of_decide_eq_true h.1, fun n hn => of_decide_eq_true (List.all_eq_true.1 h.2 n hn)⟩
end Go.Proofs.Ytlmgdogblbigpaa
/-
  PackedPuts: the law.
-/
namespace Go.Proofs.Ytlmgdogblbigpaa
open Go.RowKit Go.Maps
set_option maxRecDepth 100000
set_option linter.unusedVariables false

/-- A slice of numbers. -/
def IntsR (w : World) (A : Option Addr) (l : List Int) : Prop := 0 < l.length → ∃ b off, A = some ⟨b, off, none⟩ ∧ b < w.heap.size ∧ ∀ i (hi : i < l.length), w.cell? ⟨b, off + i, none⟩ = some (.int .i64 l[i])
theorem IntsR.below {w w' : World} {A : Option Addr} {l : List Int} (h : IntsR w A l) (hb : Below w.heap.size w w') : IntsR w' A l := by
  intro hp
  obtain ⟨b, off, hA, hlt, hc⟩ := h hp
  exact ⟨b, off, hA, Nat.lt_of_lt_of_le hlt hb.size, fun i hi => (hb.cell hlt).trans (hc i hi)⟩
/-- The table behind k names. -/
def tabK (ls : List (List (List UInt8))) (ats : List Int) : Nat → List (List (List UInt8) × Nat)
  | 0 => []
  | k + 1 => putT (tabK ls ats k) (ats.getD k 0) (ls.getD k [])
theorem tabK_length (ls : List (List (List UInt8))) (ats : List Int) : ∀ k, (tabK ls ats k).length ≤ 254 * k
  | 0 => by simp [tabK]
  | k + 1 => by have h1 := tabK_length ls ats k; have h2 := putT_length (tabK ls ats k) (ats.getD k 0) (ls.getD k []); simp only [tabK]; omega
theorem MapOf.no_cell {w : World} {b n : Nat} {f : List UInt8 → Option Nat} (h : MapOf w b n f) (o : Nat) : w.cell? ⟨b, o, none⟩ = none := by
  obtain ⟨D, ⟨es, cl, hm, _⟩, _⟩ := h
  simp [World.cell?, hm]
theorem RTab.mapped {lo : Nat} {w w' : World} {g b gq n : Nat} {f : List UInt8 → Option Nat} {T : List (List (List UInt8) × Nat)} (h : RTab lo w gq T) (hm : MapOf w b n f) (hb : b < lo) (hq : lo ≤ gq) (hlo : lo ≤ w.heap.size) (hg : w.grownBy w' (some b)) : RTab lo w' gq T := by
  obtain ⟨vs, v, h1, h2, h3, h4, h5⟩ := h
  refine ⟨vs, v, h1, h2.grown hg (by simp; omega), h3.kept hg ?_, fun i hv ht => ?_, h5⟩
  · cases hv : v.ownBlock with
    | none => exact .inl rfl
    | some k => right; intro e; injection e with e; subst e; have := own_base h3 k hv; omega
  · obtain ⟨A, c, hA, hc⟩ := h4 i hv ht
    refine ⟨A, c, hA, fun hp => ?_⟩
    obtain ⟨b', off, hA', hlt, hcell⟩ := hc hp
    refine ⟨b', off, hA', hlt, fun j hj => ?_⟩
    rw [grown_cell hg ⟨b', off + j, none⟩ (show b' < w.heap.size by omega) ?_]
    · exact hcell j hj
    · intro e
      injection e with e
      simp only at e
      subst e
      have := hcell j hj
      rw [hm.no_cell] at this
      cases this
theorem TxtL.of {lo : Nat} {w w0 : World} {A : Option Addr} {c : Nat} {n : List (List UInt8)} (h : TxtR w0 A n) (hb : Below w0.heap.size w0 w) (hlo : w0.heap.size ≤ lo) : TxtL lo w (.slice A n.length c) n := by
  refine ⟨A, c, rfl, fun hp => ?_⟩
  obtain ⟨b, off, hA, hlt, hc⟩ := h hp
  exact ⟨b, off, hA, by omega, fun i hi => (hb.cell hlt).trans (hc i hi)⟩
theorem MapOf.lowered {w w' : World} {b n B : Nat} {f : List UInt8 → Option Nat} (h : MapOf w b n f) (hb : Below B w w') (hlt : b < B) : MapOf w' b n f := by
  obtain ⟨D, ⟨es, cl, hm, r⟩, hf⟩ := h
  exact ⟨D, ⟨es, cl, (hb.block b hlt).trans hm, r⟩, hf⟩
theorem RTab.new (w : World) (k : Nat) (hk : k = w.heap.size) : RTab w.heap.size (w.alloc (.cells #[.slice none 0 0] 40)) k [] := by
  refine ⟨[], .slice none 0 0, rfl, Blk.new' w _ [.slice none 0 0] k hk, World.ownsRow_nil _ _ _ _, fun i hv => by simp at hv, by simp⟩

set_option maxHeartbeats 4000000 in
theorem packedPuts_any (A B : Option Addr) (ca cb : Nat) (ls : List (List (List UInt8))) (ats : List Int) (w : World) (hA : NmsR w A ls) (hB : IntsR w B ats) (hats : ats.length ≤ 281474976710656) :
    Calls Try.prog 4 #[.slice A ls.length ca, .slice B ats.length cb] w (RetB (.bool true) w) := by
  go_enter Try.func4, Try.ntmps4
  go_wp2_with fail
  refine (works12 _).mono ?_
  rintro _ w1 ⟨rfl, b1⟩
  go_wp2_with fail
  refine (few12_any A ca ls w1 (hA.below b1)).mono ?_
  cases hfew : fewB ls with
  | false =>
    rintro _ w2 ⟨rfl, rfl⟩
    go_wp2_with fail
    refine (works12 _).mono ?_
    rintro _ w2 ⟨rfl, b2⟩
    go_wp2_with fail
    go_ret
    exact RetB.mk rfl (below_then b1 b1.size b2)
  | true =>
    rintro _ w2 ⟨rfl, rfl⟩
    obtain ⟨hl40, _⟩ := fewB_yes hfew
    clear hfew
    go_wp2_with fail
    refine (pnew_any _).mono ?_
    rintro _ w2 ⟨g, b, rfl, hT2, hB2, hg2, hb2⟩
    have b2' := below_then b1 b1.size hB2
    have hbw : w.heap.size ≤ b := Nat.le_trans b1.size hb2
    have hw2 := b2'.size
    have hbl : b < w2.heap.size := hT2.2.1.elim fun f h => h.1.lt
    have hgl : g < w2.heap.size := hT2.1.lt
    clear b1 hB2
    go_wp2_with fail
    have hT3 := hT2.alloc (.cells #[.slice none 0 0] 40)
    have hR3 := RTab.new w2 w2.heap.size rfl
    have b3 := b2'.alloc b2'.size (.cells #[.slice none 0 0] 40)
    go_loopw [9] (fun i wr => ∃ k : Nat, k ≤ ls.length ∧ i = .int .i64 k ∧ TabAt wr g b (tabK ls ats k) ∧ RTab w2.heap.size wr w2.heap.size (tabK ls ats k) ∧ Below w.heap.size w wr ∧ w2.heap.size ≤ wr.heap.size) (fun i _ => ls.length - (intOf i).toNat)
    case atStart => exact ⟨0, Nat.zero_le _, rfl, hT3, hR3, b3, by simp⟩
    case round =>
      clear hT3 hR3 b3 hT2
      obtain ⟨k, hk, rfl, hT, hR, hBw, hsz⟩ := hrel
      by_cases hlt : k < ls.length
      · have hlt' : (k : Int) < ls.length := by omega
        have d1 : decide ((k : Int) < ls.length) = true := decide_eq_true hlt'
        by_cases hlt2 : k < ats.length
        · have hlt2' : (k : Int) < ats.length := by omega
          obtain ⟨ba, oa, rfl, hba, xa⟩ := hA (by omega)
          obtain ⟨bb, ob, rfl, hbb, xb⟩ := hB (by omega)
          obtain ⟨Ai, ci, c1, hNm⟩ := xa k hlt
          have c2 := xb k hlt2
          clear xa xb
          have hcl : ∀ W, Below w.heap.size w W → (W.cell? ⟨ba, oa + k, none⟩ = some (.slice Ai ls[k].length ci) ∧ W.cell? ⟨bb, ob + k, none⟩ = some (.int .i64 ats[k])) := fun W hW => ⟨(hW.cell hba).trans c1, (hW.cell hbb).trans c2⟩
          have HCL := Lib.hid hcl
          have hTK : tabK ls ats (k + 1) = putT (tabK ls ats k) ats[k] ls[k] := by simp [tabK, List.getD, hlt, hlt2]
          have HTK := Lib.hid hTK
          have hTl := tabK_length ls ats k
          have hTl2 : (tabK ls ats k).length ≤ 900000 := by omega
          clear hcl hTK c1 c2 hTl
          generalize hat : ats[k] = at_ at *
          generalize hn : ls[k] = n at *
          have HN := Lib.hid hn
          have HAT := Lib.hid hat
          clear hn hat
          generalize tabK ls ats k = T at *
          go_wp2_with fail
          go_region_held3 (fun w' => Below w.heap.size w w' ∧ w'.cell? ⟨ba, oa + k, none⟩ = some (.slice Ai n.length ci) ∧ w'.cell? ⟨bb, ob + k, none⟩ = some (.int .i64 at_)) ((refine both ?_ (HCL.out _); first | exact hBw.drew | exact below_grown hBw.drew hg3 hBw.size hbw))
            ((go_at_call 24; refine (putTab_any g b T Ai ci n at_ _ (show TabAt wr.drew g b T from hT) (hNm.below hBw.drew) hTl2).mono ?_; rintro e w3 ⟨rfl, hT3, hg3⟩))
          have hB3 := And.left ‹Below w.heap.size w _ ∧ _›
          clear ‹Below w.heap.size w _ ∧ _›
          have hR3 : RTab w2.heap.size w3 w2.heap.size T := hT.2.1.elim fun f hf => RTab.mapped (g := g) (show RTab _ wr.drew _ T from hR) hf.1 hbl (Nat.le_refl _) hsz hg3
          have hsz3 : w2.heap.size ≤ w3.heap.size := Nat.le_trans hsz hg3.size
          clear hT hR hg3
          go_wp2_with fail
          go_region_held3 (fun w' => Below w.heap.size w w' ∧ w'.cell? ⟨ba, oa + k, none⟩ = some (.slice Ai n.length ci) ∧ w'.cell? ⟨bb, ob + k, none⟩ = some (.int .i64 at_)) ((refine both ?_ (HCL.out _); first | exact hB3.drew | exact hB3.drew.trans (hg4.mono hw2)))
            ((go_at_call 25; refine (refputTab_any w2.heap.size w2.heap.size T Ai ci n at_ _ (show RTab _ w3.drew _ T from hR3) hsz3 (Nat.le_refl _) (TxtL.of hNm.1 hB3.drew hw2) (hNm.below hB3.drew) hTl2).mono ?_; rintro e w4 ⟨rfl, hR4, hg4, _⟩))
          have hB4 := And.left ‹Below w.heap.size w _ ∧ _›
          clear ‹Below w.heap.size w _ ∧ _›
          have hsz4 : w2.heap.size ≤ w4.heap.size := Nat.le_trans hsz3 hg4.size
          have hT4 : TabAt w4 g b (putT T at_ n) := by
            obtain ⟨h1, ⟨f, h2, h3⟩, h4⟩ := hT3
            exact ⟨(Blk.drew h1).below hg4 hgl, ⟨f, MapOf.lowered (show MapOf w3.drew b _ f from h2) hg4 hbl, h3⟩, h4⟩
          clear hT3 hR3 hg4 hB3 hsz3
          go_wp2_with fail
          go_region_held3 (fun w' => Below w.heap.size w w' ∧ w'.cell? ⟨ba, oa + k, none⟩ = some (.slice Ai n.length ci) ∧ w'.cell? ⟨bb, ob + k, none⟩ = some (.int .i64 at_)) ((refine both ?_ (HCL.out _); first | exact hB4.drew | exact below_then hB4.drew hB4.size b5))
            ((go_at_call 24; refine (putNil_any Ai ci n at_ _ (hNm.below hB4.drew)).mono ?_; rintro e w5 ⟨rfl, b5⟩))
          have hB5 := And.left ‹Below w.heap.size w _ ∧ _›
          clear ‹Below w.heap.size w _ ∧ _›
          have hT5 := (show TabAt w4.drew g b _ from hT4).below b5
          have hR5 := RTab.below (show RTab _ w4.drew _ (putT T at_ n) from hR4) hsz4 b5
          have hsz5 := Nat.le_trans hsz4 b5.size
          clear hT4 hR4 hB4 hsz4 b5
          go_wp2_with fail
          go_region_held3 (fun w' => Below w.heap.size w w' ∧ w'.cell? ⟨ba, oa + k, none⟩ = some (.slice Ai n.length ci) ∧ w'.cell? ⟨bb, ob + k, none⟩ = some (.int .i64 at_)) ((refine both ?_ (HCL.out _); first | exact hB5.drew | exact below_then hB5.drew hB5.size b6))
            ((go_at_call 25; refine (refputNil_any Ai ci n at_ _ (hNm.below hB5.drew)).mono ?_; rintro e w6 ⟨rfl, b6⟩))
          have hB6 := And.left ‹Below w.heap.size w _ ∧ _›
          clear ‹Below w.heap.size w _ ∧ _›
          have hT6 := (show TabAt w5.drew g b _ from hT5).below b6
          have hR6 := RTab.below (show RTab _ w5.drew _ (putT T at_ n) from hR5) hsz5 b6
          have hsz6 := Nat.le_trans hsz5 b6.size
          clear hT5 hR5 hB5 hsz5 b6
          generalize hE : checkN n = err at *
          generalize hS : putS T at_ n = ps at *
          generalize hZ : putZ n = pz at *
          clear hE hS hZ
          go_wp2_with fail
          go_roundw
          case rel => exact ⟨k + 1, by omega, by go_num, by rw [HTK.out]; exact hT6, by rw [HTK.out]; exact hR6, hB6, hsz6⟩
          case measure => simp [intOf]; omega
        · have hlt2' : ¬ (k : Int) < ats.length := by omega
          have d2 : decide ((k : Int) < ats.length) = false := decide_eq_false hlt2'
          go_wp2_with fail
          go_ret
          exact RetB.mk rfl hBw
      · have hlt' : ¬ (k : Int) < ls.length := by omega
        have d1 : decide ((k : Int) < ls.length) = false := decide_eq_false hlt'
        go_wp2_with fail
        go_ret
        exact RetB.mk rfl hBw
end Go.Proofs.Ytlmgdogblbigpaa

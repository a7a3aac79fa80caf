/-
  PackedPuts: any names' octets, at any offsets, with one table, and without, as the reference puts them.
-/
import Derived.Test.YtlmgdogblbigpaaLaw12
import Derived.Test.YtlmgdogblbigpaaPk10
import Derived.Test.YtlmgdogblbigpaaOpenW
namespace Go.Proofs.Ytlmgdogblbigpaa
open Go.RowKit Go.Maps
set_option maxRecDepth 100000
set_option linter.unusedVariables false

/-- What a Put without a table tells. -/
def putZ (n : List (List UInt8)) : List UInt8 := if checkN n = 0 then encZ n else []
theorem putNil_any (A : Option Addr) (c : Nat) (n : List (List UInt8)) (at_ : Int) (w : World) (hA : NmR w A c n) :
    Calls Try.prog 24 #[.pointer none, .slice A n.length c, .int .i64 at_] w (RetB (.tuple #[.string (bs (putZ n)), .int .i64 (checkN n)]) w) := by
  obtain ⟨h1, h2, h3, h4⟩ := hA
  by_cases hc : checkN n = 0
  · unfold putZ; rw [if_pos hc]
    have := put_nil A c n at_ w h1 (by omega) hc
    rwa [hc]
  · unfold putZ; rw [if_neg hc]
    exact (put_bad none A c n at_ w h1 (by omega) hc).mono fun _ _ h => h.toB
theorem refputNil_any (A : Option Addr) (c : Nat) (n : List (List UInt8)) (at_ : Int) (w : World) (hA : NmR w A c n) :
    Calls Try.prog 25 #[.pointer none, .slice A n.length c, .int .i64 at_] w (RetB (.tuple #[.string (bs (putZ n)), .int .i64 (checkN n)]) w) := by
  obtain ⟨h1, h2, h3, h4⟩ := hA
  by_cases hc : checkN n = 0
  · unfold putZ; rw [if_pos hc]
    have := refput_nil A c n at_ w h1 h2 hc
    rwa [hc]
  · unfold putZ; rw [if_neg hc]
    exact (refput_bad none A c n at_ w h1 (by omega) hc).mono fun _ _ h => h.toB
/-- What Put with a table tells. -/
def PutAny (g b : Nat) (T : List (List (List UInt8) × Nat)) (n : List (List UInt8)) (at_ : Int) (w : World) (e : Ending) (w' : World) : Prop :=
  e = .returned (.tuple #[.string (bs (putS T at_ n)), .int .i64 (checkN n)]) ∧ TabAt w' g b (putT T at_ n) ∧ w.grownBy w' (some b)
theorem putTab_any (g b : Nat) (T : List (List (List UInt8) × Nat)) (A : Option Addr) (c : Nat) (n : List (List UInt8)) (at_ : Int) (w : World) (hT : TabAt w g b T) (hA : NmR w A c n) (hTl : T.length ≤ 900000) :
    Calls Try.prog 24 #[.pointer (some ⟨g, 0, none⟩), .slice A n.length c, .int .i64 at_] w (PutAny g b T n at_ w) := by
  obtain ⟨h1, h2, h3, h4⟩ := hA
  by_cases hc : checkN n = 0
  · refine (put_tab g b T A c n at_ w hT h1 (by omega) hc (by omega)).mono ?_
    rintro e w' ⟨rfl, h5, h6⟩
    unfold PutAny putS putT
    rw [if_pos hc, if_pos hc, hc]
    exact ⟨rfl, h5, h6⟩
  · refine (put_bad (some ⟨g, 0, none⟩) A c n at_ w h1 (by omega) hc).mono ?_
    rintro e w' ⟨rfl, rfl⟩
    unfold PutAny putS putT
    rw [if_neg hc, if_neg hc]
    exact ⟨rfl, hT, World.grownBy.refl _ _⟩
def RPutAny (lo g : Nat) (T : List (List (List UInt8) × Nat)) (n : List (List UInt8)) (at_ : Int) (w : World) (e : Ending) (w' : World) : Prop :=
  e = .returned (.tuple #[.string (bs (putS T at_ n)), .int .i64 (checkN n)]) ∧ RTab lo w' g (putT T at_ n) ∧ Below lo w w'
theorem refputTab_any (lo g : Nat) (T : List (List (List UInt8) × Nat)) (A : Option Addr) (c : Nat) (n : List (List UInt8)) (at_ : Int) (w : World) (hT : RTab lo w g T) (hlo : lo ≤ w.heap.size) (hgl : lo ≤ g) (hL : TxtL lo w (.slice A n.length c) n) (hA : NmR w A c n) (hTl : T.length ≤ 900000) :
    Calls Try.prog 25 #[.pointer (some ⟨g, 0, none⟩), .slice A n.length c, .int .i64 at_] w (RPutAny lo g T n at_ w) := by
  obtain ⟨h1, h2, h3, h4⟩ := hA
  by_cases hc : checkN n = 0
  · refine (refput_tab lo g T A c n at_ w hT hlo hgl hL h2 hc hTl).mono ?_
    rintro e w' ⟨rfl, h5, h6⟩
    unfold RPutAny putS putT
    rw [if_pos hc, if_pos hc, hc]
    exact ⟨rfl, h5, h6⟩
  · refine (refput_bad (some ⟨g, 0, none⟩) A c n at_ w h1 (by omega) hc).mono ?_
    rintro e w' ⟨rfl, rfl⟩
    unfold RPutAny putS putT
    rw [if_neg hc, if_neg hc]
    exact ⟨rfl, hT, Below.refl _ _⟩
theorem putT_length (T : List (List (List UInt8) × Nat)) (at_ : Int) (n : List (List UInt8)) : (putT T at_ n).length ≤ T.length + 254 := by
  unfold putT
  by_cases hc : checkN n = 0
  · rw [if_pos hc, List.length_append]
    have hn : n.length ≤ 254 := by have := (checkN_ok hc).2; have := lsum_ge n; omega
    have : ∀ (n : List (List UInt8)) (pre : List UInt8), (pgo T at_ pre n).2.length ≤ n.length := by
      intro n
      induction n with
      | nil => intro pre; simp [pgo]
      | cons l n ih =>
        intro pre
        cases hk : look T (l :: n) with
        | some q => rw [pgo_some hk]; simp
        | none =>
          rw [pgo_no hk]
          have := ih (pre ++ encL l)
          simp only [List.length_append, List.length_cons]
          split <;> simp <;> omega
    have := this n []
    omega
  · rw [if_neg hc]; omega

/-- A slice of names. -/
def NmsR (w : World) (A : Option Addr) (ls : List (List (List UInt8))) : Prop := 0 < ls.length → ∃ b off, A = some ⟨b, off, none⟩ ∧ b < w.heap.size ∧ ∀ i (hi : i < ls.length), ∃ Ai ci, w.cell? ⟨b, off + i, none⟩ = some (.slice Ai ls[i].length ci) ∧ NmR w Ai ci ls[i]
theorem NmsR.below {w w' : World} {A : Option Addr} {ls : List (List (List UInt8))} (h : NmsR w A ls) (hb : Below w.heap.size w w') : NmsR w' A ls := by
  intro hp
  obtain ⟨b, off, hA, hlt, hc⟩ := h hp
  refine ⟨b, off, hA, Nat.lt_of_lt_of_le hlt hb.size, fun i hi => ?_⟩
  obtain ⟨Ai, ci, h1, h2⟩ := hc i hi
  exact ⟨Ai, ci, (hb.cell hlt).trans h1, h2.below hb⟩
def fewB (ls : List (List (List UInt8))) : Bool := decide (ls.length ≤ 40) && ls.all fun n => decide (lsum n ≤ 400)
theorem fewN_any (A : Option Addr) (c : Nat) (n : List (List UInt8)) (w : World) (hA : NmR w A c n) : Calls Try.prog 33 #[.slice A n.length c] w (Ret (.bool (decide (lsum n ≤ 400))) w) :=
  few_any A c n w hA.1 (by have := hA.2.2.1; omega) (fun l hl => by have := hA.2.2.2 l hl; omega)
theorem few12_any (A : Option Addr) (c : Nat) (ls : List (List (List UInt8))) (w : World) (hA : NmsR w A ls) :
    Calls Try.prog 22 #[.slice A ls.length c] w (Ret (.bool (fewB ls)) w) := by
  by_cases h40 : ls.length ≤ 40
  · have h40' : (ls.length : Int) ≤ 40 := by omega
    go_enter Try.func22, Try.ntmps22
    go_wp2_with fail
    go_loop [3] (fun i => ∃ k : Nat, k ≤ ls.length ∧ i = .int .i64 k ∧ Hid (∀ j (hj : j < ls.length), j < k → lsum ls[j] ≤ 400)) (fun i => ls.length - (intOf i).toNat)
    case atStart => exact ⟨0, Nat.zero_le _, rfl, Lib.hid (fun j hj h => by omega)⟩
    case round =>
      obtain ⟨k, hk, rfl, H⟩ := hrel
      by_cases hlt : k < ls.length
      · have hlt' : (k : Int) < ls.length := by omega
        obtain ⟨b, off, rfl, _, xa⟩ := hA (by omega)
        obtain ⟨Ai, ci, c1, hR⟩ := xa k hlt
        have C := fewN_any Ai ci ls[k] w hR
        clear xa
        by_cases h4 : lsum ls[k] ≤ 400
        · rw [decide_eq_true h4] at C
          have H4 := Lib.hid h4
          clear h4
          go_wp2_with fail
          refine C.mono ?_
          rintro _ w1 ⟨rfl, rfl⟩
          clear C
          go_wp2_with fail
          go_round
          case rel => exact ⟨k + 1, by omega, by go_num, Lib.hid (fun j hj h => by
            by_cases e : j = k
            · subst e; exact H4.out
            · exact H.out j hj (by omega))⟩
          case measure => simp [intOf]; omega
        · rw [decide_eq_false h4] at C
          have hno : fewB ls = false := by
            unfold fewB
            rw [Bool.and_eq_false_iff]; right
            rw [List.all_eq_false]
            exact ⟨ls[k], List.getElem_mem hlt, by simpa using h4⟩
          have R := Lib.hid hno
          clear hno h4
          go_wp2_with fail
          refine C.mono ?_
          rintro _ w1 ⟨rfl, rfl⟩
          clear C
          go_wp2_with fail
          go_ret
          exact Ret.mk (ret_bool R.out.symm) rfl
      · have hlt' : ¬ (k : Int) < ls.length := by omega
        have hyes : fewB ls = true := by
          unfold fewB
          rw [Bool.and_eq_true]
          refine ⟨decide_eq_true h40, List.all_eq_true.2 fun n hn => ?_⟩
          obtain ⟨j, hj, rfl⟩ := List.getElem_of_mem hn
          exact decide_eq_true (H.out j hj (by omega))
        have R := Lib.hid hyes
        clear hyes
        go_wp2_with fail
        go_ret
        exact Ret.mk (ret_bool R.out.symm) rfl
  · have h40' : (40 : Int) < ls.length := by omega
    have hno : fewB ls = false := by unfold fewB; rw [decide_eq_false h40]; rfl
    have R := Lib.hid hno
    clear hno
    go_enter Try.func22, Try.ntmps22
    go_wp2_with fail
    go_ret
    exact Ret.mk (ret_bool R.out.symm) rfl
theorem fewB_yes {ls : List (List (List UInt8))} (h : fewB ls = true) : ls.length ≤ 40 ∧ ∀ n ∈ ls, lsum n ≤ 400 := by
  unfold fewB at h
  rw [Bool.and_eq_true] at h
  exact ⟨of_decide_eq_true h.1, fun n hn => of_decide_eq_true (List.all_eq_true.1 h.2 n hn)⟩
end Go.Proofs.Ytlmgdogblbigpaa

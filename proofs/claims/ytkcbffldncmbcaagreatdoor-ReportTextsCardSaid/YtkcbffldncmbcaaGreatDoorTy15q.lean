/-
  Layer 47: words for codes and kinds, of both; a text's line.
-/
import Derived.Test.YtkcbffldncmbcaaGreatDoorTDq
namespace Go.Proofs.YtkcbffldncmbcaaGreatDoor
open _root_.Go.Proofs.Tryz
open Go.RowKit
set_option maxRecDepth 100000
set_option linter.unusedVariables false
set_option linter.unusedSimpArgs false
def WordsRet (ls : List (List UInt8)) (w : World) (e : Ending) (w' : World) : Prop :=
 ∃ g, e = .returned (.slice (some ⟨g, 0, none⟩) ls.length ls.length) ∧ Blk w' g 9 (strs ls) ∧ w.heap.size ≤ g ∧ Below w.heap.size w w'
theorem words_any (w : World) : Calls prog 21 #[] w (WordsRet codeL w) := by
 go_enter func21, ntmps21
 go_wp2_with fail
 go_ret
 exact ⟨_, rfl, Blk.new _ _ _, Nat.le_refl _, (Below.refl _ _).alloc (Nat.le_refl _) _⟩
theorem codes_any (w : World) : Calls prog 48 #[] w (WordsRet codeL w) := by
 go_enter func48, ntmps48
 go_wp2_with fail
 go_ret
 exact ⟨_, rfl, Blk.new _ _ _, Nat.le_refl _, (Below.refl _ _).alloc (Nat.le_refl _) _⟩
theorem kinds_any (w : World) : Calls prog 25 #[] w (WordsRet kindL w) := by
 go_enter func25, ntmps25
 go_wp2_with fail
 go_ret
 exact ⟨_, rfl, Blk.new _ _ _, Nat.le_refl _, (Below.refl _ _).alloc (Nat.le_refl _) _⟩
theorem word_any (ls : List (List UInt8)) (hls : ls.length ≤ 100) (f n : Int) (hf : f = 0 ∨ f = 1) (h0 : -9223372036854775808 ≤ n) (h1 : n ≤ 9223372036854775807) (g : Nat) (w : World) (hg : Blk w g 9 (strs ls)) (hT : Tb w) :
  Calls prog 20 #[.slice (some ⟨g, 0, none⟩) ls.length ls.length, .int .i64 f, .int .i64 n] w (RetB (.string (bs (wordT ls f n))) w) := by
 have DG := Hh (digits_any n h0 h1 w hT)
 by_cases hin : f ≤ n ∧ n < f + ls.length
 case pos =>
  obtain ⟨k, hk⟩ : ∃ k : Nat, n = f + k := ⟨(n - f).toNat, by omega⟩
  have hkl : k < ls.length := by omega
  have e : wordT ls f n = ls[k] := by
   unfold wordT
   rw [if_pos hin, show (n - f).toNat = k by omega, List.getD_eq_getElem?_getD, List.getElem?_eq_getElem hkl]
   rfl
  rw [e]
  have c1 : w.cell? ⟨g, k, none⟩ = some (.string (bs ls[k])) := hg.cell_ k (by simp [strs, hkl])
  have p1 : f ≤ n := hin.1
  have p2 : n < f + ls.length := hin.2
  have p3 : n - f = k := by omega
  have p4 : (k : Int) < ls.length := by omega
  clear e hin hk
  generalize ls[k] = t at *
  generalize hN : ls.length = N at *
  clear DG hN hg
  go_enter func20, ntmps20
  go_wp2_with fail
  go_ret
  exact RetB.mk rfl (Below.refl _ _)
 have e : wordT ls f n = Lib.itoa n := by unfold wordT; rw [if_neg hin]
 rw [e]
 generalize ls.length = N at *
 clear e hg
 by_cases p1 : f ≤ n
 case pos =>
  have p2 : ¬ n < f + N := fun h => hin ⟨p1, h⟩
  clear hin
  go_enter func20, ntmps20
  go_wp2_with fail
  refine DG.out.mono ?_
  rintro _ w1 ⟨rfl, b1⟩
  go_wp2_with fail
  go_ret
  exact RetB.mk rfl b1
 clear hin
 go_enter func20, ntmps20
 go_wp2_with fail
 refine DG.out.mono ?_
 rintro _ w1 ⟨rfl, b1⟩
 go_wp2_with fail
 go_ret
 exact RetB.mk rfl b1
theorem code_any (n : Int) (h0 : -9223372036854775808 ≤ n) (h1 : n ≤ 9223372036854775807) (w : World) : Calls prog 28 #[.int .i64 n] w (RetB (.string (bs (wordT codeL 0 n))) w) := by
 have DG := Hh (rdigZ_any n h0 h1 w)
 have CS := Hh (codes_any w)
 by_cases hin : 0 ≤ n ∧ n ≤ 10
 case pos =>
  obtain ⟨k, rfl⟩ : ∃ k : Nat, n = k := ⟨n.toNat, by omega⟩
  have hkl : k < codeL.length := by have : codeL.length = 11 := rfl; omega
  have e : wordT codeL 0 k = codeL[k] := by
   unfold wordT
   rw [if_pos ⟨hin.1, by have : codeL.length = 11 := rfl; omega⟩, show ((k : Int) - 0).toNat = k by omega, List.getD_eq_getElem?_getD, List.getElem?_eq_getElem hkl]
   rfl
  rw [e]
  have p2 : (k : Int) ≤ 10 := hin.2
  have hx : (strs codeL)[k]? = some (.string (bs codeL[k])) := by simp [strs, hkl]
  have p4 : (k : Int) < 11 := by omega
  have hN : codeL.length = 11 := rfl
  clear e hin DG
  generalize codeL[k] = t at *
  go_enter func28, ntmps28
  go_wp2_with fail
  refine CS.out.mono ?_
  rintro _ w1 ⟨g, rfl, hb, hg, b1⟩
  have c1 := hb.cell_ k hx
  rw [hN]
  clear CS hb hx hkl hN
  go_wp2_with fail
  go_ret
  exact RetB.mk rfl b1
 have e : wordT codeL 0 n = Lib.itoa n := by unfold wordT; rw [if_neg (by have : codeL.length = 11 := rfl; omega)]
 rw [e]
 clear e CS
 by_cases p1 : 0 ≤ n
 case pos =>
  have p2 : ¬ n ≤ 10 := fun h => hin ⟨p1, h⟩
  clear hin
  go_enter func28, ntmps28
  go_wp2_with fail
  refine DG.out.mono ?_
  rintro _ _ ⟨rfl, rfl⟩
  go_wp2_with fail
  go_ret
  exact RetB.mk rfl (Below.refl _ _)
 clear hin
 go_enter func28, ntmps28
 go_wp2_with fail
 refine DG.out.mono ?_
 rintro _ _ ⟨rfl, rfl⟩
 go_wp2_with fail
 go_ret
 exact RetB.mk rfl (Below.refl _ _)
theorem socket_any (n : Int) (h0 : -9223372036854775808 ≤ n) (h1 : n ≤ 9223372036854775807) (w : World) : Calls prog 32 #[.int .i64 n] w (Ret (.string (bs (wordT kindL 1 n))) w) := by
 have DG := Hh (rdigZ_any n h0 h1 w)
 by_cases e1 : n = 1
 case pos =>
  subst e1
  go_enter func32, ntmps32
  go_wp2_with fail
  go_ret
  exact ⟨rfl, rfl⟩
 by_cases e2 : n = 2
 case pos =>
  subst e2
  go_enter func32, ntmps32
  go_wp2_with fail
  go_ret
  exact ⟨rfl, rfl⟩
 have e : wordT kindL 1 n = Lib.itoa n := by unfold wordT; rw [if_neg (by have : kindL.length = 2 := rfl; omega)]
 rw [e]
 have q1 : (n == 1) = false := by simpa using e1
 have q2 : (n == 2) = false := by simpa using e2
 clear e e1 e2
 go_enter func32, ntmps32
 go_wp2_with fail
 refine DG.out.mono ?_
 rintro _ _ ⟨rfl, rfl⟩
 go_wp2_with fail
 go_ret
 exact ⟨rfl, rfl⟩
theorem rtext_any (nm s : List UInt8) (hn : nm.length ≤ 100) (hs : s.length ≤ 100000) (w : World) : Calls prog 29 #[.string (bs nm), .string (bs s)] w (Ret (.string (bs (lineQ nm s))) w) := by
 have QU := Hh (rquoted_any s hs w)
 have ql := quoL_len s
 by_cases h0 : s = []
 case pos =>
  subst h0
  go_enter func29, ntmps29
  go_wp2_with fail
  go_ret
  exact ⟨rfl, rfl⟩
 have e : lineQ nm s = nm ++ [32] ++ quoL s ++ [10] := by unfold lineQ; rw [if_neg h0]
 rw [e]
 have h0' : (s == []) = false := by simpa using h0
 have h0'' : s.isEmpty = false := by simpa using h0
 clear e
 generalize quoL s = q at *
 go_enter func29, ntmps29
 go_wp2_with fail
 refine QU.out.mono ?_
 rintro _ _ ⟨rfl, rfl⟩
 go_wp2_with fail
 go_ret
 exact ⟨by simp [bs], rfl⟩
end Go.Proofs.YtkcbffldncmbcaaGreatDoor

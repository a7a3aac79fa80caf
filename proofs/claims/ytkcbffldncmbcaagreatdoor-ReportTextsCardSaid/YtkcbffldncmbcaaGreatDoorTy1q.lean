/-
  Layers 1 and 7: Digits, Join; quad.Text.
-/
import Derived.Test.YtkcbffldncmbcaaGreatDoorShfq
import Derived.Test.YtkcbffldncmbcaaGreatDoorTAq
import Derived.Lib.AppendIntMem
import Derived.Laws.MakeOwn
namespace Go.Proofs.YtkcbffldncmbcaaGreatDoor
open _root_.Go.Proofs.Tryz
open Go.RowKit
set_option maxRecDepth 100000
set_option linter.unusedVariables false
set_option linter.unusedSimpArgs false
structure Tb (w : World) : Prop where
 pow : Lib.TabIs prog w "internal/strconv.uint64pow10" .u64 Lib.pow10Tab
 tz : w.cell? ⟨5, 15, none⟩ = some (.int .u8 4)
theorem Tb.below {w w' : World} (h : Tb w) (hb : Below w.heap.size w w') : Tb w' := ⟨Lib.tabBelow_of_tabIs h.pow w' hb, (hb.cell (World.block_lt_of_cell? _ _ h.tz)).trans h.tz⟩
theorem digits_any (n : Int) (h0 : -9223372036854775808 ≤ n) (h1 : n ≤ 9223372036854775807) (w : World) (hT : Tb w) : Calls prog 24 #[.int .i64 n] w (RetB (.string (bs (Lib.itoa n))) w) := by
 have IT := Hh (Tryz.strconv_Itoa n h0 h1 w hT.pow)
 go_enter func24, ntmps24
 go_wp2_with fail
 refine IT.out.mono ?_
 rintro _ w1 ⟨rfl, k, os, rfl⟩
 have hB := Lib.below_grow w.heap.size w (Nat.le_refl _) k os
 clear IT
 obtain ⟨w1, hw1⟩ : ∃ w1, Go.Sort.grow (w.drewN k) os = w1 := ⟨_, rfl⟩
 rw [hw1] at hB ⊢
 go_wp2_with fail
 go_ret
 exact RetB.mk rfl hB
theorem join_joinC (c : UInt8) (ls : List (List UInt8)) : Lib.join ls [c] = joinC c ls := by
 cases ls with
 | nil => rfl
 | cons l ls =>
  rw [Lib.join_cons]
  show l ++ (ls.map ([c] ++ ·)).flatten = l ++ ls.flatMap (fun x => c :: x)
  rw [List.flatMap_def]
  rfl
theorem join_any (c : UInt8) (A : Addr) (cap : Nat) (ls : List (List UInt8)) (w : World) (hc : ∀ i (hi : i < ls.length), w.cell? ⟨A.block, A.off + i, none⟩ = some (.string (bs ls[i]))) (hA : A.spot = none) (hb : A.block < w.heap.size) (hl : ls.length ≤ cap) (hl2 : ls.length ≤ 100000) (hj : (joinC c ls).length ≤ 140737488355328) :
  Calls prog 18 #[.string (bs [c]), .slice (some A) ls.length cap] w (RetB (.string (bs (joinC c ls))) w) := by
 obtain ⟨b, o, sp⟩ := A
 subst hA
 have e1 : (ls.map bs).map (·.data.toList) = ls := by
  rw [List.map_map]
  conv => rhs; rw [← List.map_id ls]
  refine List.map_congr_left fun x _ => ?_
  exact bs_data x
 have SJ := Tryz.strings_Join b o cap (ls.map bs) (bs [c]) w (fun j x hx => by
  rw [List.getElem?_map] at hx
  obtain ⟨y, hy, rfl⟩ := Option.map_eq_some_iff.1 hx
  obtain ⟨hj, rfl⟩ := List.getElem?_eq_some_iff.1 hy
  exact hc j hj) hb (by simp; omega) (by simpa using hl) (by rw [e1, bs_data, join_joinC]; exact hj)
 rw [e1, bs_data, join_joinC, List.length_map] at SJ
 have SJ := Hh SJ
 clear hc e1
 generalize joinC c ls = R at *
 generalize ls.length = n at *
 go_enter func18, ntmps18
 go_wp2_with fail
 refine SJ.out.mono ?_
 rintro _ w1 ⟨rfl, hB⟩
 clear SJ
 go_wp2_with fail
 go_ret
 exact RetB.mk rfl hB
theorem join0_any (c : UInt8) (A : Option Addr) (cap : Nat) (w : World) : Calls prog 18 #[.string (bs [c]), .slice A 0 cap] w (RetB (.string (bs [])) w) := by
 have SJ := Hh (Tryz.strings_Join_none A cap (bs [c]) w)
 go_enter func18, ntmps18
 go_wp2_with fail
 refine SJ.out.mono ?_
 rintro _ _ ⟨rfl, rfl⟩
 go_wp2_with fail
 go_ret
 exact RetB.mk rfl (Below.refl _ _)
theorem joinT_any (c : UInt8) (v : Value) (ls : List (List UInt8)) (w : World) (h : Txts w v ls) (hl : ls.length ≤ 100000) (hj : (joinC c ls).length ≤ 140737488355328) : Calls prog 18 #[.string (bs [c]), v] w (RetB (.string (bs (joinC c ls))) w) := by
 obtain ⟨A, cap, rfl, hT, hcap⟩ := h.form
 by_cases h0 : ls = []
 ·
  subst h0
  exact join0_any c A cap w
 ·
  have hp : 0 < ls.length := List.length_pos_iff.2 h0
  obtain ⟨b, o, rfl, hb, hc⟩ := hT hp
  exact join_any c ⟨b, o, none⟩ cap ls w hc rfl hb hcap hl hj
theorem mk0 {t e : TypeId} {z : Value} {bytes : Nat} (ht : prog.underlying t = some (.slice e)) (hi : (prog.info? e).map (fun i => (i.zero, i.size, i.bytes)) = some (some z, 1, bytes)) (B c : Nat) (hb : bytes * c ≤ 281474976710656) (hc : c ≤ maxLen) (W : World) (hB : B ≤ W.heap.size) : ∃ W', (Instr.makeSlice t (.int .i64 0) (.int .i64 (c : Int))).run prog W = .ok (.slice (some ⟨W.heap.size, 0, none⟩) 0 c) W' ∧ W'.ownsRow B e 1 (.slice (some ⟨W.heap.size, 0, none⟩) 0 c) 0 [] ∧ Below W.heap.size W W' := by
 obtain ⟨i, hi0, hz, hs, hby⟩ := info_parts hi
 obtain ⟨W', h1, h2, h3⟩ := run_make_own (P := prog) W B t e i z 1 ht hi0 hz hs .i64 .i64 c (by rw [hby]; exact hb) hc hB
 exact ⟨W', h1, h2, (Below.refl _ _).grown h3 (Nat.le_refl _) (fun k hk => by cases hk)⟩
end Go.Proofs.YtkcbffldncmbcaaGreatDoor

/-
  Layer 47: works.
-/
import Derived.Test.YtkcbffldncmbcaaGreatDoorTy35q
namespace Go.Proofs.YtkcbffldncmbcaaGreatDoor
open _root_.Go.Proofs.Tryz
open Go.RowKit
set_option maxRecDepth 100000
set_option linter.unusedVariables false
set_option linter.unusedSimpArgs false
def wkR : Rz := ⟨0, [wkI], [], [], [], []⟩
theorem wkR_text : rzT wkR = wkT := by decide +kernel
theorem of36 (w : World) : Calls prog 15 #[.int .i64 1, .int .i64 2, .int .i64 3, .int .i64 4] w (RetB (.agg #[.int .i64 4, .int .u8 1, .int .u8 2, .int .u8 3, .int .u8 4, .int .u8 0, .int .u8 0, .int .u8 0, .int .u8 0, .int .u8 0, .int .u8 0, .int .u8 0, .int .u8 0, .int .u8 0, .int .u8 0, .int .u8 0, .int .u8 0, .int .i64 0]) w) := rof_any 1 2 3 4 w
theorem text36 (g k : Nat) (w : World) (hT : Tb w) (hI : LIn w 20 InfI (some ⟨g, 0, none⟩) [wkI]) : Calls prog 6 #[.agg (oneC g k).toArray] w (RetB (.string (bs wkT)) w) := by
 rw [← wkR_text]
 exact stext_any wkR (some ⟨g, 0, none⟩) none k 0 w hT ⟨by show (-9223372036854775808 : Int) ≤ 0; decide, by show (0 : Int) ≤ _; decide⟩ hI (by show 1 ≤ 100; decide) (fun h => absurd h (by decide)) (fun r hr => by cases hr) (by show 0 ≤ 60; decide) ⟨by show 0 ≤ 2000; decide, by show 0 ≤ 2000; decide, by show 0 ≤ 2000; decide⟩
set_option maxHeartbeats 2000000 in
theorem works47_any (w : World) (hT : Tb w) : Calls prog 5 #[] w (RetB (.bool true) w) := by
 have RD := Hh (show Calls prog 12 #[.string (bs wkT)] w (fun e w' => ∃ g cap, e = .returned (.tuple #[.agg #[.int .i64 0, .slice (some ⟨g, 0, none⟩) 1 cap, .string ⟨#[]⟩, .string ⟨#[]⟩, .string ⟨#[]⟩, .slice none 0 0], .int .i64 0]) ∧ LIn w' 20 InfI (some ⟨g, 0, none⟩) [wkI] ∧ Below w.heap.size w w') from wkRead_any w hT)
 have FR := Hh (fun g cap V => from43_any 0 (some ⟨g, 0, none⟩) none 1 0 cap 0 ⟨#[]⟩ ⟨#[]⟩ ⟨#[]⟩ V)
 have OF := Hh (fun V => of36 V)
 have e0 : wkT = [99, 111, 100, 101, 32, 111, 107, 10, 97, 100, 100, 114, 32, 49, 46, 50, 46, 51, 46, 52, 32, 56, 48, 32, 115, 116, 114, 101, 97, 109, 10] := rfl
 go_enter func5, ntmps5
 go_wp2_with fail
 refine RD.out.mono ?_
 rintro _ w2 ⟨g, cap, rfl, hI, HB⟩
 have T2 := hT.below HB
 clear RD hT
 go_wp2_with fail
 refine (FR.out g cap _).mono ?_
 rintro _ w3 ⟨rfl, b3⟩
 go_wp2_with fail
 refine (OF.out _).mono ?_
 rintro _ w4 ⟨rfl, b4⟩
 go_wp2_with fail
 have BA : Below w2.heap.size w2 w4 := (((Below.refl _ w2).alloc (Nat.le_refl _) _).trans (b3.mono (by simp))).trans (b4.mono (by have := b3.size; simp at this; omega))
 have X4 : Blk w4 w2.heap.size 35 (oneC g cap) := ((Blk.new w2 35 (oneC g cap)).below b3 (by simp)).below b4 (by have := b3.size; simp at this; omega)
 have B5 : Below w2.heap.size w2 (w4.alloc (.cells (infC wkI).toArray 53)) := BA.alloc BA.size _
 refine (same43_one g w4.heap.size cap 1 (w4.alloc (.cells (infC wkI).toArray 53)) (hI.mono B5 (fun _ _ h => h)) (one_inf (cur := (infC wkI).toArray) (heap_alloc_new w4 _) rfl)).mono ?_
 rintro _ w5 ⟨rfl, b5⟩
 have X5 : Blk w5 w2.heap.size 35 (oneC g cap) := (X4.alloc _).below b5 (X4.alloc _).lt
 have B6 : Below w2.heap.size w2 w5 := below_then B5 B5.size b5
 have d0 := X5.cell_ 0 (u := .int .i64 0) rfl
 have d1 := X5.cell_ 1 (u := .slice (some ⟨g, 0, none⟩) 1 cap) rfl
 have d2 := X5.cell_ 2 (u := .string ⟨#[]⟩) rfl
 have d3 := X5.cell_ 3 (u := .string ⟨#[]⟩) rfl
 have d4 := X5.cell_ 4 (u := .string ⟨#[]⟩) rfl
 have d5 := X5.cell_ 5 (u := .slice none 0 0) rfl
 have TX := Hh (show Calls prog 6 #[.agg #[.int .i64 0, .slice (some ⟨g, 0, none⟩) 1 cap, .string ⟨#[]⟩, .string ⟨#[]⟩, .string ⟨#[]⟩, .slice none 0 0]] w5 (RetB (.string (bs wkT)) w5) from text36 g cap w5 (T2.below B6) (hI.mono B6 (fun _ _ h => h)))
 have HB2 := below_then HB HB.size B6
 clear X5 X4 b5 B5 BA b3 b4 hI T2 B6 FR OF HB
 go_wp2_with fail
 refine TX.out.mono ?_
 rintro _ w6 ⟨rfl, b6⟩
 have HB3 := below_then HB2 HB2.size b6
 clear TX d0 d1 d2 d3 d4 d5 HB2 b6
 go_wp2_with fail
 go_ret
 exact RetB.mk rfl HB3
end Go.Proofs.YtkcbffldncmbcaaGreatDoor

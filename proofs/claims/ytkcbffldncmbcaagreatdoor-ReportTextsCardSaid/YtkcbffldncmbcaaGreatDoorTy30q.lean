/-
  Go's strings.SplitSeq: the function that it hands back.
-/
import Derived.Test.YtkcbffldncmbcaaGreatDoorTy29q
namespace Go.Proofs.YtkcbffldncmbcaaGreatDoor
open _root_.Go.Proofs.Tryz
open Go.RowKit
set_option maxRecDepth 100000
set_option linter.unusedVariables false
set_option linter.unusedSimpArgs false
def SqRet (s sep : List UInt8) (w : World) (e : Ending) (w' : World) : Prop :=
 ∃ h, w.heap.size ≤ h ∧ e = .returned (.func (.func 69) #[] #[.pointer (some ⟨h + 1, 0, none⟩), .pointer (some ⟨h, 0, none⟩), .pointer (some ⟨h + 2, 0, none⟩)]) ∧
  Blk w' h 9 [.string (bs s)] ∧ Blk w' (h + 1) 9 [.string (bs sep)] ∧ Blk w' (h + 2) 3 [.int .i64 0] ∧ Below w.heap.size w w'
theorem splitSeq0_any (s sep : List UInt8) (w : World) : Calls prog 53 #[.string (bs s), .string (bs sep), .int .i64 0] w (SqRet s sep w) := by
 have hmf : ∀ (fn : Fn) (first cap : Array Value) (w : World), (Instr.makeFunc fn first cap).run prog w = .ok (.func fn first cap) w := fun _ _ _ _ => rfl
 go_enter func53, ntmps53
 go_wp2_with fail
 go_ret
 have B1 := (Blk.new w 9 [.string (bs s)])
 have B2 := (Blk.new (w.alloc (.cells #[.string (bs s)] 9)) 9 [.string (bs sep)])
 have B3 := (Blk.new ((w.alloc (.cells #[.string (bs s)] 9)).alloc (.cells #[.string (bs sep)] 9)) 3 [.int .i64 0])
 refine ⟨w.heap.size, Nat.le_refl _, rfl, (B1.alloc _).alloc _, ?_, ?_, (((Below.refl _ _).alloc (Nat.le_refl _) _).alloc (by simp) _).alloc (by simp; omega) _⟩
 ·
  have := B2.alloc (.cells #[.int .i64 0] 3)
  simpa using this
 ·
  simpa using B3
theorem SplitSeq_any (s sep : List UInt8) (w : World) : Calls prog 37 #[.string (bs s), .string (bs sep)] w (SqRet s sep w) := by
 have S0 := Hh (splitSeq0_any s sep w)
 go_enter func37, ntmps37
 go_wp2_with fail
 refine S0.out.mono ?_
 rintro _ w1 ⟨h, h1, rfl, h2, h3, h4, h5⟩
 have H := Hh (And.intro h2 (And.intro h3 (And.intro h4 h5)))
 clear h2 h3 h4 h5 S0
 go_wp2_with fail
 go_ret
 exact ⟨h, h1, rfl, H.out.1, H.out.2.1, H.out.2.2.1, H.out.2.2.2⟩
end Go.Proofs.YtkcbffldncmbcaaGreatDoor

/-
  Layer 9 (addr), as far as records want it: addresses as cells; '=='; Check, and the reference's.
-/
import Derived.Test.YtkcbffldncmbcaaGreatDoorGBq
namespace Go.Proofs.YtkcbffldncmbcaaGreatDoor
open _root_.Go.Proofs.Tryz
open Go.RowKit
set_option maxRecDepth 100000
set_option linter.unusedVariables false
structure Adr where
 fam : Int
 ip : List UInt8
 zone : Int
deriving DecidableEq
def Adr.cells (a : Adr) : List Value := .int .i64 a.fam :: (octs a.ip ++ [.int .i64 a.zone])
def Adr.zero : Adr := ⟨0, List.replicate 16 0, 0⟩
theorem Adr.cells_len (a : Adr) (h : a.ip.length = 16) : a.cells.length = 18 := by simp [Adr.cells, octs_length, h]
theorem octs_one (l : List UInt8) : ∀ v ∈ octs l, v.oneCell' = true := by
 intro v hv
 obtain ⟨b, _, rfl⟩ := List.mem_map.1 hv
 rfl
theorem Adr.cells_one (a : Adr) : ∀ v ∈ a.cells, v.oneCell' = true := by
 intro v hv
 rcases List.mem_cons.1 hv with rfl | hv
 ·
  rfl
 ·
  rcases List.mem_append.1 hv with hv | hv
  ·
   exact octs_one _ v hv
  ·
   rw [List.mem_singleton] at hv; subst hv; rfl
def quadA (a b c d : UInt8) : Adr := ⟨4, [a, b, c, d, 0, 0, 0, 0, 0, 0, 0, 0, 0, 0, 0, 0], 0⟩
def adrZ : List Value := Adr.zero.cells
theorem adrInfo : (prog.info? 31).map (·.size) = some 18 := by kernel_rfl
theorem Blk.newA (w : World) (k : Nat) (hk : k = w.heap.size) : Blk (w.alloc (.cells #[.int .i64 0, .int .u8 0, .int .u8 0, .int .u8 0, .int .u8 0, .int .u8 0, .int .u8 0, .int .u8 0, .int .u8 0, .int .u8 0, .int .u8 0, .int .u8 0, .int .u8 0, .int .u8 0, .int .u8 0, .int .u8 0, .int .u8 0, .int .i64 0] 31)) k 31 adrZ := Blk.new' w _ adrZ k hk
theorem quadOf_any (a b c d : UInt8) (w : World) : Calls prog 80 #[.int .u8 (a.toNat : Int), .int .u8 (b.toNat : Int), .int .u8 (c.toNat : Int), .int .u8 (d.toNat : Int)] w (RetB (.agg (quadA a b c d).cells.toArray) w) := by
 go_enter func80, ntmps80
 go_wp2_with (refine at_op (.store 31 (.tmp 8) (.tmp 14)) rfl ?_; go_must (refine wpList_stB rfl _ _ _ rfl w.heap.size 0 rfl (quadA a b c d).cells rfl (Blk.newA w _ rfl) (Nat.le_refl 18) adrInfo (Adr.cells_one _) ?_))
 intro w1 hb1 hg1 _
 go_wp2_with fail
 have hb2 : Blk w1 w.heap.size 31 (quadA a b c d).cells := by simpa [adrZ, Adr.zero, Adr.cells, quadA, octs] using hb1
 refine ret_cell Tryz.results80 w.heap.size rfl hb2 _ underlying31 rfl adrInfo rfl ?_
 exact RetB.mk rfl (below_grown ((Below.refl _ _).alloc (Nat.le_refl _) _) hg1 (by simp) (Nat.le_refl _))
end Go.Proofs.YtkcbffldncmbcaaGreatDoor

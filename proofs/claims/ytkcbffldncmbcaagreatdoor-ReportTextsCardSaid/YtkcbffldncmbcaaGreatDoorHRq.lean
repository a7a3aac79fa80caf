/-
  Records as cells; what is wrong with a record, plainly.
-/
import Derived.Test.YtkcbffldncmbcaaGreatDoorGCq
import Derived.Test.YtkcbffldncmbcaaGreatDoorGIq
namespace Go.Proofs.YtkcbffldncmbcaaGreatDoor
open _root_.Go.Proofs.Tryz
open Go.RowKit
set_option maxRecDepth 100000
set_option linter.unusedVariables false
structure RR where
 name : List (List UInt8)
 ty : Int
 cl : Int
 ttl : Int
 ad : Adr
 tg : List (List UInt8)
 ml : List (List UInt8)
 pri : Int
 we : Int
 po : Int
 nums : List Int
 raw : List UInt8
deriving DecidableEq
def ints64 (l : List Int) : List Value := l.map (Value.int .i64)
def rrC (vn vt vm : Value) (r : RR) : List Value := vn :: .int .i64 r.ty :: .int .i64 r.cl :: .int .i64 r.ttl :: (r.ad.cells ++ (vt :: vm :: .int .i64 r.pri :: .int .i64 r.we :: .int .i64 r.po :: (ints64 r.nums ++ [.string (bs r.raw)])))
def RR.wf (r : RR) : Prop := r.ad.ip.length = 16 ∧ r.nums.length = 5
section
variable {vn vt vm : Value} {r : RR}
theorem rrC_len (h : r.wf) : (rrC vn vt vm r).length = 33 := by simp [rrC, r.ad.cells_len h.1, ints64, h.2]
theorem rrC_tail (h : r.wf) (k : Nat) : (rrC vn vt vm r)[22 + k]? = (vt :: vm :: .int .i64 r.pri :: .int .i64 r.we :: .int .i64 r.po :: (ints64 r.nums ++ [.string (bs r.raw)]))[k]? := by
 have e : rrC vn vt vm r = (vn :: .int .i64 r.ty :: .int .i64 r.cl :: .int .i64 r.ttl :: r.ad.cells) ++ (vt :: vm :: .int .i64 r.pri :: .int .i64 r.we :: .int .i64 r.po :: (ints64 r.nums ++ [.string (bs r.raw)])) := by simp [rrC]
 have hl : (vn :: .int .i64 r.ty :: .int .i64 r.cl :: .int .i64 r.ttl :: r.ad.cells).length = 22 := by simp [r.ad.cells_len h.1]
 rw [e, List.getElem?_append_right (by omega), hl, Nat.add_sub_cancel_left]
theorem rrC_22 (h : r.wf) : (rrC vn vt vm r)[22]? = some vt := rrC_tail h 0
theorem rrC_23 (h : r.wf) : (rrC vn vt vm r)[23]? = some vm := rrC_tail h 1
theorem rrC_24 (h : r.wf) : (rrC vn vt vm r)[24]? = some (.int .i64 r.pri) := rrC_tail h 2
theorem rrC_25 (h : r.wf) : (rrC vn vt vm r)[25]? = some (.int .i64 r.we) := rrC_tail h 3
theorem rrC_26 (h : r.wf) : (rrC vn vt vm r)[26]? = some (.int .i64 r.po) := rrC_tail h 4
theorem rrC_32 (h : r.wf) : (rrC vn vt vm r)[32]? = some (.string (bs r.raw)) := by
 have := rrC_tail (vn := vn) (vt := vt) (vm := vm) h 10
 rw [this]
 simp [ints64, h.2]
theorem rrC_one (hn : vn.oneCell' = true) (ht : vt.oneCell' = true) (hm : vm.oneCell' = true) : ∀ v ∈ rrC vn vt vm r, v.oneCell' = true := by
 intro v hv
 simp only [rrC, List.mem_cons, List.mem_append] at hv
 rcases hv with rfl | rfl | rfl | rfl | hv | rfl | rfl | rfl | rfl | rfl | hv | hv
 ·
  exact hn
 ·
  rfl
 ·
  rfl
 ·
  rfl
 ·
  exact r.ad.cells_one v hv
 ·
  exact ht
 ·
  exact hm
 ·
  rfl
 ·
  rfl
 ·
  rfl
 ·
  obtain ⟨b, _, rfl⟩ := List.mem_map.1 hv; rfl
 ·
  rcases hv with rfl | hv
  ·
   rfl
  ·
   cases hv
end
def RRis (w : World) (cs : List Value) (r : RR) : Prop :=
 ∃ An cn At ct Am cm, cs = rrC (.slice An r.name.length cn) (.slice At r.tg.length ct) (.slice Am r.ml.length cm) r ∧ r.wf ∧ NmR w An cn r.name ∧ NmR w At ct r.tg ∧ NmR w Am cm r.ml ∧ r.raw.length ≤ 140737488355328
theorem RRis.below {w w' : World} {cs : List Value} {r : RR} (h : RRis w cs r) (hb : Below w.heap.size w w') : RRis w' cs r := by
 obtain ⟨An, cn, At, ct, Am, cm, h1, h2, h3, h4, h5, h6⟩ := h
 exact ⟨An, cn, At, ct, Am, cm, h1, h2, h3.below hb, h4.below hb, h5.below hb, h6⟩
theorem rrInfo : (prog.info? 45).map (·.size) = some 33 := by kernel_rfl
def kindR (ty cl : Int) : Int := if cl = 1 ∧ (ty = 1 ∨ ty = 28 ∨ ty = 5 ∨ ty = 12 ∨ ty = 33 ∨ ty = 6) then ty else 0
set_option linter.unusedSimpArgs false
def nilS : Value := .slice none 0 0
def RR.zero : RR := ⟨[], 0, 0, 0, Adr.zero, [], [], 0, 0, 0, [0, 0, 0, 0, 0], []⟩
def rrZ : List Value := rrC nilS nilS nilS RR.zero
section
variable {vn vt vm : Value} {r : RR}
end
section
variable {vn vt vm : Value} {r : RR}
end
end Go.Proofs.YtkcbffldncmbcaaGreatDoor

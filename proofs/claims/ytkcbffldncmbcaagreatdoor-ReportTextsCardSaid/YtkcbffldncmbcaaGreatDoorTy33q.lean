/-
  Layer 47: report.Read of one text: what holds between two of its rounds.
-/
import Derived.Test.YtkcbffldncmbcaaGreatDoorTy31bq
import Derived.Test.YtkcbffldncmbcaaGreatDoorTy32q
namespace Go.Proofs.YtkcbffldncmbcaaGreatDoor
open _root_.Go.Proofs.Tryz
open Go.RowKit Go.Shelf
set_option maxRecDepth 100000
set_option linter.unusedVariables false
set_option linter.unusedSimpArgs false
attribute [local go_sem] Oper.semAt_some
def wkL : List (List UInt8) := [[99, 111, 100, 101, 32, 111, 107], [97, 100, 100, 114, 32, 49, 46, 50, 46, 51, 46, 52, 32, 56, 48, 32, 115, 116, 114, 101, 97, 109], []]
def wkT : List UInt8 := [99, 111, 100, 101, 32, 111, 107, 10, 97, 100, 100, 114, 32, 49, 46, 50, 46, 51, 46, 52, 32, 56, 48, 32, 115, 116, 114, 101, 97, 109, 10]
def rzZ : List Value := rzC (.slice none 0 0) (.slice none 0 0) ⟨0, [], [], [], [], []⟩
def wkI : Inf := ⟨quadA 1 2 3 4, 80, 1⟩
structure RdK (W0 : World) (h l g4 : Nat) (W : World) : Prop where
 os : W.os = W0.os
 tape : W.tape = W0.tape
 output : W.output = W0.output
 size : W0.heap.size ≤ W.heap.size
 block : ∀ i, i < W0.heap.size → i ≠ h → i ≠ l → i ≠ g4 → W.heap[i]? = W0.heap[i]?
theorem RdK.refl (W0 : World) (h l g4 : Nat) : RdK W0 h l g4 W0 := ⟨rfl, rfl, rfl, Nat.le_refl _, fun _ _ _ _ _ => rfl⟩
theorem RdK.grown {W0 W W' : World} {h l g4 : Nat} {row : Option Nat} (k : RdK W0 h l g4 W) (g : W.grownBy W' row) (hr : ∀ x, row = some x → x = h ∨ x = l ∨ x = g4) : RdK W0 h l g4 W' :=
 ⟨g.os.trans k.os, g.tape.trans k.tape, g.output.trans k.output, Nat.le_trans k.size g.size, fun i hi h1 h2 h3 => (g.block i (Nat.lt_of_lt_of_le hi k.size) (fun e => by rcases hr i e.symm with rfl | rfl | rfl <;> contradiction)).trans (k.block i hi h1 h2 h3)⟩
structure RdAt (W0 : World) (h l g4 : Nat) (r : Loop) (k j : Nat) (W : World) : Prop where
 kp : RdK W0 h l g4 W
 s0 : Blk W h 9 [.string (bs (joinC 10 (wkL.drop k)))]
 lr : W.heap[l]? = some (.loop r)
 b4 : j ≤ 1 → Blk W g4 35 rzZ
 b5 : 2 ≤ j → ∃ g cap cur, W0.heap.size ≤ g ∧ Blk W g4 35 (rzZ.set 1 (.slice (some ⟨g, 0, none⟩) 1 cap)) ∧ W.heap[g]? = some (.cells cur 53 (0, 0)) ∧ cur.toList.take 20 = infC wkI
section
variable {W0 W W' : World} {h l g4 k j : Nat} {r : Loop}
theorem RdAt.below (a : RdAt W0 h l g4 r k j W) (b : Below W.heap.size W W') : RdAt W0 h l g4 r k j W' :=
  ⟨a.kp.grown (grown_of_below b none) (fun _ e => by cases e), a.s0.below b a.s0.lt, (b.block l (Array.getElem?_eq_some_iff.1 a.lr).1).trans a.lr, fun hj => (a.b4 hj).below b (a.b4 hj).lt,
   fun hj => by obtain ⟨g, cap, cur, h1, h2, h3, h4⟩ := a.b5 hj; exact ⟨g, cap, cur, h1, h2.below b h2.lt, (b.block g (Array.getElem?_eq_some_iff.1 h3).1).trans h3, h4⟩⟩
theorem RdAt.setS (a : RdAt W0 h l g4 r k j W) (h1 : h ≠ l) (h2 : h ≠ g4) (h3 : h < W0.heap.size) (k' : Nat) : RdAt W0 h l g4 r k' j (W.setCell ⟨h, 0, none⟩ (.string (bs (joinC 10 (wkL.drop k'))))) :=
  ⟨a.kp.grown (grown_set (grown_of_below (Below.refl _ W) (some h)) 0 _) (fun x e => by injection e with e; exact .inl e.symm), a.s0.set 0 _, (Below.heap_setCell W _ _ l (Ne.symm h1)).trans a.lr, fun hj => (a.b4 hj).far (p := ⟨h, 0, none⟩) (Ne.symm h2) _,
   fun hj => by obtain ⟨g, cap, cur, e1, e2, e3, e4⟩ := a.b5 hj; exact ⟨g, cap, cur, e1, e2.far (p := ⟨h, 0, none⟩) (Ne.symm h2) _, (Below.heap_setCell W ⟨h, 0, none⟩ _ g (by show g ≠ h; omega)).trans e3, e4⟩⟩
theorem RdAt.putL (a : RdAt W0 h l g4 r k j W) (h1 : h ≠ l) (h2 : g4 ≠ l) (h3 : l < W0.heap.size) (r' : Loop) : RdAt W0 h l g4 r' k j (W.putObj l (.loop r')) := by
  have hl := (Array.getElem?_eq_some_iff.1 a.lr).1
  exact ⟨a.kp.grown (grownBy_putObj' W l (.loop r')) (fun x e => by injection e with e; exact .inr (.inl e.symm)), (World.putObj_heap_other h1).trans a.s0, World.putObj_heap_same hl, fun hj => (World.putObj_heap_other h2).trans (a.b4 hj),
   fun hj => by obtain ⟨g, cap, cur, e1, e2, e3, e4⟩ := a.b5 hj; exact ⟨g, cap, cur, e1, (World.putObj_heap_other h2).trans e2, (World.putObj_heap_other (by omega)).trans e3, e4⟩⟩
theorem RdAt.code (a : RdAt W0 h l g4 r k 0 W) (h1 : h ≠ g4) (h2 : g4 ≠ l) (g : W.grownBy W' (some g4)) (b : Blk W' g4 35 (rzZ.set 0 (.int .i64 0))) : RdAt W0 h l g4 r k 1 W' :=
 ⟨a.kp.grown g (fun x e => by injection e with e; exact .inr (.inr e.symm)), a.s0.grown g (by intro e; injection e with e; exact h1 e), (g.block l (Array.getElem?_eq_some_iff.1 a.lr).1 (by intro e; injection e with e; exact h2 e.symm)).trans a.lr, fun _ => b, fun hj => by omega⟩
theorem RdAt.addr (a : RdAt W0 h l g4 r k 1 W) (h1 : h ≠ g4) (h2 : g4 ≠ l) {gg cap : Nat} (g : W.grownBy W' (some g4)) (b : Blk W' g4 35 (rzZ.set 1 (.slice (some ⟨gg, 0, none⟩) 1 cap))) (c : W'.ownsRow W.heap.size 53 20 (.slice (some ⟨gg, 0, none⟩) 1 cap) 1 (infC wkI)) : RdAt W0 h l g4 r k 2 W' := by
 refine ⟨a.kp.grown g (fun x e => by injection e with e; exact .inr (.inr e.symm)), a.s0.grown g (by intro e; injection e with e; exact h1 e), (g.block l (Array.getElem?_eq_some_iff.1 a.lr).1 (by intro e; injection e with e; exact h2 e.symm)).trans a.lr, fun hj => by omega, fun _ => ?_⟩
 rcases c.2 with ⟨e, _⟩ | ⟨g', cap', cur, e, e1, e2, _, _, _, e3⟩
 ·
  cases e
 ·
  injection e with e _ _
  injection e with e
  injection e with e _ _
  subst e
  exact ⟨gg, cap, cur, Nat.le_trans a.kp.size e1, b, e2, e3⟩
end
theorem Txts.at {w : World} {v : Value} {ls : List (List UInt8)} (h : Txts w v ls) (hl : 0 < ls.length) : ∃ g cap, v = .slice (some ⟨g, 0, none⟩) ls.length cap ∧ g < w.heap.size ∧ (∃ cur, w.heap[g]? = some (.cells cur 9 (0, 0))) ∧ ∀ i (hi : i < ls.length), w.cell? ⟨g, i, none⟩ = some (.string (bs ls[i])) := by
 have h0 : w.ownsRow 0 9 1 v ls.length (ls.map fun t => Value.string (bs t)) := h
 rcases h0.2 with ⟨_, e⟩ | ⟨g, cap, cur, rfl, _, e2, _⟩
 ·
  omega
 ·
  refine ⟨g, cap, rfl, (Array.getElem?_eq_some_iff.1 e2).1, ⟨cur, e2⟩, fun i hi => ?_⟩
  have := World.ownsRow.cellAt h0 i (by omega)
  rw [this, List.getElem?_map, List.getElem?_eq_getElem hi]
  rfl
end Go.Proofs.YtkcbffldncmbcaaGreatDoor

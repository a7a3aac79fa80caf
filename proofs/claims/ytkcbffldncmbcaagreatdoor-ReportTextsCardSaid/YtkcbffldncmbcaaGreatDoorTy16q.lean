/-
  Layer 47: the lines of a report, written to a builder.
-/
import Derived.Test.YtkcbffldncmbcaaGreatDoorTy15q
namespace Go.Proofs.YtkcbffldncmbcaaGreatDoor
open _root_.Go.Proofs.Tryz
open Go.RowKit
set_option maxRecDepth 100000
set_option linter.unusedVariables false
set_option linter.unusedSimpArgs false
def BT (w : World) (b : Nat) (q : List UInt8) : Prop := Lib.IsBuilderF 57 5 b b (octs q) w
theorem own_belowF {w w' : World} {B : Nat} {e : TypeId} {s n : Nat} {v : Value} {xs : List Value} (h : w.ownsRowF B e s v n xs) (hb : Below w.heap.size w w') : w'.ownsRowF B e s v n xs := by
 refine World.ownsRowF.kept h (grown_of_below hb none) ?_
 cases hv : v.ownBlock with
 | none => exact .inl rfl
 | some g => exact .inr (by simp)
theorem builderAt_below {T e : TypeId} {B b : Nat} {p : Value} {cs : List Value} {w w' : World} (h : Lib.BuilderAtF T e B b p cs w) (k : Below w.heap.size w w') : Lib.BuilderAtF T e B b p cs w' := by
 obtain ⟨hB, v, hb, ho, hn⟩ := h
 have hlt : b < w.heap.size := (Array.getElem?_eq_some_iff.1 hb).1
 exact ⟨hB, v, (k.block b hlt).trans hb, own_belowF ho k, hn⟩
theorem BT.below {w w' : World} {b : Nat} {q : List UInt8} (h : BT w b q) (k : Below w.heap.size w w') : BT w' b q := h.elim (fun x => .inl (builderAt_below x k)) (fun x => .inr (builderAt_below x k))
theorem BT.lt {w : World} {b : Nat} {q : List UInt8} (h : BT w b q) : b < w.heap.size := by
 rcases h with ⟨_, v, hb, _⟩ | ⟨_, v, hb, _⟩ <;> exact (Array.getElem?_eq_some_iff.1 hb).1
theorem BT.fresh (w : World) : BT (w.alloc (.cells #[.pointer none, .slice none 0 0] 57)) w.heap.size [] := .of (Lib.fresh_isBuilder _ _ w)
abbrev OK1 (b : Nat) (w w' : World) : Prop := Lib.OthersKept 5 (some b) w w'
theorem OK1.of {b : Nat} {w w' : World} (k : Below w.heap.size w w') : OK1 b w w' := fun i o h _ _ => (k.block i (Array.getElem?_eq_some_iff.1 h).1).trans h
theorem OK1.blk {b g : Nat} {w w' : World} {t : TypeId} {L : List Value} (k : OK1 b w w') (h : Blk w g t L) (hg : g ≠ b) (ht : t ≠ 5) : Blk w' g t L :=
 k g _ h (fun e => hg (Option.some.inj e)) (fun c fz e => by injection e with _ e _; exact ht e)
def LineRet (b : Nat) (q : List UInt8) (w : World) (e : Ending) (w' : World) : Prop := e = .returned (.tuple #[]) ∧ BT w' b q ∧ Below b w w' ∧ OK1 b w w'
theorem line_any (b : Nat) (q : List UInt8) (g cap : Nat) (ls : List (List UInt8)) (w : World) (hb : BT w b q) (hg : Blk w g 9 (strs ls)) (hc : ls.length ≤ cap) (hl : ls.length ≤ 100000) (hj : (joinC 32 ls).length ≤ 100000000) (hq : q.length ≤ 100000000) :
  Calls prog 16 #[.slice (some ⟨g, 0, none⟩) ls.length cap, .pointer (some ⟨b, 0, none⟩)] w (LineRet b (q ++ joinC 32 ls ++ [10]) w) := by
 have JN := Hh (join_any 32 ⟨g, 0, none⟩ cap ls w (fun i hi => by show w.cell? ⟨g, 0 + i, none⟩ = _; rw [Nat.zero_add]; exact hg.cell_ i (by simp [strs, hi])) rfl hg.lt hc hl (by omega))
 have WS : Hid (∀ V, BT V b q → Calls prog 17 #[.pointer (some ⟨b, 0, none⟩), .string (bs (joinC 32 ls))] V fun e w' => e = .returned (.tuple #[.int .i64 (bs (joinC 32 ls)).size, .nilIface]) ∧ (Lib.BuilderAtF 57 5 b b (.pointer (some ⟨b, 0, none⟩)) (octs q ++ Lib.strCells (bs (joinC 32 ls))) w' ∧ Below b V w' ∧ OK1 b V w')) := Hh (fun V (h : BT V b q) => Any.Builder_WriteString_k Tryz.lays166 Tryz.Builder_Extra_166 b b (octs q) (bs (joinC 32 ls)) V h (by rw [octs_length, bs_size]; omega) (Nat.le_of_lt h.lt))
 have WB : Hid (∀ V, BT V b (q ++ joinC 32 ls) → Calls prog 19 #[.pointer (some ⟨b, 0, none⟩), .int .u8 10] V fun e w' => e = .returned .nilIface ∧ (Lib.BuilderAtF 57 5 b b (.pointer (some ⟨b, 0, none⟩)) (octs (q ++ joinC 32 ls) ++ [.int .u8 10]) w' ∧ Below b V w' ∧ OK1 b V w')) := Hh (fun V (h : BT V b (q ++ joinC 32 ls)) => Any.Builder_WriteByte_k Tryz.lays167 Tryz.Builder_Extra_167 b b (octs (q ++ joinC 32 ls)) 10 V h (by rw [octs_length, List.length_append]; omega) (Nat.le_of_lt h.lt))
 have OA : octs (q ++ joinC 32 ls) = octs q ++ Lib.strCells (bs (joinC 32 ls)) := by rw [octs_app, strCells_bs]
 have OB : octs (q ++ joinC 32 ls ++ [10]) = octs (q ++ joinC 32 ls) ++ [.int .u8 10] := by rw [octs_app (q ++ joinC 32 ls)]; rfl
 generalize joinC 32 ls = t at *
 generalize ls.length = n at *
 clear hg hj hl hc
 go_enter func16, ntmps16
 go_wp2_with fail
 refine JN.out.mono ?_
 rintro _ w1 ⟨rfl, b1⟩
 have X1 := hb.below b1
 have hB1 : Below b w w1 := b1.mono (Nat.le_of_lt hb.lt)
 have hK1 : OK1 b w w1 := OK1.of b1
 clear JN hb b1
 go_wp2_with fail
 refine (WS.out _ X1).mono ?_
 rintro _ w2 ⟨rfl, hb2, b2, k2⟩
 rw [← OA] at hb2
 have X2 : BT w2 b (q ++ t) := .inr hb2
 have hB2 := hB1.trans b2
 have hK2 : OK1 b w w2 := hK1.trans k2
 clear WS hb2 X1 b2
 go_wp2_with fail
 refine (WB.out _ X2).mono ?_
 rintro _ w3 ⟨rfl, hb3, b3, k3⟩
 rw [← OB] at hb3
 have X3 : BT w3 b (q ++ t ++ [10]) := .inr hb3
 have hB3 := hB2.trans b3
 have hK3 : OK1 b w w3 := hK2.trans k3
 clear WB hb3 X2 b3
 go_wp2_with fail
 go_end0
 exact ⟨rfl, X3, hB3, hK3⟩
end Go.Proofs.YtkcbffldncmbcaaGreatDoor

/-
  Lists of events: as cells; what the reading of one says of its cells; Few.
-/
import Derived.Test.YthnbcmlnpdabhaaGreatHQq
import Derived.Test.YthnbcmlnpdabhaaGreatIBq
namespace Go.Proofs.YthnbcmlnpdabhaaGreat
open _root_.Go.Proofs.Tryz
open Go.ChangeShapes Go.WideShapes Go.ChangeAt Go.RowKit
set_option maxRecDepth 100000
set_option linter.unusedVariables false
set_option linter.unusedSimpArgs false
def IB (e : Ev) : Prop := e.fr.ip.length = 16 /\ e.data.length <= 140737488355328
def tx (w : World) (A : Option Addr) (l : List Ev) : Prop := (∀ e ∈ l, IB e) /\ (0 < l.length -> ∃ b off, A = some ⟨b, off, none⟩ /\ b < w.heap.size /\ ∀ i (hi : i < l.length), w.rangeAt b (off + i * 22) (qm l[i]))
theorem tx.below {w w' : World} {A : Option Addr} {l : List Ev} (h : tx w A l) (hb : Below w.heap.size w w') : tx w' A l := by
 exact lh
theorem tx.at_ {w : World} {A : Option Addr} {l : List Ev} (h : tx w A l) (k : Nat) (hk : k < l.length) : ∃ b off, A = some ⟨b, off, none⟩ /\ b < w.heap.size /\ w.rangeAt b (off + k * 22) (qm l[k]) /\ IB l[k] := by
 obtain ⟨b, off, h1, h2, h3⟩ := h.2 ak;exact ⟨b, off, h1, h2, h3 k hk, h.1 _ (List.getElem_mem hk)⟩
section
variable {H : Type} {enc : TypeId × Value -> H} {w : World} {cs : List Value}
theorem QJ (h : oj enc prog w 42 cs) : ∃ e : Ev, cs = qm e /\ e.fr.ip.length = 16 /\ e.data.length <= 140737488355328 := by
 have c22 : prog.cellsOf 42 = 22 := by kernel_rfl
 have c1 : prog.cellsOf 3 = 1 := by kernel_rfl
 have ca : prog.cellsOf 24 = 18 := by kernel_rfl
 have cs1 : prog.cellsOf 9 = 1 := by kernel_rfl
 obtain ⟨hl, hf⟩ := h.struct underlying42;rw [c22] at hl;have h0 : oj enc prog w 3 ((cs.drop 0).take (prog.cellsOf 3)) := ju;have h1 : oj enc prog w 24 ((cs.drop 1).take (prog.cellsOf 24)) := jt;have h2 : oj enc prog w 3 ((cs.drop 19).take (prog.cellsOf 3)) := hf 2 _ rfl;have h3 : oj enc prog w 3 ((cs.drop 20).take (prog.cellsOf 3)) := hf 3 _ rfl;have h4 : oj enc prog w 9 ((cs.drop 21).take (prog.cellsOf 9)) := hf 4 _ rfl;rw [ca] at h1;rw [c1] at h0 h2 h3;rw [cs1] at h4;obtain ⟨kd, e0⟩ := qF h0;obtain ⟨ad, i16, e1⟩ := AE h1;obtain ⟨fp, e2⟩ := qF h2;obtain ⟨po, e3⟩ := qF h3;obtain ⟨dt, e4, dl⟩ := h4.string underlying9;refine ⟨⟨kd, ad, fp, po, dt⟩, ?_, i16, dl⟩;show cs.drop 0 = _;rw [pK cs 0 1 1 rfl, e0, pK cs 1 18 19 rfl, e1, pK cs 19 1 20 rfl, e2, pK cs 20 1 21 rfl, e3, pK cs 21 1 22 rfl, e4, List.drop_of_length_le ak];rfl
end
open Go.RowKit
theorem Th : (prog.info? 42).map (·.size) = some 22 := by kernel_rfl
def tz (l : List Ev) : Nat := (l.map fun e => e.data.length).sum
theorem El (l : List Ev) (k : Nat) (h : k < l.length) : tz (l.take (k + 1)) = tz (l.take k) + l[k].data.length := by
 unfold tz;rw [List.take_succ_eq_append_getElem h, List.map_append, List.sum_append];simp
theorem Ti (l : List Ev) (k : Nat) : tz (l.take k) <= tz l := by
 have h := List.take_append_drop k l;have e : tz l = tz (l.take k) + tz (l.drop k) := by
  conv => lhs; rw [<- h]
  unfold tz;rw [List.map_append, List.sum_append]
 omega
def U6 (l : List Ev) (most : Nat) (w : World) (e : Ending) (w' : World) : Prop := ∃ b, e = .returned (.bool b) /\ (b = true -> l.length <= most /\ tz l <= 20000) /\ Below w.heap.size w w'
set_option maxHeartbeats 1000000 in
theorem NF (A : Option Addr) (c : Nat) (l : List Ev) (most : Nat) (w : World) (hA : tx w A l) (hl : l.length <= 17592186044416) :
  Calls prog 23 #[.slice A l.length c, .int .i64 most] w (U6 l most w) := by
 go_enter func23, ntmps23;go_wp2_with fail;go_loopw [5, 6] (fun nv iv wr => ∃ k : Nat, k <= l.length /\ k <= most /\ iv = .int .i64 k /\ nv = .int .i64 (tz (l.take k) : Nat) /\ tz (l.take k) <= 20000 /\ Below w.heap.size w wr) (fun _ iv _ => l.length - (intOf iv).toNat)
 case atStart => exact ⟨0, Nat.zero_le _, Nat.zero_le _, rfl, rfl, by simp [tz], Below.refl _ _⟩
 obtain ⟨k, hk, hkm, rfl, rfl, ht, hW⟩ := hrel;by_cases hlt : k < l.length
 case pos =>
  have hlt' : (k : Int) < l.length := ak;obtain ⟨ba, oa, hA1, la1, ra, hev⟩ := hA.at_ k hlt;subst hA1;have E21 : (qm l[k])[21]? = some (.string (bs l[k].data)) := vV hev.1 2;have c21 : wr.cell? ⟨ba, oa + k * 22 + 21, none⟩ = some (.string (bs l[k].data)) := (hW.cell (p := ⟨ba, oa + k * 22 + 21, none⟩) la1).trans (ra 21 _ E21);have hdl : l[k].data.length <= 140737488355328 := hev.2;have HT := Hh (El l k hlt);have IX := fun W => KR (ba := ba) (oa := oa) (c := c) underlying56 Th ak hlt W
  clear ra hev E21;generalize tz (l.take k) = n at *;generalize l[k].data = dt at *;by_cases hm : k < most
  case neg => have hm' : (most : Int) <= k := ak;clear hm HT;exact mT
  have hm' : ¬ (most : Int) <= k := ak;by_cases hb : n + dt.length <= 20000
  case neg => have hb' : (20000 : Int) < (n : Int) + dt.length := ak;clear hb HT;exact mT
  have hb' : ¬ (20000 : Int) < (n : Int) + dt.length := ak;go_wp2_with fail;go_roundw
  case rel => exact ⟨k + 1, ak, ak, eh, (by rw [HT.out]; go_num), (by rw [HT.out]; omega), hW⟩
  case measure => simp [intOf]; omega
 obtain rfl : k = l.length := ak;have hlt' : ¬ (l.length : Int) < l.length := ak;rw [List.take_of_length_le (Nat.le_refl _)] at ht;have HT := Hh ht;clear ht;go_wp2_with fail;go_ret;exact ⟨true, rfl, fun _ => ⟨hkm, HT.out⟩, hW⟩
end Go.Proofs.YthnbcmlnpdabhaaGreat

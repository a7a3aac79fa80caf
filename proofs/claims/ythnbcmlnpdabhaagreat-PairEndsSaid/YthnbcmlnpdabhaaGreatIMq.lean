/-
  Lists of events: as cells; what the reading of one says of its cells; Few.
-/
import Derived.Test.YthnbcmlnpdabhaaGreatHQq
import Derived.Test.YthnbcmlnpdabhaaGreatIBq
namespace Go.Proofs.YthnbcmlnpdabhaaGreat
open _root_.Go.Proofs.Tryz
open Go.ChangeShapes Go.WideShapes Go.ChangeAt Go.RowKit
set_option maxRecDepth 100000
set_option linter.unusedVariables false
set_option linter.unusedSimpArgs false
def EvOk (e : Ev) : Prop := e.fr.ip.length = 16 ∧ e.data.length ≤ 140737488355328
def EvsR (w : World) (A : Option Addr) (l : List Ev) : Prop := (∀ e ∈ l, EvOk e) ∧ (0 < l.length → ∃ b off, A = some ⟨b, off, none⟩ ∧ b < w.heap.size ∧ ∀ i (hi : i < l.length), w.rangeAt b (off + i * 22) (evC l[i]))
theorem EvsR.below {w w' : World} {A : Option Addr} {l : List Ev} (h : EvsR w A l) (hb : Below w.heap.size w w') : EvsR w' A l := by
 refine ⟨h.1, fun hp => ?_⟩
 obtain ⟨b, off, h1, h2, h3⟩ := h.2 hp
 exact ⟨b, off, h1, Nat.lt_of_lt_of_le h2 hb.size, fun i hi => range_below (h3 i hi) hb h2⟩
theorem EvsR.at_ {w : World} {A : Option Addr} {l : List Ev} (h : EvsR w A l) (k : Nat) (hk : k < l.length) : ∃ b off, A = some ⟨b, off, none⟩ ∧ b < w.heap.size ∧ w.rangeAt b (off + k * 22) (evC l[k]) ∧ EvOk l[k] := by
 obtain ⟨b, off, h1, h2, h3⟩ := h.2 (by omega)
 exact ⟨b, off, h1, h2, h3 k hk, h.1 _ (List.getElem_mem hk)⟩
section
variable {H : Type} {enc : TypeId × Value → H} {w : World} {cs : List Value}
theorem seen_ev2 (h : SeenW enc prog w 42 cs) : ∃ e : Ev, cs = evC e ∧ e.fr.ip.length = 16 ∧ e.data.length ≤ 140737488355328 := by
 have c22 : prog.cellsOf 42 = 22 := by kernel_rfl
 have c1 : prog.cellsOf 3 = 1 := by kernel_rfl
 have ca : prog.cellsOf 24 = 18 := by kernel_rfl
 have cs1 : prog.cellsOf 9 = 1 := by kernel_rfl
 obtain ⟨hl, hf⟩ := h.struct underlying42
 rw [c22] at hl
 have h0 : SeenW enc prog w 3 ((cs.drop 0).take (prog.cellsOf 3)) := hf 0 _ rfl
 have h1 : SeenW enc prog w 24 ((cs.drop 1).take (prog.cellsOf 24)) := hf 1 _ rfl
 have h2 : SeenW enc prog w 3 ((cs.drop 19).take (prog.cellsOf 3)) := hf 2 _ rfl
 have h3 : SeenW enc prog w 3 ((cs.drop 20).take (prog.cellsOf 3)) := hf 3 _ rfl
 have h4 : SeenW enc prog w 9 ((cs.drop 21).take (prog.cellsOf 9)) := hf 4 _ rfl
 rw [ca] at h1
 rw [c1] at h0 h2 h3
 rw [cs1] at h4
 obtain ⟨kd, e0⟩ := seen_int h0
 obtain ⟨ad, i16, e1⟩ := seen_adr h1
 obtain ⟨fp, e2⟩ := seen_int h2
 obtain ⟨po, e3⟩ := seen_int h3
 obtain ⟨dt, e4, dl⟩ := h4.string underlying9
 refine ⟨⟨kd, ad, fp, po, dt⟩, ?_, i16, dl⟩
 show cs.drop 0 = _
 rw [dsplit cs 0 1 1 rfl, e0, dsplit cs 1 18 19 rfl, e1, dsplit cs 19 1 20 rfl, e2, dsplit cs 20 1 21 rfl, e3, dsplit cs 21 1 22 rfl, e4, List.drop_of_length_le (by omega)]
 rfl
theorem seen_evs (h : SeenW enc prog w 56 cs) : ∃ A c l, cs = [.slice A (l : List Ev).length c] ∧ EvsR w A l ∧ l.length ≤ 17592186044416 := by
 have c9 : prog.cellsOf 42 = 22 := by kernel_rfl
 have b9 : prog.bytesOf 42 = 72 := by kernel_rfl
 obtain ⟨A, n, c, rfl, hnc, _, hby, hn⟩ := h.slice underlying56 (by rw [c9]; omega)
 rw [b9] at hby
 by_cases hpos : 0 < n
 ·
  obtain ⟨b, off, rfl, hb, hi⟩ := hn hpos
  rw [c9] at hi
  have key : ∀ i, i < n → ∃ e : Ev, w.rangeAt b (off + i * 22) (evC e) ∧ EvOk e := by
   intro i hin
   obtain ⟨cs', hl, hc, hs⟩ := hi i hin
   obtain ⟨e, rfl, h1, h2⟩ := seen_ev2 hs
   refine ⟨e, fun j v hv => ?_, h1, h2⟩
   have hj : j < 22 := by rw [← hl]; exact (List.getElem?_eq_some_iff.1 hv).1
   rw [hc j hj]; exact hv
  haveI : Inhabited Ev := ⟨⟨0, Adr.zero, 0, 0, []⟩⟩
  obtain ⟨f, hf⟩ := Deep.choose_lt key
  refine ⟨some ⟨b, off, none⟩, c, (List.range n).map f, by simp, ⟨fun e he => ?_, fun _ => ⟨b, off, rfl, hb, fun i hin => ?_⟩⟩, by simp; omega⟩
  ·
   obtain ⟨i, hi, rfl⟩ := List.mem_map.1 he
   exact (hf i (List.mem_range.1 hi)).2
  ·
   have hin' : i < n := by simpa using hin
   simpa using (hf i hin').1
 ·
  obtain rfl : n = 0 := by omega
  exact ⟨A, c, [], rfl, ⟨by simp, fun h => absurd h (by simp)⟩, by simp⟩
end
open Go.RowKit
theorem evInfo1 : (prog.info? 42).map (·.size) = some 22 := by kernel_rfl
def totE (l : List Ev) : Nat := (l.map fun e => e.data.length).sum
theorem totE_take (l : List Ev) (k : Nat) (h : k < l.length) : totE (l.take (k + 1)) = totE (l.take k) + l[k].data.length := by
 unfold totE
 rw [List.take_succ_eq_append_getElem h, List.map_append, List.sum_append]
 simp
theorem totE_le (l : List Ev) (k : Nat) : totE (l.take k) ≤ totE l := by
 have h := List.take_append_drop k l
 have e : totE l = totE (l.take k) + totE (l.drop k) := by
  conv => lhs; rw [← h]
  unfold totE
  rw [List.map_append, List.sum_append]
 omega
def FewRet (l : List Ev) (most : Nat) (w : World) (e : Ending) (w' : World) : Prop := ∃ b, e = .returned (.bool b) ∧ (b = true → l.length ≤ most ∧ totE l ≤ 20000) ∧ Below w.heap.size w w'
set_option maxHeartbeats 1000000 in
theorem few28_any (A : Option Addr) (c : Nat) (l : List Ev) (most : Nat) (w : World) (hA : EvsR w A l) (hl : l.length ≤ 17592186044416) :
  Calls prog 23 #[.slice A l.length c, .int .i64 most] w (FewRet l most w) := by
 go_enter func23, ntmps23
 go_wp2_with fail
 go_loopw [5, 6] (fun nv iv wr => ∃ k : Nat, k ≤ l.length ∧ k ≤ most ∧ iv = .int .i64 k ∧ nv = .int .i64 (totE (l.take k) : Nat) ∧ totE (l.take k) ≤ 20000 ∧ Below w.heap.size w wr) (fun _ iv _ => l.length - (intOf iv).toNat)
 case atStart => exact ⟨0, Nat.zero_le _, Nat.zero_le _, rfl, rfl, by simp [totE], Below.refl _ _⟩
 obtain ⟨k, hk, hkm, rfl, rfl, ht, hW⟩ := hrel
 by_cases hlt : k < l.length
 case pos =>
  have hlt' : (k : Int) < l.length := by omega
  obtain ⟨ba, oa, hA1, la1, ra, hev⟩ := hA.at_ k hlt
  subst hA1
  have E21 : (evC l[k])[21]? = some (.string (bs l[k].data)) := evC_at hev.1 2
  have c21 : wr.cell? ⟨ba, oa + k * 22 + 21, none⟩ = some (.string (bs l[k].data)) := (hW.cell (p := ⟨ba, oa + k * 22 + 21, none⟩) la1).trans (ra 21 _ E21)
  have hdl : l[k].data.length ≤ 140737488355328 := hev.2
  have HT := Hh (totE_take l k hlt)
  have IX := fun W => run_ixK (ba := ba) (oa := oa) (c := c) underlying56 evInfo1 (by omega) hlt W
  clear ra hev E21
  generalize totE (l.take k) = n at *
  generalize l[k].data = dt at *
  by_cases hm : k < most
  case neg =>
   have hm' : (most : Int) ≤ k := by omega
   clear hm HT
   go_wp2_with fail
   go_ret
   exact ⟨false, rfl, fun h => (by cases h), hW⟩
  have hm' : ¬ (most : Int) ≤ k := by omega
  by_cases hb : n + dt.length ≤ 20000
  case neg =>
   have hb' : (20000 : Int) < (n : Int) + dt.length := by omega
   clear hb HT
   go_wp2_with fail
   go_ret
   exact ⟨false, rfl, fun h => (by cases h), hW⟩
  have hb' : ¬ (20000 : Int) < (n : Int) + dt.length := by omega
  go_wp2_with fail
  go_roundw
  case rel => exact ⟨k + 1, by omega, by omega, by go_num, (by rw [HT.out]; go_num), (by rw [HT.out]; omega), hW⟩
  case measure => simp [intOf]; omega
 obtain rfl : k = l.length := by omega
 have hlt' : ¬ (l.length : Int) < l.length := by omega
 rw [List.take_of_length_le (Nat.le_refl _)] at ht
 have HT := Hh ht
 clear ht
 go_wp2_with fail
 go_ret
 exact ⟨true, rfl, fun _ => ⟨hkm, HT.out⟩, hW⟩
end Go.Proofs.YthnbcmlnpdabhaaGreat

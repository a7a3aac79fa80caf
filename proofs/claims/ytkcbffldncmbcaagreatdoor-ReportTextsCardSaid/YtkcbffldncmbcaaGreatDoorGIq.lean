/-
  What the reading of an argument says of its cells, kind by kind; and the frame of a law's last step.
-/
import Derived.ProofKit
import Derived.OpenShut
import Derived.ShutString
import Derived.ChangeOld
import Derived.SizedLaws
import Derived.Test.YtkcbffldncmbcaaGreatDoorGGq
import Derived.Test.YtkcbffldncmbcaaGreatDoorGBq
import Derived.Maps.OwnSet
import Derived.Deep.CutBlock
namespace Go.Proofs.YtkcbffldncmbcaaGreatDoor
open _root_.Go.Proofs.Tryz
open Go.ChangeShapes Go.WideShapes Go.ChangeAt Go.RowKit
open Go.ChangeMaps (open_string shut_string)
def Seen {H : Type} (enc : TypeId × Value → H) (P : Program) (w : World) (t : TypeId) (cs : List Value) : Prop :=
 ∃ fuel x, DataW.trod enc P w 0 (fun _ => true) true fuel t cs = some x
section
variable {H : Type} {enc : TypeId × Value → H} {P : Program} {w : World} {t : TypeId} {cs : List Value}
theorem Seen.int {k : IntKind} (h : Seen enc P w t cs) (ht : P.underlying t = some (.int k)) : ∃ n, cs = [.int k n] ∧ (Lit.int k n).wf = true := by
 obtain ⟨fuel, x, hf⟩ := h
 obtain ⟨n, hn, _, hw⟩ := DataW.trod_int ht hf
 exact ⟨n, hn, hw⟩
theorem Seen.array {n : Nat} {e : TypeId} (h : Seen enc P w t cs) (ht : P.underlying t = some (.array n e)) :
  cs.length = P.cellsOf t ∧ ∀ i, i < n → Seen enc P w e ((cs.drop (i * P.cellsOf e)).take (P.cellsOf e)) := by
 obtain ⟨fuel, x, hf⟩ := h
 obtain ⟨xs, m, _, _, hl, hx, hi⟩ := DataW.trod_array ht hf
 refine ⟨hl, fun i hin => ?_⟩
 have hlt : i < xs.length := by omega
 exact ⟨m, xs[i], by rw [hi i hin, List.getElem?_eq_getElem hlt]⟩
theorem cell_lt {w : World} {a : Addr} {v : Value} (h : w.cell? a = some v) : a.block < w.heap.size := by
 rcases Nat.lt_or_ge a.block w.heap.size with hlt | hge
 ·
  exact hlt
 ·
  simp [World.cell?, Array.getElem?_eq_none hge] at h
theorem Seen.slice {e : TypeId} (h : Seen enc P w t cs) (ht : P.underlying t = some (.slice e)) (hsz : 0 < P.cellsOf e) :
  ∃ A n c, cs = [.slice A n c] ∧ n ≤ c ∧ c ≤ maxLen ∧ (0 < n → ∃ b off, A = some ⟨b, off, none⟩ ∧ b < w.heap.size ∧
   ∀ i, i < n → ∃ cs', cs'.length = P.cellsOf e ∧ (∀ j, j < P.cellsOf e → w.cell? ⟨b, off + i * P.cellsOf e + j, none⟩ = cs'[j]?) ∧ Seen enc P w e cs') := by
 obtain ⟨fuel, x, hf⟩ := h
 rcases Deep.open_slice ht hf with ⟨rfl, _⟩ | ⟨a, len, cap, m, n, D, Pl, rfl, _, hl, hm, hmm, _, hi⟩
 ·
  exact ⟨none, 0, 0, rfl, Nat.le_refl _, Nat.zero_le _, fun h => absurd h (by omega)⟩
 ·
  refine ⟨some a, len, cap, rfl, hl, hm, fun hpos => ?_⟩
  have hmc : m = cap := by simpa using hmm
  obtain ⟨cs0, hc0, _⟩ := hi 0 (by omega)
  obtain ⟨_, hlen0, hcell0⟩ := World.cells?_some hc0
  have h00 := hcell0 0 hsz
  rw [List.getElem?_eq_getElem (by omega)] at h00
  have hspot : a.spot = none := by simpa [Addr.add] using World.cell?_spot h00
  have hblk : a.block < w.heap.size := by simpa [Addr.add] using cell_lt h00
  obtain ⟨b, off, spot⟩ := a
  simp only at hspot
  subst hspot
  refine ⟨b, off, rfl, hblk, fun i hi' => ?_⟩
  obtain ⟨cs', hc', ht'⟩ := hi i (by omega)
  obtain ⟨_, hlen', hcell'⟩ := World.cells?_some hc'
  refine ⟨cs', hlen', fun j hj => ?_, n, _, ht'⟩
  have := hcell' j hj
  rw [Deep.add_add] at this
  rw [← this]
  congr 1
  unfold Addr.add
  split
  ·
   rename_i h0
   have h0' : i * P.cellsOf e = 0 ∧ j = 0 := by omega
   simp only [Addr.mk.injEq, true_and, and_true]
   omega
  ·
   simp [Nat.add_assoc]
end
theorem len1 {α : Type} {l : List α} (h : l.length = 1) : ∃ x0, l = [x0] := by
 match l, h with
 | [x0], _ => exact ⟨x0, rfl⟩
theorem own : ownKnob prog.godebug = none := by kernel_rfl
theorem laidOut : laidOutB prog = true := by kernel_rfl
set_option linter.unusedVariables false
def Light {H : Type} (P : Program) (t : TypeId) (d : DataW H) : Prop := ∀ k ∈ d.weights P t, k ≤ reachBytes
theorem mem_weightsEach {H : Type} {P : Program} : ∀ (ts : List TypeId) (ds : List (DataW H)) (i : Nat) (t : TypeId) (d : DataW H), ts[i]? = some t → ds[i]? = some d → ∀ k ∈ d.weights P t, k ∈ DataW.weightsEach P ts ds
 | t' :: ts, d' :: ds, 0, t, d, ht, hd, k, hk => by
  simp at ht hd; subst ht hd
  simp [DataW.weightsEach]; exact .inl hk
 | t' :: ts, d' :: ds, i + 1, t, d, ht, hd, k, hk => by
  simp at ht hd
  simp [DataW.weightsEach]; exact .inr (mem_weightsEach ts ds i t d ht hd k hk)
 | [], _, i, t, d, ht, hd, k, hk => by simp at ht
 | _ :: _, [], i, t, d, ht, hd, k, hk => by simp at hd
theorem mem_weightsAll {H : Type} {P : Program} {e : TypeId} : ∀ (ds : List (DataW H)) (d : DataW H), d ∈ ds → ∀ k ∈ d.weights P e, k ∈ DataW.weightsAll P e ds
 | d' :: ds, d, hd, k, hk => by
  simp only [DataW.weightsAll, List.mem_append]
  rcases List.mem_cons.1 hd with rfl | h
  ·
   exact .inl hk
  ·
   exact .inr (mem_weightsAll ds d h k hk)
theorem light_each {H : Type} {P : Program} {ts : List TypeId} {ds : List (DataW H)} (h : (DataW.weightsEach P ts ds).all (· ≤ reachBytes) = true) {i : Nat} {t : TypeId} {d : DataW H} (ht : ts[i]? = some t) (hd : ds[i]? = some d) : Light P t d := by
 intro k hk
 have := List.all_eq_true.1 h k (mem_weightsEach ts ds i t d ht hd k hk)
 simpa using this
def SeenW {H : Type} (enc : TypeId × Value → H) (P : Program) (w : World) (t : TypeId) (cs : List Value) : Prop :=
 ∃ fuel x, DataW.trod enc P w 0 (fun _ => true) true fuel t cs = some x ∧ Light P t x.1
section
variable {H : Type} {enc : TypeId × Value → H} {P : Program} {w : World} {t : TypeId} {cs : List Value}
theorem SeenW.of {v : Value} {d : DataW H} {p : List MemPlace} (h : DataW.Trod enc P w 0 (fun _ => true) true t v d p) (hl : Light P t d) : SeenW enc P w t v.cells.toList := by
 obtain ⟨fuel, hf⟩ := h
 exact ⟨fuel, _, hf, hl⟩
theorem SeenW.toSeen (h : SeenW enc P w t cs) : Seen enc P w t cs := by
 obtain ⟨fuel, x, hf, _⟩ := h
 exact ⟨fuel, x, hf⟩
theorem SeenW.int {k : IntKind} (h : SeenW enc P w t cs) (ht : P.underlying t = some (.int k)) : ∃ n, cs = [.int k n] ∧ (Lit.int k n).wf = true := h.toSeen.int ht
theorem SeenW.string (h : SeenW enc P w t cs) (ht : P.underlying t = some .string) : ∃ l : List UInt8, cs = [.string (bs l)] ∧ l.length ≤ 140737488355328 := by
 obtain ⟨fuel, x, hf, hl⟩ := h
 obtain ⟨s, hs, hx, hm⟩ := DataW.trod_string ht hf
 refine ⟨s.data.toList, by rw [hs, ← bs_of], ?_⟩
 have := hl s.data.toList.length (by rw [hx]; simp [DataW.weights])
 unfold reachBytes at this
 omega
theorem SeenW.struct {fs : Array Field} (h : SeenW enc P w t cs) (ht : P.underlying t = some (.struct fs)) :
  cs.length = P.cellsOf t ∧ ∀ (i : Nat) (f : Field), fs[i]? = some f → SeenW enc P w f.type ((cs.drop f.offset).take (P.cellsOf f.type)) := by
 obtain ⟨fuel, x, hf, hlt⟩ := h
 obtain ⟨xs, n, _, hxx, hl, hx, hi⟩ := DataW.trod_struct ht hf
 refine ⟨hl, fun i f hif => ?_⟩
 have hlt' : i < xs.length := by rw [hx]; exact (Array.getElem?_eq_some_iff.1 hif).1
 refine ⟨n, xs[i], by rw [hi i f hif, List.getElem?_eq_getElem hlt'], ?_⟩
 intro k hk
 refine hlt k ?_
 rw [hxx]
 simp only [DataW.weights, ht]
 refine mem_weightsEach _ _ i f.type xs[i].1 ?_ ?_ k hk
 ·
  simp [hif]
 ·
  simp [List.getElem?_eq_getElem hlt']
theorem SeenW.array {n : Nat} {e : TypeId} (h : SeenW enc P w t cs) (ht : P.underlying t = some (.array n e)) :
  cs.length = P.cellsOf t ∧ ∀ i, i < n → SeenW enc P w e ((cs.drop (i * P.cellsOf e)).take (P.cellsOf e)) := by
 obtain ⟨fuel, x, hf, hlt⟩ := h
 obtain ⟨xs, m, _, hxx, hl, hx, hi⟩ := DataW.trod_array ht hf
 refine ⟨hl, fun i hin => ?_⟩
 have hlt' : i < xs.length := by omega
 refine ⟨m, xs[i], by rw [hi i hin, List.getElem?_eq_getElem hlt'], ?_⟩
 intro k hk
 refine hlt k ?_
 rw [hxx]
 simp only [DataW.weights, ht]
 refine mem_weightsAll _ xs[i].1 ?_ k hk
 exact List.mem_map.2 ⟨xs[i], List.getElem_mem hlt', rfl⟩
theorem SeenW.slice {e : TypeId} (h : SeenW enc P w t cs) (ht : P.underlying t = some (.slice e)) (hsz : 0 < P.cellsOf e) :
  ∃ A n c, cs = [.slice A n c] ∧ n ≤ c ∧ c ≤ maxLen ∧ n * P.bytesOf e ≤ 140737488355328 ∧ (0 < n → ∃ b off, A = some ⟨b, off, none⟩ ∧ b < w.heap.size ∧
   ∀ i, i < n → ∃ cs', cs'.length = P.cellsOf e ∧ (∀ j, j < P.cellsOf e → w.cell? ⟨b, off + i * P.cellsOf e + j, none⟩ = cs'[j]?) ∧ SeenW enc P w e cs') := by
 obtain ⟨fuel, x, hf, hlt⟩ := h
 rcases Deep.open_slice ht hf with ⟨rfl, _⟩ | ⟨a, len, cap, m, n, D, Pl, rfl, _, hl, hm, hmm, hxx, hi⟩
 ·
  exact ⟨none, 0, 0, rfl, Nat.le_refl _, Nat.zero_le _, by simp, fun h => absurd h (by omega)⟩
 ·
  have hmc : m = cap := by simpa using hmm
  refine ⟨some a, len, cap, rfl, hl, hm, ?_, fun hpos => ?_⟩
  ·
   have := hlt ((len + (m - len)) * P.bytesOf e) (by rw [hxx]; simp [DataW.weights, ht])
   unfold reachBytes at this
   have h2 : len * P.bytesOf e ≤ (len + (m - len)) * P.bytesOf e := Nat.mul_le_mul_right _ (by omega)
   omega
  obtain ⟨cs0, hc0, _⟩ := hi 0 (by omega)
  obtain ⟨_, hlen0, hcell0⟩ := World.cells?_some hc0
  have h00 := hcell0 0 hsz
  rw [List.getElem?_eq_getElem (by omega)] at h00
  have hspot : a.spot = none := by simpa [Addr.add] using World.cell?_spot h00
  have hblk : a.block < w.heap.size := by simpa [Addr.add] using cell_lt h00
  obtain ⟨b, off, spot⟩ := a
  simp only at hspot
  subst hspot
  refine ⟨b, off, rfl, hblk, fun i hi' => ?_⟩
  obtain ⟨cs', hc', ht'⟩ := hi i (by omega)
  obtain ⟨_, hlen', hcell'⟩ := World.cells?_some hc'
  refine ⟨cs', hlen', fun j hj => ?_, n, _, ht', ?_⟩
  ·
   have := hcell' j hj
   rw [Deep.add_add] at this
   rw [← this]
   congr 1
   unfold Addr.add
   split
   ·
    rename_i h0
    have h0' : i * P.cellsOf e = 0 ∧ j = 0 := by omega
    simp only [Addr.mk.injEq, true_and, and_true]
    omega
   ·
    simp [Nat.add_assoc]
  ·
   intro k hk
   refine hlt k ?_
   rw [hxx]
   simp only [DataW.weights, ht, List.mem_cons, List.mem_append]
   right; left
   exact mem_weightsAll _ (D i) (List.mem_map.2 ⟨i, List.mem_range.2 hi', rfl⟩) k hk
end
def NmR (w : World) (A : Option Addr) (c : Nat) (n : List (List UInt8)) : Prop := TxtR w A n ∧ n.length ≤ c ∧ n.length ≤ 17592186044416 ∧ ∀ l ∈ n, l.length ≤ 140737488355328
theorem NmR.below {w w' : World} {A : Option Addr} {c : Nat} {n : List (List UInt8)} (h : NmR w A c n) (hb : Below w.heap.size w w') : NmR w' A c n := ⟨h.1.below hb, h.2⟩
theorem seen_texts {H : Type} {enc : TypeId × Value → H} {w : World} {t : TypeId} {cs : List Value} (ht : prog.underlying t = some (.slice 9)) (h : SeenW enc prog w t cs) : ∃ A c l, cs = [.slice A (l : List (List UInt8)).length c] ∧ NmR w A c l := by
 have c9 : prog.cellsOf 9 = 1 := by kernel_rfl
 have b9 : prog.bytesOf 9 = 16 := by kernel_rfl
 obtain ⟨A, n, c, rfl, hnc, _, hby, hn⟩ := h.slice ht (by rw [c9]; omega)
 rw [b9] at hby
 by_cases hpos : 0 < n
 ·
  obtain ⟨b, off, rfl, hb, hi⟩ := hn hpos
  rw [c9] at hi
  have key : ∀ i, i < n → ∃ t : List UInt8, w.cell? ⟨b, off + i, none⟩ = some (.string (bs t)) ∧ t.length ≤ 140737488355328 := by
   intro i hin
   obtain ⟨cs', hl, hc, hs⟩ := hi i hin
   obtain ⟨x, rfl⟩ := len1 hl
   obtain ⟨s, e, hsl⟩ := hs.string underlying9
   simp at e
   subst e
   refine ⟨s, ?_, hsl⟩
   have := hc 0 (by omega)
   rwa [Nat.mul_one, Nat.add_zero] at this
  obtain ⟨f, hf⟩ := Deep.choose_lt key
  refine ⟨some ⟨b, off, none⟩, c, (List.range n).map f, by simp, fun _ => ⟨b, off, rfl, hb, fun i hin => ?_⟩, by simpa using hnc, by simp; omega, ?_⟩
  ·
   have hin' : i < n := by simpa using hin
   rw [(hf i hin').1]; simp
  ·
   intro l hl
   obtain ⟨i, hir, rfl⟩ := List.mem_map.1 hl
   exact (hf i (List.mem_range.1 hir)).2
 ·
  obtain rfl : n = 0 := by omega
  exact ⟨A, c, [], rfl, fun h => absurd h (by simp), by simp, by simp, by simp⟩
open Go.RowKit
set_option maxRecDepth 100000
open Go.RowKit Go.Maps
theorem fewN_any (A : Option Addr) (c : Nat) (n : List (List UInt8)) (w : World) (hA : NmR w A c n) : Calls prog 36 #[.slice A n.length c] w (Ret (.bool (decide (lsum n ≤ 400))) w) :=
 few_any A c n w hA.1 (by have := hA.2.2.1; omega) (fun l hl => by have := hA.2.2.2 l hl; omega)
end Go.Proofs.YtkcbffldncmbcaaGreatDoor

/-
  Arguments of layer 29's laws: what the reading of a task says of its cells.
-/
import Derived.Test.YthnbcmlnpdabhaaGreatIQq
namespace Go.Proofs.YthnbcmlnpdabhaaGreat
open _root_.Go.Proofs.Tryz
open Go.ChangeShapes Go.WideShapes Go.ChangeAt Go.RowKit
set_option maxRecDepth 100000
set_option linter.unusedVariables false
set_option linter.unusedSimpArgs false
section
variable {H : Type} {enc : TypeId × Value → H} {w : World} {cs : List Value}
theorem seen_list {α : Type} [Inhabited α] {t e : TypeId} {k by_ : Nat} (ht : prog.underlying t = some (.slice e)) (hc : prog.cellsOf e = k) (hk : 0 < k) (hb : prog.bytesOf e = by_) (hby : 8 ≤ by_) (R : List Value → α → Prop) (key : ∀ cs', cs'.length = k → SeenW enc prog w e cs' → ∃ x, R cs' x)
  (h : SeenW enc prog w t cs) : ∃ A c l, cs = [.slice A (l : List α).length c] ∧ LIn w k R A l ∧ l.length ≤ 17592186044416 := by
 obtain ⟨A, n, c, rfl, hnc, _, hby2, hn⟩ := h.slice ht (by rw [hc]; exact hk)
 rw [hb] at hby2
 have hn8 : n * 8 ≤ n * by_ := Nat.mul_le_mul_left _ hby
 by_cases hpos : 0 < n
 ·
  obtain ⟨b, off, rfl, hbl, hi⟩ := hn hpos
  rw [hc] at hi
  have key2 : ∀ i, i < n → ∃ x : α, ∃ cs', w.rangeAt b (off + i * k) cs' ∧ R cs' x := by
   intro i hin
   obtain ⟨cs', hl, hc', hs⟩ := hi i hin
   obtain ⟨x, hx⟩ := key cs' hl hs
   refine ⟨x, cs', fun j v hv => ?_, hx⟩
   have hj : j < k := by rw [← hl]; exact (List.getElem?_eq_some_iff.1 hv).1
   rw [hc' j hj]; exact hv
  obtain ⟨f, hf⟩ := Deep.choose_lt key2
  refine ⟨some ⟨b, off, none⟩, c, (List.range n).map f, by simp, fun _ => ⟨b, off, rfl, hbl, fun i hin => ?_⟩, by simp; omega⟩
  have hin' : i < n := by simpa using hin
  obtain ⟨cs', h1, h2⟩ := hf i hin'
  exact ⟨cs', h1, by simpa using h2⟩
 ·
  obtain rfl : n = 0 := by omega
  exact ⟨A, c, [], rfl, fun h => absurd h (by simp), by simp⟩
instance : Inhabited Adr := ⟨Adr.zero⟩
theorem seen_adrs (h : SeenW enc prog w 65 cs) : ∃ A c l, cs = [.slice A (l : List Adr).length c] ∧ AdsR w A l ∧ l.length ≤ 17592186044416 :=
 seen_list underlying65 (k := 18) (by kernel_rfl) (by decide) (by_ := 32) (by kernel_rfl) (by decide) AdI (fun cs' _ hs => by obtain ⟨a, h1, h2⟩ := seen_adr hs; exact ⟨a, h2, h1⟩) h
theorem seen_pf (h : SeenW enc prog w 236 cs) : ∃ p : Adr × Int, PfI cs p := by
 have c19 : prog.cellsOf 236 = 19 := by kernel_rfl
 have c1 : prog.cellsOf 3 = 1 := by kernel_rfl
 have ca : prog.cellsOf 24 = 18 := by kernel_rfl
 obtain ⟨hl, hf⟩ := h.struct underlying236
 rw [c19] at hl
 have h0 : SeenW enc prog w 24 ((cs.drop 0).take (prog.cellsOf 24)) := hf 0 _ rfl
 have h1 : SeenW enc prog w 3 ((cs.drop 18).take (prog.cellsOf 3)) := hf 1 _ rfl
 rw [ca] at h0
 rw [c1] at h1
 obtain ⟨a, ha, e0⟩ := seen_adr h0
 obtain ⟨n, e1⟩ := seen_int h1
 refine ⟨(a, n), ?_, ha⟩
 show cs.drop 0 = _
 rw [dsplit cs 0 18 18 rfl, e0, dsplit cs 18 1 19 rfl, e1, List.drop_of_length_le (by omega)]
 rfl
theorem seen_pfs (h : SeenW enc prog w 67 cs) : ∃ A c l, cs = [.slice A (l : List (Adr × Int)).length c] ∧ PfsR w A l ∧ l.length ≤ 17592186044416 :=
 seen_list underlying67 (k := 19) (by kernel_rfl) (by decide) (by_ := 40) (by kernel_rfl) (by decide) PfI (fun cs' _ hs => seen_pf hs) h
theorem seen_nms (h : SeenW enc prog w 66 cs) : ∃ A c ls, cs = [.slice A (ls : List (List (List UInt8))).length c] ∧ NmsR w A ls ∧ ls.length ≤ 17592186044416 := by
 obtain ⟨A, c, l, h1, h2, h3⟩ := seen_list (α := List (List UInt8)) underlying66 (k := 1) (by kernel_rfl) (by decide) (by_ := 24) (by kernel_rfl) (by decide) (fun cs' n => ∃ A c, cs' = [.slice A n.length c] ∧ NmR w A c n) (fun cs' _ hs => by
  obtain ⟨Ai, ci, l, rfl, hR⟩ := seen_texts underlying26 hs
  exact ⟨l, Ai, ci, rfl, hR⟩) h
 refine ⟨A, c, l, h1, fun hp => ?_, h3⟩
 obtain ⟨b, off, k1, k2, k3⟩ := h2 hp
 refine ⟨b, off, k1, k2, fun i hi => ?_⟩
 obtain ⟨cs', r1, Ai, ci, rfl, hR⟩ := k3 i hi
 refine ⟨Ai, ci, ?_, hR⟩
 have := r1 0 _ rfl
 simpa using this
theorem seen_drws (h : SeenW enc prog w 70 cs) : ∃ A c l, cs = [.slice A (l : List Int).length c] ∧ DrwsR w A l := by
 obtain ⟨A, c, l, h1, h2, h3⟩ := seen_list (α := Int) underlying70 (k := 1) (by kernel_rfl) (by decide) (by_ := 8) (by kernel_rfl) (by decide) (fun cs' n => cs' = [.int .i64 n]) (fun cs' _ hs => by
  obtain ⟨n, rfl⟩ := seen_int hs
  exact ⟨n, rfl⟩) h
 refine ⟨A, c, l, h1, fun hp => ?_⟩
 obtain ⟨b, off, k1, k2, k3⟩ := h2 hp
 refine ⟨b, off, k1, k2, fun j v hv => ?_⟩
 unfold i64s at hv
 rw [List.getElem?_map] at hv
 obtain ⟨x, hx, rfl⟩ := Option.map_eq_some_iff.1 hv
 obtain ⟨hj, hx⟩ := List.getElem?_eq_some_iff.1 hx
 obtain ⟨cs', r1, r2⟩ := k3 j hj
 subst r2
 have := r1 0 _ rfl
 rw [hx] at this
 simpa using this
theorem seen_rs (h : SeenW enc prog w 69 cs) : ∃ r : Rs, RsIs w cs r := by
 have c10 : prog.cellsOf 69 = 10 := by kernel_rfl
 have c1 : prog.cellsOf 3 = 1 := by kernel_rfl
 have cb : prog.cellsOf 4 = 1 := by kernel_rfl
 have ca : prog.cellsOf 65 = 1 := by kernel_rfl
 have cn : prog.cellsOf 66 = 1 := by kernel_rfl
 have cp : prog.cellsOf 67 = 1 := by kernel_rfl
 obtain ⟨hl, hf⟩ := h.struct underlying69
 rw [c10] at hl
 have h0 : SeenW enc prog w 65 ((cs.drop 0).take (prog.cellsOf 65)) := hf 0 _ rfl
 have h1 : SeenW enc prog w 66 ((cs.drop 1).take (prog.cellsOf 66)) := hf 1 _ rfl
 have h2 : SeenW enc prog w 67 ((cs.drop 2).take (prog.cellsOf 67)) := hf 2 _ rfl
 have h3 : SeenW enc prog w 3 ((cs.drop 3).take (prog.cellsOf 3)) := hf 3 _ rfl
 have h4 : SeenW enc prog w 3 ((cs.drop 4).take (prog.cellsOf 3)) := hf 4 _ rfl
 have h5 : SeenW enc prog w 3 ((cs.drop 5).take (prog.cellsOf 3)) := hf 5 _ rfl
 have h6 : SeenW enc prog w 4 ((cs.drop 6).take (prog.cellsOf 4)) := hf 6 _ rfl
 have h7 : SeenW enc prog w 4 ((cs.drop 7).take (prog.cellsOf 4)) := hf 7 _ rfl
 have h8 : SeenW enc prog w 4 ((cs.drop 8).take (prog.cellsOf 4)) := hf 8 _ rfl
 have h9 : SeenW enc prog w 4 ((cs.drop 9).take (prog.cellsOf 4)) := hf 9 _ rfl
 rw [ca] at h0
 rw [cn] at h1
 rw [cp] at h2
 rw [c1] at h3 h4 h5
 rw [cb] at h6 h7 h8 h9
 obtain ⟨A1, k1, s1, e0, r0, l0⟩ := seen_adrs h0
 obtain ⟨A2, k2, s2, e1, r1, l1⟩ := seen_nms h1
 obtain ⟨A3, k3, s3, e2, r2, l2⟩ := seen_pfs h2
 obtain ⟨nd, e3⟩ := seen_int h3
 obtain ⟨tmo, e4⟩ := seen_int h4
 obtain ⟨att, e5⟩ := seen_int h5
 obtain ⟨ro, e6⟩ := seen_bool h6
 obtain ⟨vc, e7⟩ := seen_bool h7
 obtain ⟨si, e8⟩ := seen_bool h8
 obtain ⟨ed, e9⟩ := seen_bool h9
 refine ⟨⟨s1, s2, s3, nd, tmo, att, ro, vc, si, ed⟩, A1, k1, A2, k2, A3, k3, ?_, r0, r1, r2, l0, l1, l2⟩
 show cs.drop 0 = _
 rw [dsplit cs 0 1 1 rfl, e0, dsplit cs 1 1 2 rfl, e1, dsplit cs 2 1 3 rfl, e2, dsplit cs 3 1 4 rfl, e3, dsplit cs 4 1 5 rfl, e4, dsplit cs 5 1 6 rfl, e5, dsplit cs 6 1 7 rfl, e6, dsplit cs 7 1 8 rfl, e7, dsplit cs 8 1 9 rfl, e8, dsplit cs 9 1 10 rfl, e9, List.drop_of_length_le (by omega)]
 rfl
end
def tk35 (vs vn : Value) (cs : List Value) (kind turn : Int) : List Value := cs ++ [vn, .int .i64 kind, .int .i64 turn, vs]
section
variable {H : Type} {enc : TypeId × Value → H} {w : World} {cs : List Value}
end
open Go.RowKit
theorem tk35_at {vs vn : Value} {cs : List Value} {kind turn : Int} (h : cs.length = 10) : (tk35 vs vn cs kind turn).length = 14 ∧ ((tk35 vs vn cs kind turn).drop 0).take 10 = cs ∧ (tk35 vs vn cs kind turn)[10]? = some vn ∧ (tk35 vs vn cs kind turn)[11]? = some (.int .i64 kind) ∧ (tk35 vs vn cs kind turn)[12]? = some (.int .i64 turn) ∧ (tk35 vs vn cs kind turn)[13]? = some vs := by
 unfold tk35
 refine ⟨by simp [h], by rw [List.drop_zero]; exact List.take_left' h, ?_, ?_, ?_, ?_⟩ <;> (rw [List.getElem?_append_right (by omega), h]; rfl)
end Go.Proofs.YthnbcmlnpdabhaaGreat

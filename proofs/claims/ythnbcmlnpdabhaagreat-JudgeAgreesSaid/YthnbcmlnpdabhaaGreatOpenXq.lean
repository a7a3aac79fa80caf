/-
  Arguments of layer 29's laws: what the reading of a task says of its cells.
-/
import Derived.Test.YthnbcmlnpdabhaaGreatILq
namespace Go.Proofs.YthnbcmlnpdabhaaGreat
open _root_.Go.Proofs.Tryz
open Go.ChangeShapes Go.WideShapes Go.ChangeAt Go.RowKit
set_option maxRecDepth 100000
set_option linter.unusedVariables false
set_option linter.unusedSimpArgs false
section
variable {H : Type} {enc : TypeId × Value -> H} {w : World} {cs : List Value}
theorem wR {α : Type} [Inhabited α] {t e : TypeId} {k by_ : Nat} (ht : prog.underlying t = some (.slice e)) (hc : prog.cellsOf e = k) (hk : 0 < k) (hb : prog.bytesOf e = by_) (hby : 8 <= by_) (R : List Value -> α -> Prop) (key : ∀ cs', cs'.length = k -> oj enc prog w e cs' -> ∃ x, R cs' x)
  (h : oj enc prog w t cs) : ∃ A c l, cs = [.slice A (l : List α).length c] /\ Vm w k R A l /\ l.length <= 17592186044416 := by
 obtain ⟨A, n, c, rfl, hnc, _, hby2, hn⟩ := h.slice ht (by rw [hc]; exact hk);rw [hb] at hby2;have hn8 : n * 8 <= n * by_ := Nat.mul_le_mul_left _ hby;by_cases hpos : 0 < n
 ·
  obtain ⟨b, off, rfl, hbl, hi⟩ := hn hpos;rw [hc] at hi;have key2 : ∀ i, i < n -> ∃ x : α, ∃ cs', w.rangeAt b (off + i * k) cs' /\ R cs' x := by
   intro i hin;obtain ⟨cs', hl, hc', hs⟩ := hi i hin;obtain ⟨x, hx⟩ := key cs' hl hs;refine ⟨x, cs', fun j v hv => ?_, hx⟩;have hj : j < k := by rw [<- hl]; exact (List.getElem?_eq_some_iff.1 hv).1
   rw [hc' j hj]; exact hv
  obtain ⟨f, hf⟩ := Deep.choose_lt key2;refine ⟨some ⟨b, off, none⟩, c, (List.range n).map f, ag, fun _ => ⟨b, off, rfl, hbl, fun i hin => ?_⟩, al⟩;have hin' : i < n := jk;obtain ⟨cs', h1, h2⟩ := hf i hin';exact ⟨cs', h1, en⟩
 ·obtain rfl : n = 0 := ak;exact ⟨A, c, [], rfl, fun h => absurd h ag, ag⟩
instance : Inhabited oi := ⟨oi.zero⟩
theorem NK (h : oj enc prog w 65 cs) : ∃ A c l, cs = [.slice A (l : List oi).length c] /\ UH w A l /\ l.length <= 17592186044416 :=
 wR underlying65 (k := 18) (by kernel_rfl) aj (by_ := 32) (by kernel_rfl) aj CR (fun cs' _ hs => by obtain ⟨a, h1, h2⟩ := AE hs; exact ⟨a, h2, h1⟩) h
theorem Tm (h : oj enc prog w 236 cs) : ∃ p : oi × Int, PF cs p := by
 have c19 : prog.cellsOf 236 = 19 := by kernel_rfl
 have c1 : prog.cellsOf 3 = 1 := by kernel_rfl
 have ca : prog.cellsOf 24 = 18 := by kernel_rfl
 obtain ⟨hl, hf⟩ := h.struct underlying236;rw [c19] at hl;have h0 : oj enc prog w 24 ((cs.drop 0).take (prog.cellsOf 24)) := ju;have h1 : oj enc prog w 3 ((cs.drop 18).take (prog.cellsOf 3)) := jt;rw [ca] at h0;rw [c1] at h1;obtain ⟨a, ha, e0⟩ := AE h0;obtain ⟨n, e1⟩ := qF h1;refine ⟨(a, n), ?_, ha⟩;show cs.drop 0 = _;rw [pK cs 0 18 18 rfl, e0, pK cs 18 1 19 rfl, e1, List.drop_of_length_le ak];rfl
theorem QP (h : oj enc prog w 67 cs) : ∃ A c l, cs = [.slice A (l : List (oi × Int)).length c] /\ UM w A l /\ l.length <= 17592186044416 :=
 wR underlying67 (k := 19) (by kernel_rfl) aj (by_ := 40) (by kernel_rfl) aj PF (fun cs' _ hs => Tm hs) h
theorem QS (h : oj enc prog w 66 cs) : ∃ A c ls, cs = [.slice A (ls : List (List (List UInt8))).length c] /\ yu w A ls /\ ls.length <= 17592186044416 := by
 obtain ⟨A, c, l, h1, h2, h3⟩ := wR (α := List (List UInt8)) underlying66 (k := 1) (by kernel_rfl) aj (by_ := 24) (by kernel_rfl) aj (fun cs' n => ∃ A c, cs' = [.slice A n.length c] /\ rQ w A c n) (fun cs' _ hs => by
  obtain ⟨Ai, ci, l, rfl, hR⟩ := zN underlying26 hs;exact ⟨l, Ai, ci, rfl, hR⟩) h
 refine ⟨A, c, l, h1, fun hp => ?_, h3⟩;obtain ⟨b, off, k1, k2, k3⟩ := h2 hp;refine ⟨b, off, k1, k2, fun i hi => ?_⟩;obtain ⟨cs', r1, Ai, ci, rfl, hR⟩ := k3 i hi;refine ⟨Ai, ci, ?_, hR⟩;have := r1 0 _ rfl;simpa using this
theorem NM (h : oj enc prog w 70 cs) : ∃ A c l, cs = [.slice A (l : List Int).length c] /\ Lw w A l := by
 obtain ⟨A, c, l, h1, h2, h3⟩ := wR (α := Int) underlying70 (k := 1) (by kernel_rfl) aj (by_ := 8) (by kernel_rfl) aj (fun cs' n => cs' = [.int .i64 n]) (fun cs' _ hs => by
  obtain ⟨n, rfl⟩ := qF hs;exact ⟨n, rfl⟩) h
 refine ⟨A, c, l, h1, fun hp => ?_⟩;obtain ⟨b, off, k1, k2, k3⟩ := h2 hp;refine ⟨b, off, k1, k2, fun j v hv => ?_⟩;unfold AW at hv;rw [List.getElem?_map] at hv;obtain ⟨x, hx, rfl⟩ := Option.map_eq_some_iff.1 hv;obtain ⟨hj, hx⟩ := List.getElem?_eq_some_iff.1 hx;obtain ⟨cs', r1, r2⟩ := k3 j hj;subst r2;have := r1 0 _ rfl;rw [hx] at this;simpa using this
theorem Tn (h : oj enc prog w 69 cs) : ∃ r : Rs, vg w cs r := by
 have c10 : prog.cellsOf 69 = 10 := by kernel_rfl
 have c1 : prog.cellsOf 3 = 1 := by kernel_rfl
 have cb : prog.cellsOf 4 = 1 := by kernel_rfl
 have ca : prog.cellsOf 65 = 1 := by kernel_rfl
 have cn : prog.cellsOf 66 = 1 := by kernel_rfl
 have cp : prog.cellsOf 67 = 1 := by kernel_rfl
 obtain ⟨hl, hf⟩ := h.struct underlying69;rw [c10] at hl;have h0 : oj enc prog w 65 ((cs.drop 0).take (prog.cellsOf 65)) := ju;have h1 : oj enc prog w 66 ((cs.drop 1).take (prog.cellsOf 66)) := jt;have h2 : oj enc prog w 67 ((cs.drop 2).take (prog.cellsOf 67)) := hf 2 _ rfl;have h3 : oj enc prog w 3 ((cs.drop 3).take (prog.cellsOf 3)) := hf 3 _ rfl;have h4 : oj enc prog w 3 ((cs.drop 4).take (prog.cellsOf 3)) := hf 4 _ rfl;have h5 : oj enc prog w 3 ((cs.drop 5).take (prog.cellsOf 3)) := hf 5 _ rfl;have h6 : oj enc prog w 4 ((cs.drop 6).take (prog.cellsOf 4)) := hf 6 _ rfl;have h7 : oj enc prog w 4 ((cs.drop 7).take (prog.cellsOf 4)) := hf 7 _ rfl;have h8 : oj enc prog w 4 ((cs.drop 8).take (prog.cellsOf 4)) := hf 8 _ rfl;have h9 : oj enc prog w 4 ((cs.drop 9).take (prog.cellsOf 4)) := hf 9 _ rfl;rw [ca] at h0;rw [cn] at h1;rw [cp] at h2;rw [c1] at h3 h4 h5;rw [cb] at h6 h7 h8 h9;obtain ⟨A1, k1, s1, e0, r0, l0⟩ := NK h0;obtain ⟨A2, k2, s2, e1, r1, l1⟩ := QS h1;obtain ⟨A3, k3, s3, e2, r2, l2⟩ := QP h2;obtain ⟨nd, e3⟩ := qF h3;obtain ⟨tmo, e4⟩ := qF h4;obtain ⟨att, e5⟩ := qF h5;obtain ⟨ro, e6⟩ := wD h6;obtain ⟨vc, e7⟩ := wD h7;obtain ⟨si, e8⟩ := wD h8;obtain ⟨ed, e9⟩ := wD h9;refine ⟨⟨s1, s2, s3, nd, tmo, att, ro, vc, si, ed⟩, A1, k1, A2, k2, A3, k3, ?_, r0, r1, r2, l0, l1, l2⟩;show cs.drop 0 = _;rw [pK cs 0 1 1 rfl, e0, pK cs 1 1 2 rfl, e1, pK cs 2 1 3 rfl, e2, pK cs 3 1 4 rfl, e3, pK cs 4 1 5 rfl, e4, pK cs 5 1 6 rfl, e5, pK cs 6 1 7 rfl, e6, pK cs 7 1 8 rfl, e7, pK cs 8 1 9 rfl, e8, pK cs 9 1 10 rfl, e9, List.drop_of_length_le ak];rfl
theorem IE (h : oj enc prog w 72 cs) : ∃ As rc r A c q turn ds cd, cs = uQ (.slice As (ds : List Int).length cd) (.slice A (q : Qn).name.length c) rc q turn /\ vg w rc r /\ rQ w A c q.name /\ Lw w As ds := by
 have c15 : prog.cellsOf 72 = 15 := by kernel_rfl
 have c1 : prog.cellsOf 3 = 1 := by kernel_rfl
 have cr : prog.cellsOf 69 = 10 := by kernel_rfl
 have cq : prog.cellsOf 28 = 3 := by kernel_rfl
 have cd_ : prog.cellsOf 70 = 1 := by kernel_rfl
 obtain ⟨hl, hf⟩ := h.struct underlying72;rw [c15] at hl;have h0 : oj enc prog w 69 ((cs.drop 0).take (prog.cellsOf 69)) := ju;have h1 : oj enc prog w 28 ((cs.drop 10).take (prog.cellsOf 28)) := jt;have h2 : oj enc prog w 3 ((cs.drop 13).take (prog.cellsOf 3)) := hf 2 _ rfl;have h3 : oj enc prog w 70 ((cs.drop 14).take (prog.cellsOf 70)) := hf 3 _ rfl;rw [cr] at h0;rw [cq] at h1;rw [c1] at h2;rw [cd_] at h3;obtain ⟨r, hr⟩ := Tn h0;obtain ⟨q, A, c, e1, hN⟩ := UF h1;obtain ⟨turn, e2⟩ := qF h2;obtain ⟨As, cd, ds, e3, hD⟩ := NM h3;obtain ⟨rc, hrc⟩ : ∃ rc, (cs.drop 0).take 10 = rc := eE;rw [hrc] at hr;refine ⟨As, rc, r, A, c, q, turn, ds, cd, ?_, hr, hN, hD⟩;show cs.drop 0 = _;rw [pK cs 0 10 10 rfl, hrc, pK cs 10 3 13 rfl, e1, pK cs 13 1 14 rfl, e2, pK cs 14 1 15 rfl, e3, List.drop_of_length_le ak];rfl
end
end Go.Proofs.YthnbcmlnpdabhaaGreat

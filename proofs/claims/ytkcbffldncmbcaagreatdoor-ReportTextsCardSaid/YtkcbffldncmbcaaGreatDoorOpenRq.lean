/-
  Layer 47: what the reading of a result, and of what was done, says of its cells.
-/
import Derived.Test.YtkcbffldncmbcaaGreatDoorTy37q
namespace Go.Proofs.YtkcbffldncmbcaaGreatDoor
open _root_.Go.Proofs.Tryz
open Go.ChangeShapes Go.WideShapes Go.ChangeAt Go.RowKit
set_option linter.unusedVariables false
set_option linter.unusedSimpArgs false
section
variable {H : Type} {enc : TypeId × Value → H} {w : World} {cs : List Value}
theorem seen_intB (h : SeenW enc prog w 3 cs) : ∃ n : Int, cs = [.int .i64 n] ∧ I64 n := by
 obtain ⟨n, e, hw⟩ := h.int underlying3
 simp only [Lit.wf, Bool.and_eq_true, decide_eq_true_eq] at hw
 exact ⟨n, e, hw.1, hw.2⟩
theorem seen_adrB (h : SeenW enc prog w 31 cs) : ∃ a : Adr, a.ip.length = 16 ∧ cs = a.cells ∧ I64 a.zone := by
 have c18 : prog.cellsOf 31 = 18 := by kernel_rfl
 have c1 : prog.cellsOf 3 = 1 := by kernel_rfl
 have c16 : prog.cellsOf 29 = 16 := by kernel_rfl
 obtain ⟨hl, hf⟩ := h.struct underlying31
 rw [c18] at hl
 have h0 : SeenW enc prog w 3 ((cs.drop 0).take (prog.cellsOf 3)) := hf 0 _ rfl
 have h1 : SeenW enc prog w 29 ((cs.drop 1).take (prog.cellsOf 29)) := hf 1 _ rfl
 have h2 : SeenW enc prog w 3 ((cs.drop 17).take (prog.cellsOf 3)) := hf 2 _ rfl
 rw [c1] at h0 h2
 rw [c16] at h1
 obtain ⟨f, e0, _⟩ := seen_intB h0
 obtain ⟨ip, i16, e1⟩ := seen_16 h1
 obtain ⟨z, e2, wz⟩ := seen_intB h2
 refine ⟨⟨f, ip, z⟩, i16, ?_, wz⟩
 show cs.drop 0 = _
 rw [dsplit cs 0 1 1 rfl, e0, dsplit cs 1 16 17 rfl, e1, dsplit cs 17 1 18 rfl, e2, List.drop_of_length_le (by omega)]
 rfl
theorem seen_rrB (h : SeenW enc prog w 45 cs) : ∃ r : RR, RRis w cs r ∧ RRb r := by
 have c33 : prog.cellsOf 45 = 33 := by kernel_rfl
 have c1 : prog.cellsOf 3 = 1 := by kernel_rfl
 have cn : prog.cellsOf 42 = 1 := by kernel_rfl
 have ca : prog.cellsOf 31 = 18 := by kernel_rfl
 have c5 : prog.cellsOf 43 = 5 := by kernel_rfl
 have cs1 : prog.cellsOf 9 = 1 := by kernel_rfl
 obtain ⟨hl, hf⟩ := h.struct underlying45
 rw [c33] at hl
 have h0 : SeenW enc prog w 42 ((cs.drop 0).take (prog.cellsOf 42)) := hf 0 _ rfl
 have h1 : SeenW enc prog w 3 ((cs.drop 1).take (prog.cellsOf 3)) := hf 1 _ rfl
 have h2 : SeenW enc prog w 3 ((cs.drop 2).take (prog.cellsOf 3)) := hf 2 _ rfl
 have h3 : SeenW enc prog w 3 ((cs.drop 3).take (prog.cellsOf 3)) := hf 3 _ rfl
 have h4 : SeenW enc prog w 31 ((cs.drop 4).take (prog.cellsOf 31)) := hf 4 _ rfl
 have h5 : SeenW enc prog w 42 ((cs.drop 22).take (prog.cellsOf 42)) := hf 5 _ rfl
 have h6 : SeenW enc prog w 42 ((cs.drop 23).take (prog.cellsOf 42)) := hf 6 _ rfl
 have h7 : SeenW enc prog w 3 ((cs.drop 24).take (prog.cellsOf 3)) := hf 7 _ rfl
 have h8 : SeenW enc prog w 3 ((cs.drop 25).take (prog.cellsOf 3)) := hf 8 _ rfl
 have h9 : SeenW enc prog w 3 ((cs.drop 26).take (prog.cellsOf 3)) := hf 9 _ rfl
 have h10 : SeenW enc prog w 43 ((cs.drop 27).take (prog.cellsOf 43)) := hf 10 _ rfl
 have h11 : SeenW enc prog w 9 ((cs.drop 32).take (prog.cellsOf 9)) := hf 11 _ rfl
 rw [cn] at h0 h5 h6
 rw [c1] at h1 h2 h3 h7 h8 h9
 rw [ca] at h4
 rw [c5] at h10
 rw [cs1] at h11
 obtain ⟨An, kn, n, e0, r0⟩ := seen_texts underlying42 h0
 obtain ⟨ty, e1⟩ := seen_int h1
 obtain ⟨cl, e2⟩ := seen_int h2
 obtain ⟨ttl, e3, wttl⟩ := seen_intB h3
 obtain ⟨ad, i16, e4⟩ := seen_adr h4
 obtain ⟨At, kt, tg, e5, r5⟩ := seen_texts underlying42 h5
 obtain ⟨Am, km, ml, e6, r6⟩ := seen_texts underlying42 h6
 obtain ⟨pri, e7, wpri⟩ := seen_intB h7
 obtain ⟨we, e8, wwe⟩ := seen_intB h8
 obtain ⟨po, e9, wpo⟩ := seen_intB h9
 obtain ⟨nums, n5, e10⟩ := seen_5 h10
 obtain ⟨raw, e11, rl⟩ := h11.string underlying9
 refine ⟨⟨n, ty, cl, ttl, ad, tg, ml, pri, we, po, nums, raw⟩, ⟨An, kn, At, kt, Am, km, ?_, ⟨i16, n5⟩, r0, r5, r6, rl⟩, wttl, wpri, wwe, wpo⟩
 show cs.drop 0 = _
 rw [dsplit cs 0 1 1 rfl, e0, dsplit cs 1 1 2 rfl, e1, dsplit cs 2 1 3 rfl, e2, dsplit cs 3 1 4 rfl, e3, dsplit cs 4 18 22 rfl, e4, dsplit cs 22 1 23 rfl, e5, dsplit cs 23 1 24 rfl, e6, dsplit cs 24 1 25 rfl, e7, dsplit cs 25 1 26 rfl, e8, dsplit cs 26 1 27 rfl, e9, dsplit cs 27 5 32 rfl, e10, dsplit cs 32 1 33 rfl, e11, List.drop_of_length_le (by omega)]
 rfl
theorem seen_listR {α : Type} [Inhabited α] {t e : TypeId} {k by_ : Nat} (ht : prog.underlying t = some (.slice e)) (hc : prog.cellsOf e = k) (hk : 0 < k) (hb : prog.bytesOf e = by_) (hby : 8 ≤ by_) (R : List Value → α → Prop) (key : ∀ cs', cs'.length = k → SeenW enc prog w e cs' → ∃ x, R cs' x)
  (h : SeenW enc prog w t cs) : ∃ A c l, cs = [.slice A (l : List α).length c] ∧ LIn w k R A l ∧ l.length ≤ 17592186044416 := by
 obtain ⟨A, n, c, rfl, hnc, _, hby2, hn⟩ := h.slice ht (by rw [hc]; exact hk)
 rw [hb] at hby2
 have hn8 : n * 8 ≤ n * by_ := Nat.mul_le_mul_left _ hby
 by_cases hpos : 0 < n
 ·
  obtain ⟨b, off, rfl, hbl, hi⟩ := hn hpos
  rw [hc] at hi
  have key2 : ∀ i, i < n → ∃ x : α, ∃ cs', w.rangeAt b (off + i * k) cs' ∧ R cs' x := by
   intro i hin
   obtain ⟨cs', hl, hc', hs⟩ := hi i hin
   obtain ⟨x, hx⟩ := key cs' hl hs
   refine ⟨x, cs', fun j v hv => ?_, hx⟩
   have hj : j < k := by rw [← hl]; exact (List.getElem?_eq_some_iff.1 hv).1
   rw [hc' j hj]; exact hv
  obtain ⟨f, hf⟩ := Deep.choose_lt key2
  refine ⟨some ⟨b, off, none⟩, c, (List.range n).map f, by simp, fun _ => ⟨b, off, rfl, hbl, fun i hin => ?_⟩, by simp; omega⟩
  have hin' : i < n := by simpa using hin
  obtain ⟨cs', h1, h2⟩ := hf i hin'
  exact ⟨cs', h1, by simpa using h2⟩
 ·
  obtain rfl : n = 0 := by omega
  exact ⟨A, c, [], rfl, fun h => absurd h (by simp), by simp⟩
theorem seen_infB (h : SeenW enc prog w 53 cs) : ∃ x : Inf, InfI cs x := by
 have c20 : prog.cellsOf 53 = 20 := by kernel_rfl
 have c1 : prog.cellsOf 3 = 1 := by kernel_rfl
 have ca : prog.cellsOf 31 = 18 := by kernel_rfl
 obtain ⟨hl, hf⟩ := h.struct underlying53
 rw [c20] at hl
 have h0 : SeenW enc prog w 31 ((cs.drop 0).take (prog.cellsOf 31)) := hf 0 _ rfl
 have h1 : SeenW enc prog w 3 ((cs.drop 18).take (prog.cellsOf 3)) := hf 1 _ rfl
 have h2 : SeenW enc prog w 3 ((cs.drop 19).take (prog.cellsOf 3)) := hf 2 _ rfl
 rw [c1] at h1 h2
 rw [ca] at h0
 obtain ⟨a, i16, e0, wz⟩ := seen_adrB h0
 obtain ⟨p, e1, wp⟩ := seen_intB h1
 obtain ⟨s, e2, ws⟩ := seen_intB h2
 refine ⟨⟨a, p, s⟩, ?_, i16, wz, wp, ws⟩
 show cs.drop 0 = _
 rw [dsplit cs 0 18 18 rfl, e0, dsplit cs 18 1 19 rfl, e1, dsplit cs 19 1 20 rfl, e2, List.drop_of_length_le (by omega)]
 rfl
theorem seen_ouB (h : SeenW enc prog w 33 cs) : ∃ x : Ou, OuW cs x := by
 have c21 : prog.cellsOf 33 = 21 := by kernel_rfl
 have c1 : prog.cellsOf 3 = 1 := by kernel_rfl
 have ca : prog.cellsOf 31 = 18 := by kernel_rfl
 have cs1 : prog.cellsOf 9 = 1 := by kernel_rfl
 obtain ⟨hl, hf⟩ := h.struct underlying33
 rw [c21] at hl
 have h0 : SeenW enc prog w 3 ((cs.drop 0).take (prog.cellsOf 3)) := hf 0 _ rfl
 have h1 : SeenW enc prog w 31 ((cs.drop 1).take (prog.cellsOf 31)) := hf 1 _ rfl
 have h2 : SeenW enc prog w 3 ((cs.drop 19).take (prog.cellsOf 3)) := hf 2 _ rfl
 have h3 : SeenW enc prog w 9 ((cs.drop 20).take (prog.cellsOf 9)) := hf 3 _ rfl
 rw [c1] at h0 h2
 rw [ca] at h1
 rw [cs1] at h3
 obtain ⟨k, e0, wk⟩ := seen_intB h0
 obtain ⟨a, i16, e1, wz⟩ := seen_adrB h1
 obtain ⟨p, e2, wp⟩ := seen_intB h2
 obtain ⟨d, e3, ld⟩ := h3.string underlying9
 refine ⟨⟨k, a, p, d⟩, ?_, i16, wz, wp, ld⟩
 show cs.drop 0 = _
 rw [dsplit cs 0 1 1 rfl, e0, dsplit cs 1 18 19 rfl, e1, dsplit cs 19 1 20 rfl, e2, dsplit cs 20 1 21 rfl, e3, List.drop_of_length_le (by omega)]
 simp [ouC]
theorem seen_outsB (h : SeenW enc prog w 26 cs) : ∃ A c l, cs = [.slice A (l : List Ou).length c] ∧ LIn w 21 OuW A l ∧ l.length ≤ 17592186044416 :=
 haveI : Inhabited Ou := ⟨⟨0, Adr.zero, 0, []⟩⟩
 seen_listR underlying26 (k := 21) (by kernel_rfl) (by decide) (by_ := 64) (by kernel_rfl) (by decide) OuW (fun cs' _ hs => seen_ouB hs) h
theorem seen_infsB (h : SeenW enc prog w 22 cs) : ∃ A c l, cs = [.slice A (l : List Inf).length c] ∧ LIn w 20 InfI A l ∧ l.length ≤ 17592186044416 :=
 haveI : Inhabited Inf := ⟨⟨Adr.zero, 0, 0⟩⟩
 seen_listR underlying22 (k := 20) (by kernel_rfl) (by decide) (by_ := 48) (by kernel_rfl) (by decide) InfI (fun cs' _ hs => seen_infB hs) h
theorem seen_rrsB (h : SeenW enc prog w 23 cs) : ∃ A c l, cs = [.slice A (l : List RR).length c] ∧ RRsR w A l ∧ ∀ r ∈ l, RRb r := by
 haveI : Inhabited RR := ⟨⟨[], 0, 0, 0, Adr.zero, [], [], 0, 0, 0, [], []⟩⟩
 obtain ⟨A, c, l, e, hL, _⟩ := seen_listR underlying23 (k := 33) (by kernel_rfl) (by decide) (by_ := 208) (by kernel_rfl) (by decide) (fun cs r => RRis w cs r ∧ RRb r) (fun cs' _ hs => seen_rrB hs) h
 refine ⟨A, c, l, e, fun hp => ?_, fun r hr => ?_⟩
 ·
  obtain ⟨b, off, h1, h2, h3⟩ := hL hp
  exact ⟨b, off, h1, h2, fun i hi => by obtain ⟨cs', h4, h5, _⟩ := h3 i hi; exact ⟨cs', h4, h5⟩⟩
 ·
  obtain ⟨i, hi, rfl⟩ := List.getElem_of_mem hr
  obtain ⟨b, off, h1, h2, h3⟩ := hL (by omega)
  obtain ⟨cs', _, _, h5⟩ := h3 i hi
  exact h5
theorem seen_res (h : SeenW enc prog w 25 cs) : ∃ (R : Rz) (Ai Ar : Option Addr) (ci cr : Nat), cs = rzC (.slice Ai R.infos.length ci) (.slice Ar R.recs.length cr) R ∧ I64 R.code ∧ LIn w 20 InfI Ai R.infos ∧ RRsR w Ar R.recs ∧ (∀ r ∈ R.recs, RRb r) ∧ (R.canon.length ≤ 140737488355328 ∧ R.host.length ≤ 140737488355328 ∧ R.serv.length ≤ 140737488355328) := by
 have c6 : prog.cellsOf 25 = 6 := by kernel_rfl
 have c1 : prog.cellsOf 3 = 1 := by kernel_rfl
 have ci : prog.cellsOf 22 = 1 := by kernel_rfl
 have cr : prog.cellsOf 23 = 1 := by kernel_rfl
 have cs1 : prog.cellsOf 9 = 1 := by kernel_rfl
 obtain ⟨hl, hf⟩ := h.struct underlying25
 rw [c6] at hl
 have h0 : SeenW enc prog w 3 ((cs.drop 0).take (prog.cellsOf 3)) := hf 0 _ rfl
 have h1 : SeenW enc prog w 22 ((cs.drop 1).take (prog.cellsOf 22)) := hf 1 _ rfl
 have h2 : SeenW enc prog w 9 ((cs.drop 2).take (prog.cellsOf 9)) := hf 2 _ rfl
 have h3 : SeenW enc prog w 9 ((cs.drop 3).take (prog.cellsOf 9)) := hf 3 _ rfl
 have h4 : SeenW enc prog w 9 ((cs.drop 4).take (prog.cellsOf 9)) := hf 4 _ rfl
 have h5 : SeenW enc prog w 23 ((cs.drop 5).take (prog.cellsOf 23)) := hf 5 _ rfl
 rw [c1] at h0
 rw [ci] at h1
 rw [cs1] at h2 h3 h4
 rw [cr] at h5
 obtain ⟨k, e0, wk⟩ := seen_intB h0
 obtain ⟨Ai, ki, infos, e1, hI, _⟩ := seen_infsB h1
 obtain ⟨a, e2, l2⟩ := h2.string underlying9
 obtain ⟨b, e3, l3⟩ := h3.string underlying9
 obtain ⟨c, e4, l4⟩ := h4.string underlying9
 obtain ⟨Ar, kr, recs, e5, hR, hRb⟩ := seen_rrsB h5
 refine ⟨⟨k, infos, a, b, c, recs⟩, Ai, Ar, ki, kr, ?_, wk, hI, hR, hRb, l2, l3, l4⟩
 show cs.drop 0 = _
 rw [dsplit cs 0 1 1 rfl, e0, dsplit cs 1 1 2 rfl, e1, dsplit cs 2 1 3 rfl, e2, dsplit cs 3 1 4 rfl, e3, dsplit cs 4 1 5 rfl, e4, dsplit cs 5 1 6 rfl, e5, List.drop_of_length_le (by omega)]
 rfl
end
end Go.Proofs.YtkcbffldncmbcaaGreatDoor

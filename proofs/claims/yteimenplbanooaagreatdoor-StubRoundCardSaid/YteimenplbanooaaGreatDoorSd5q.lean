/-
  Layer 43: GetAddrInfo of an address in digits: it is told at once.
-/
import Derived.Test.YteimenplbanooaaGreatDoorRBAq
namespace Go.Proofs.YteimenplbanooaaGreatDoor
open _root_.Go.Proofs.Tryz
open Go.RowKit
set_option maxRecDepth 100000
set_option linter.unusedVariables false
set_option linter.unusedSimpArgs false
theorem portC_at (p : Int) : ∀ (ks : List Int) (k : Nat) (h : k < ks.length) (j : Nat) (v : Value), [Value.int .i64 p, .int .i64 ks[k]][j]? = some v → (portC p ks)[k * 2 + j]? = some v
 | [], k, h, j, v, hv => absurd h (by simp)
 | x :: ks, 0, h, j, v, hv => by
  have hj : j < 2 := by have := (List.getElem?_eq_some_iff.1 hv).1; simpa using this
  have e : portC p (x :: ks) = [.int .i64 p, .int .i64 x] ++ portC p ks := rfl
  rw [e, Nat.zero_mul, Nat.zero_add, List.getElem?_append_left (by simpa using hj)]
  exact hv
 | x :: ks, k + 1, h, j, v, hv => by
  have e : portC p (x :: ks) = [.int .i64 p, .int .i64 x] ++ portC p ks := rfl
  rw [e, List.getElem?_append_right (by simp; omega), show (k + 1) * 2 + j - ([Value.int .i64 p, .int .i64 x] : List Value).length = k * 2 + j by simp; omega]
  exact portC_at p ks k (by simpa using h) j v (by simpa using hv)
theorem portC_len (p : Int) (ks : List Int) : (portC p ks).length = ks.length * 2 := by
 induction ks with
 | nil => rfl
 | cons x ks ih =>
  have e : portC p (x :: ks) = [.int .i64 p, .int .i64 x] ++ portC p ks := rfl
  rw [e, List.length_append, ih]; simp; omega
theorem port_rows {w : World} {B : Nat} {A : Option Addr} {c : Nat} {p : Int} {ks : List Int} (h : w.ownsRow B 170 2 (.slice A ks.length c) ks.length (portC p ks)) (h0 : 0 < ks.length) : ∃ gp, A = some ⟨gp, 0, none⟩ ∧ gp < w.heap.size ∧ ∀ k (h : k < ks.length), w.rangeAt gp (0 + k * 2) [.int .i64 p, .int .i64 ks[k]] := by
 obtain ⟨g, L, hA, hb, hL, _⟩ := own_range h h0 (portC_len p ks)
 refine ⟨g, hA, hb.lt, fun k hk j v hv => ?_⟩
 have h1 := portC_at p ks k hk j v hv
 rw [← hL] at h1
 rw [List.getElem?_take] at h1
 split at h1
 ·
  rw [Nat.zero_add]; exact hb.cell_ _ h1
 ·
  cases h1
theorem infR_len (a : Adr) (h16 : a.ip.length = 16) (p : Int) (ks : List Int) : (infR a p ks).length = ks.length * 20 := by
 induction ks with
 | nil => rfl
 | cons x ks ih =>
  have e : infR a p (x :: ks) = infC ⟨a, p, x⟩ ++ infR a p ks := rfl
  rw [e, List.length_append, ih, infC_len h16]; simp; omega
theorem infR_one (a : Adr) (p : Int) (ks : List Int) : ∀ u ∈ infR a p ks, u.oneCell' = true := by
 intro u hu
 obtain ⟨k, _, hu⟩ := List.mem_flatMap.1 hu
 unfold infC at hu
 rcases List.mem_append.1 hu with hu | hu
 ·
  exact a.cells_one u hu
 ·
  simp at hu; rcases hu with rfl | rfl <;> rfl
def ntC : List Value := [.slice none 0 0, .slice none 0 0, .slice none 0 0]
theorem hiI3 : (prog.info? 55).map (·.size) = some 3 := by kernel_rfl
def GaR43 (a : Adr) (p : Int) (ks : List Int) (w : World) (e : Ending) (w' : World) : Prop := ∃ g A c, e = .returned (.tuple #[.pointer (some ⟨g, 0, none⟩), .slice none 0 0]) ∧ Blk w' g 91 ([.nilIface, .nilFunc, .bool true] ++ zrC 0 A ks.length c [] [] []) ∧ w'.ownsRow 0 57 20 (.slice A ks.length c) ks.length (infR a p ks) ∧ Below w.heap.size w w'
theorem and43 {fl st : Int} (h : H3 fl 0 st) : bits .and .i64 fl 2 = 0 := by
 rcases h with ⟨rfl, _, _⟩ | ⟨rfl, _, _⟩ | ⟨rfl, _, _⟩ <;> rfl
set_option maxHeartbeats 4000000 in
theorem gai_lit (fl st : Int) (h : H3 fl 0 st) (T sv : List UInt8) (hT : T.isEmpty = false) (a : Adr) (h16 : a.ip.length = 16) (hf : a.fam = 4 ∨ a.fam = 6) (p : Int) (hS : (sv = [] ∧ p = 0) ∨ (sv.isEmpty = false ∧ ∀ V, Calls prog 82 #[.string (bs sv), .int .i64 65535] V (Ret (.tuple #[.int .i64 p, .int .i64 0]) V))) (L : Option Addr) (w : World) (hQ : ∀ V, Below w.heap.size w V → Calls prog 86 #[.string (bs T)] V (RetB (.tuple #[.agg a.cells.toArray, .int .i64 0]) V)) : Calls prog 10 #[.agg cf43.toArray, .agg ntC.toArray, .string (bs T), .string (bs sv), hiC fl 0 st, .int .i64 0, .pointer L] w (GaR43 a p (kdL st) w) := by
 have HE := Hh (fun V => heldZ_any V)
 have CK := Hh (fun V => hchk_any fl 0 st h T sv hT V)
 have PO := Hh (fun A n c V => ports_any fl 0 st h sv p hS A n c V)
 have LI := Hh (fun V (hV : Below w.heap.size w V) => hlit_any fl st a h16 hf T V (fun U hU => hQ U (below_then hV hV.size hU)))
 have ks0 : 0 < (kdL st).length := by unfold kdL; split <;> decide
 have ks2 : (kdL st).length ≤ 2 := by unfold kdL; split <;> decide
 have IN := Hh (fun ga gp ca cp V hA hga hP hgp => infos_any a h16 p (kdL st) ks2 ga 0 gp 0 ca cp V hA hga hP hgp)
 have OV := Hh (fun A n c V => sover_any 0 A n c [] [] [] V)
 have an2 := and43 h
 have PR := Hh (fun (V : World) (B : Nat) (A : Option Addr) (c : Nat) (ho : V.ownsRow B 170 2 (.slice A (kdL st).length c) (kdL st).length (portC p (kdL st))) => port_rows ho ks0)
 have C7 : Blk (w.alloc (.cells cf43.toArray 42)) w.heap.size 42 cf43 := Blk.new w _ _
 have N8 := Blk.new' (w.alloc (.cells cf43.toArray 42)) 53 ntC (w.heap.size + 1) (by simp)
 have H11 := Blk.new' ((w.alloc (.cells cf43.toArray 42)).alloc (.cells ntC.toArray 53)) 55 [.int .i64 fl, .int .i64 0, .int .i64 st] (w.heap.size + 1 + 1) (by simp)
 have C7' := (C7.alloc (.cells ntC.toArray 53)).alloc (.cells #[.int .i64 fl, .int .i64 0, .int .i64 st] 55)
 have BB : Below w.heap.size w (((w.alloc (.cells cf43.toArray 42)).alloc (.cells ntC.toArray 53)).alloc (.cells #[.int .i64 fl, .int .i64 0, .int .i64 st] 55)) := (((Below.refl _ _).alloc (Nat.le_refl _) _).alloc (by simp) _).alloc (by simp; omega) _
 clear hQ C7 N8 hS h
 generalize hk : kdL st = ks at *
 unfold hiC at *
 go_enter func10, ntmps10
 go_wp2_with (refine at_op (.load 42 (.tmp 7)) rfl ?_; go_must (refine wpList_ldB rfl _ _ rfl w.heap.size 0 rfl C7' 13 (by decide) _ underlying42 rfl cfgI13 cf43 rfl ?_))
 refine (HE.out _).mono ?_
 rintro _ w1 ⟨CS, rfl, hz, b1⟩
 have c13 := hz.len
 have c1 := hz.one
 obtain ⟨A12, k12, e12⟩ := hz.at12
 have C1 := C7'.below b1 C7'.lt
 have D1 := H11.below b1 H11.lt
 have S1 := below_then BB BB.size b1
 have cfI : (prog.info? 42).map (·.size) = some CS.length := by rw [c13]; exact cfgI13
 clear HE C7' H11 BB b1 hz
 go_wp2_with (refine at_op (.store 42 (.tmp 7) (.tmp 31)) rfl ?_; go_must (refine wpList_stB rfl _ _ _ rfl w.heap.size 0 rfl CS rfl C1 (by rw [c13]; decide) cfI c1 ?_))
 intro w2 B2 g2 _
 have C2 : Blk w2 w.heap.size 42 CS := blkAll B2 (by first | decide | (rw [c13]; decide))
 have D2 := D1.grown g2 (by simp; omega)
 have S2 := below_grown S1 g2 S1.size (Nat.le_refl _)
 clear B2 g2 C1 D1 S1 c1 cfI
 go_wp2_with (refine at_op (.load 55 (.tmp 11)) rfl ?_; go_must (refine wpList_ldB rfl _ _ rfl (w.heap.size + 1 + 1) 0 rfl D2 3 (Nat.le_refl 3) _ underlying55 rfl hiI3 [.int .i64 fl, .int .i64 0, .int .i64 st] rfl ?_))
 refine (CK.out _).mono ?_
 rintro _ w3 ⟨rfl, b3⟩
 have C3 := C2.below b3 C2.lt
 have D3 := D2.below b3 D2.lt
 have S3 := below_then S2 S2.size b3
 have d12 : w3.cell? ⟨w.heap.size, 12, none⟩ = some (.slice A12 0 k12) := C3.cell_ 12 e12
 clear C2 D2 S2 b3 CK
 go_wp2_with (refine at_op (.load 55 (.tmp 11)) rfl ?_; go_must (refine wpList_ldB rfl _ _ rfl (w.heap.size + 1 + 1) 0 rfl D3 3 (Nat.le_refl 3) _ underlying55 rfl hiI3 [.int .i64 fl, .int .i64 0, .int .i64 st] rfl ?_))
 refine (PO.out _ _ _ _).mono ?_
 rintro _ w4 ⟨vp, rfl, hpo, b4⟩
 obtain ⟨Ap, cp, rfl⟩ := own_form hpo
 obtain ⟨gp, rfl, hgp, hpr⟩ := PR.out _ _ _ _ hpo
 have D4 := D3.below b4 D3.lt
 have S4 := below_then S3 S3.size b4
 have PR4 := Hh (fun V (hV : Below w4.heap.size w4 V) k (h : k < ks.length) => range_below (hpr k h) hV hgp)
 have HGP := Hh hgp
 clear C3 D3 S3 b4 PO d12 hpo hpr hgp PR
 go_wp2_with (refine at_op (.load 55 (.tmp 11)) rfl ?_; go_must (refine wpList_ldB rfl _ _ rfl (w.heap.size + 1 + 1) 0 rfl D4 3 (Nat.le_refl 3) _ underlying55 rfl hiI3 [.int .i64 fl, .int .i64 0, .int .i64 st] rfl ?_))
 refine (LI.out _ S4).mono ?_
 rintro _ w5 ⟨ga, rfl, hga, hA, b5⟩
 have D5 := D4.below b5 D4.lt
 have S5 := below_then S4 S4.size b5
 have k5 := b5
 have hz5 := D5.lt
 have hAr := hA.lt
 have Z5 : Blk (w5.alloc (.cells rzZ.toArray 46)) w5.heap.size 46 rzZ := Blk.new w5 _ _
 have Q5 : Below w5.heap.size w5 (w5.alloc (.cells rzZ.toArray 46)) := (Below.refl _ _).alloc (Nat.le_refl _) _
 clear D4 b5 LI
 go_wp2_with (refine at_op (.store 46 (.tmp 22) (.tmp 71)) rfl ?_; go_must (refine wpList_stB rfl _ _ _ rfl w5.heap.size 0 rfl rzZ rfl Z5 (Nat.le_refl 6) rzI6 (zrC_one _ _ _ _ _ _ _) ?_))
 intro w6 B6 g6 _
 have Z6 : Blk w6 w5.heap.size 46 rzZ := B6
 have Q6 := below_grown Q5 g6 Q5.size (Nat.le_refl _)
 have D6 := D5.below Q6 D5.lt
 have A6 := hA.below Q6 hAr
 have S6 := below_then S5 S5.size Q6
 have HP6 : Hid (∀ k (h : k < ks.length), w6.rangeAt gp (0 + k * 2) [.int .i64 p, .int .i64 ks[k]]) := Hh (PR4.out _ (below_then k5 k5.size Q6))
 have HR6 : Hid (∀ i, i < 1 → w6.rangeAt ga (0 + i * 18) a.cells) := Hh (fun i hi j v hv => by
  obtain rfl : i = 0 := by omega
  have : 0 + 0 * 18 + j = j := by omega
  rw [this]; exact A6.cell_ j hv)
 have lt6 : Hid (ga < w6.heap.size ∧ gp < w6.heap.size) := Hh ⟨A6.lt, Nat.lt_of_lt_of_le HGP.out (below_then k5 k5.size Q6).size⟩
 have IN6 := Hh (IN.out ga gp 1 cp w6 HR6.out lt6.out.1 HP6.out lt6.out.2)
 have z6 := Z6.lt
 clear B6 g6 Z5 Q5 D5 hA hAr S5 k5 HP6 HR6 lt6 PR4 HGP IN Q6 hga S4 A6
 go_wp2_with fail
 refine IN6.out.mono ?_
 rintro _ w7 ⟨vi, rfl, hin, b7⟩
 obtain ⟨Ai, ci, rfl⟩ := own_form hin
 have Z7 := Z6.below b7 z6
 have D7 := D6.below b7 D6.lt
 have S7 := below_then S6 S6.size b7
 have HI7 := Hh hin
 have hs5 := S6.size
 clear IN6 Z6 D6 S6 hin b7
 go_wp2_with (refine at_op (.store 43 (.tmp 77) (.tmp 76)) rfl ?_; go_must (refine wpList_stC rfl 43 (.tmp 77) (.tmp 76) rfl w5.heap.size 1 rfl (.slice Ai ks.length ci) rfl Z7 (by decide) (by kernel_rfl) rfl rfl ?_))
 intro w8 B8 g8 _
 have Z8 : Blk w8 w5.heap.size 46 (zrC 0 Ai ks.length ci [] [] []) := B8
 have D8 := D7.grown g8 (by simp; omega)
 have S8 := below_grown S7 g8 S7.size (by omega)
 have d0 : w8.cell? ⟨w.heap.size + 1 + 1, 0, none⟩ = some (.int .i64 fl) := D8.cell_ 0 rfl
 have HI8 := Hh (own_blk HI7.out g8 Z7 (by decide))
 clear B8 g8 Z7 D7 S7 HI7 D8
 go_wp2_with (refine at_op (.load 46 (.tmp 22)) rfl ?_; go_must (refine wpList_ldB rfl _ _ rfl w5.heap.size 0 rfl Z8 6 (by simp [zrC]) _ underlying46 rfl rzI6 (zrC 0 Ai ks.length ci [] [] []) rfl ?_))
 refine (OV.out _ _ _ _).mono ?_
 rintro _ w9 ⟨g, rfl, hg, hB, b9⟩
 have HB := Hh hB
 have HI9 := Hh (own_below (own_lower HI8.out (Nat.zero_le _)) b9)
 have S9 := Hh (below_then S8 S8.size b9)
 clear OV HI8 S8 b9 hB hg d0 Z8
 go_wp2_with fail
 go_ret2
 exact ⟨g, Ai, ci, rfl, HB.out, HI9.out, S9.out⟩
end Go.Proofs.YteimenplbanooaaGreatDoor

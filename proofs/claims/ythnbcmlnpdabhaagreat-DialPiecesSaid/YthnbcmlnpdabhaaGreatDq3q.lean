/-
  Layer 28, the laws' own: works.
-/
import Derived.Test.YthnbcmlnpdabhaaGreatHZq
namespace Go.Proofs.YthnbcmlnpdabhaaGreat
open _root_.Go.Proofs.Tryz
open Go.RowKit
set_option maxRecDepth 100000
set_option linter.unusedVariables false
set_option linter.unusedSimpArgs false
def y28 : Qy := ⟨sv25, 5000, 7, ⟨[[97]], 1, 1⟩⟩
def ea28 : Ev := ⟨3, Adr.zero, 0, 5000, []⟩
def eb28 : Ev := ⟨4, Adr.zero, 0, 5000, [0, 19] ++ b25⟩
def oct28 : List UInt8 := [0, 19, 0, 7, 1, 0, 0, 1, 0, 0, 0, 0, 0, 0, 1, 97, 0, 0, 1, 0, 1]
theorem new28 : (newD y28).2 = [⟨2, sv25, 5000, []⟩] := by kernel_rfl
theorem heara28 : (hearD (newD y28).1 ea28).2 = [⟨3, sv25, 5000, oct28⟩] := by kernel_rfl
theorem hearb28 : (hearD (hearD (newD y28).1 ea28).1 eb28).2 = [⟨4, sv25, 5000, []⟩] ∧ (hearD (hearD (newD y28).1 ea28).1 eb28).1.st = 1 := by constructor <;> kernel_rfl
theorem lena28 : (newD y28).1.heard.length + ea28.data.length ≤ 8796093022208 := by
 have : (newD y28).1.heard = [] := by kernel_rfl
 rw [this]; decide
theorem lenb28 : (hearD (newD y28).1 ea28).1.heard.length + eb28.data.length ≤ 8796093022208 := by
 have : (hearD (newD y28).1 ea28).1.heard = [] := by kernel_rfl
 rw [this]; decide
theorem y28_is (w : World) (gn : Nat) (hn : Blk w gn 9 [.string ⟨#[97]⟩]) : QyIs w (qyC (.slice (some ⟨gn, 0, none⟩) 1 1) y28) y28 (some ⟨gn, 0, none⟩) 1 := by
 refine ⟨rfl, rfl, fun _ => ⟨gn, 0, rfl, hn.lt, fun j hj => ?_⟩, by show (1 : Nat) ≤ 1; decide, by show (1 : Nat) ≤ 17592186044416; decide, by
  intro l hl
  simp [y28] at hl
  subst hl; simp⟩
 obtain rfl : j = 0 := by
  have h2 : j < ([[97]] : List (List UInt8)).length := hj
  have : ([[97]] : List (List UInt8)).length = 1 := rfl
  omega
 exact hn.cell_ 0 rfl
theorem conv_two (W : World) (g : Nat) (x y : Int) (hg : g = W.heap.size) : (convert 145 9 (.slice (some ⟨g, 0, none⟩) 2 2)).run prog (W.alloc (.cells #[.int .u8 x, .int .u8 y] 5)) = .ok (.string (bs [UInt8.ofNat x.toNat, UInt8.ofNat y.toNat])) (W.alloc (.cells #[.int .u8 x, .int .u8 y] 5)) := by
 subst hg
 exact run_convert_bytes_arg _ 145 5 underlying145 underlying5 _ 0 2 2 [x, y] rfl (new_nums W _ _ [x, y]) 9 underlying9
theorem run_bea28 (W : World) : (Instr.build 42 #[(0, .int .i64 3), (3, .int .i64 5000)]).run prog W = .ok (.agg (evC ea28).toArray) W := by kernel_rfl
theorem run_beb28 (b : List UInt8) (W : World) : (Instr.build 42 #[(0, .int .i64 4), (3, .int .i64 5000), (4, .string (bs b))]).run prog W = .ok (.agg (evC ⟨4, Adr.zero, 0, 5000, b⟩).toArray) W := by kernel_rfl
theorem OusN.one {lo : Nat} {w : World} {v : Value} {o : Ou} (h : OusN lo w v [o]) : ∃ b off c, v = .slice (some ⟨b, off, none⟩) 1 c ∧ b < w.heap.size ∧ w.cell? ⟨b, off, none⟩ = some (.int .i64 o.kind) ∧ w.cell? ⟨b, off + 20, none⟩ = some (.string (bs o.data)) := by
 obtain ⟨A, c, rfl, hR, _⟩ := h
 obtain ⟨b, off, rfl, hb, hr⟩ := hR.2 (by simp)
 have h0 := hr 0 (by simp)
 have hip : o.to_.ip.length = 16 := hR.1 o (by simp)
 have e20 : (ouC o)[20]? = some (.string (bs o.data)) := ouC_at hip 1
 refine ⟨b, off, c, rfl, hb, ?_, ?_⟩
 ·
  have := h0 0 (.int .i64 o.kind) rfl; simpa using this
 ·
  have := h0 20 _ e20; simpa using this
set_option maxHeartbeats 4000000 in
theorem works28_any (w : World) : Calls prog 13 #[] w (RetB (.bool true) w) := by
 go_enter func13, ntmps13
 go_wp2_with fail
 refine (of25 _).mono ?_
 rintro _ w1 ⟨rfl, b1⟩
 have RB : Hid (∀ W : World, (Instr.build 37 #[(0, .agg sv25.cells.toArray), (1, .int .i64 5000), (2, .int .i64 7), (3, .agg #[.slice (some ⟨w1.heap.size, 0, none⟩) 1 1, .int .i64 1, .int .i64 1])]).run prog W = .ok (.agg (qyC (.slice (some ⟨w1.heap.size, 0, none⟩) 1 1) y28).toArray) W) := Hh (fun W => run_bqy y28 rfl (some ⟨w1.heap.size, 0, none⟩) 1 1 W)
 have YI := Hh (fun w' h => y28_is w' w1.heap.size h)
 have hQl : (qyC (.slice (some ⟨w1.heap.size, 0, none⟩) 1 1) y28).length = 23 := rfl
 have hQ1 := Hh (qyC_one (y := y28) (vn := .slice (some ⟨w1.heap.size, 0, none⟩) 1 1) rfl)
 have Q3 : Hid (((qyC (.slice (some ⟨w1.heap.size, 0, none⟩) 1 1) y28).drop 20).take 3 = [.slice (some ⟨w1.heap.size, 0, none⟩) 1 1, .int .i64 1, .int .i64 1]) := Hh (qyC_q rfl)
 generalize sv25.cells = sc at *
 generalize qyC (.slice (some ⟨w1.heap.size, 0, none⟩) 1 1) y28 = Q at *
 go_wp2_with (first
  | (refine at_op (.build 37 #[(0, .tmp 8), (1, .const (.int .i64 5000)), (2, .const (.int .i64 7)), (3, .tmp 10)]) rfl ?_; go_must (refine wpList_bld rfl 37 _ rfl #[(0, .agg sc.toArray), (1, .int .i64 5000), (2, .int .i64 7), (3, .agg #[.slice (some ⟨w1.heap.size, 0, none⟩) 1 1, .int .i64 1, .int .i64 1])] (by simp [Act.eval, Act.put]) (RB.out _) ?_))
  | (refine at_op (.store 37 (.tmp 1) (.tmp 11)) rfl ?_; go_must (refine wpList_stB rfl _ _ _ rfl (w1.heap.size + 1) 0 rfl Q rfl (Blk.new' _ _ qyZ _ (by simp)) (by have := qyZ_len; omega) (by rw [hQl]; exact qyInfo) hQ1.out ?_)))
 intro w2 B1 g2 sw2
 rw [List.drop_of_length_le (by have := qyZ_len; omega), List.append_nil] at B1
 have N2 : Blk w2 w1.heap.size 9 [.string ⟨#[97]⟩] := Blk.grown ((Blk.new' w1 9 [.string ⟨#[97]⟩] _ rfl).alloc _) g2 (by simp)
 have kk : ∀ o1 o2, Below w1.heap.size w1 ((w1.alloc o1).alloc o2) := fun o1 o2 => ((Below.refl _ _).alloc (Nat.le_refl _) _).alloc (by simp) _
 have H2 := below_grown (below_then b1 b1.size (kk _ _)) g2 (by have := b1.size; simp; omega) (by have := b1.size; omega)
 have hg0 : w.heap.size ≤ w1.heap.size := b1.size
 have hgny : w1.heap.size < w1.heap.size + 1 := by omega
 clear sw2 b1 g2 kk RB
 generalize w1.heap.size + 1 = gy at *
 generalize w1.heap.size = gn at *
 have DN := Hh (dnew_any Q y28 _ 1 w2 (YI.out w2 N2) (by decide))
 unfold DnRet at DN
 rw [new28] at DN
 go_wp2_with (refine at_op (.load 37 (.tmp 1)) rfl ?_; go_must (refine wpList_ldB rfl _ _ rfl gy 0 rfl B1 23 (by omega) _ underlying37 rfl qyInfo Q (tk0 (by omega)) ?_))
 refine DN.out.mono ?_
 rintro _ w3 ⟨g, v3, rfl, hD3, hO3, b3, hg3⟩
 have H3 := below_then H2 H2.size b3
 have B13 := B1.below b3 B1.lt
 have N3 := N2.below b3 N2.lt
 obtain ⟨oa, oo, oc, hv3, hoa, ha0, ha20⟩ := hO3.one
 subst hv3
 have hgd : gy < g := Nat.lt_of_lt_of_le B1.lt hg3
 have HO3 := Hh hO3
 have hgl3 := hD3.lt
 clear DN b3 H2 B1 N2 hO3 ha20
 have HA := Hh (hear_any g _ ea28 w3 hD3 rfl lena28)
 unfold DialRet at HA
 rw [heara28] at HA
 have EA := Hh (fun W => run_bea28 W)
 generalize hd1 : (hearD (newD y28).1 ea28).1 = d1 at *
 have HD1 := Hh hd1
 clear hd1 hD3
 generalize evC ea28 = E1 at *
 go_wp2_with (refine at_op (.build 42 #[(0, .const (.int .i64 3)), (3, .const (.int .i64 5000))]) rfl ?_; go_must (refine wpList_bld rfl 42 _ rfl #[(0, .int .i64 3), (3, .int .i64 5000)] (by simp [Act.eval, Act.put]) (EA.out _) ?_))
 refine HA.out.mono ?_
 rintro _ w4 ⟨v4, rfl, hO4, hD4, g4⟩
 have H4 : Below w.heap.size w w4 := below_grown H3 g4 H3.size (by omega)
 have B14 := B13.grown g4 (by simp; omega)
 have N4 := N3.grown g4 (by simp; omega)
 have hO34 := HO3.out.grown g4 (by omega)
 obtain ⟨pa, po, pc, hv4, hpa, hp0, hp20⟩ := hO4.one
 subst hv4
 have HO4 := Hh hO4
 have hw34 := g4.size
 clear HA g4 H3 B13 N3 HO3 hO4 hp0 EA hoa ha0
 have EN : Hid (∀ W gq, Blk W gn 9 [.string ⟨#[97]⟩] → Blk W gq 28 [.slice (some ⟨gn, 0, none⟩) 1 1, .int .i64 1, .int .i64 1] → Calls prog 72 #[.agg (msgC hd25 (.slice (some ⟨gq, 0, none⟩) 1 1) nilS nilS nilS).toArray, .bool true] W (RetB (.tuple #[.string (bs b25), .int .i64 0]) W)) := Hh (fun W gq h1 h2 => by
  have := refmencode_any _ m25 true _ _ _ _ _ _ _ _ W (m25_is W gn gq h1 h2) (by decide) (by decide)
  rwa [enc25] at this)
 go_wp2_with (refine at_op (.load 28 (.tmp 24)) rfl ?_; go_must (refine wpList_ldB rfl _ _ rfl gy 20 rfl B14 3 (by omega) _ underlying28 rfl qInfo _ Q3.out ?_))
 have kq : Below w4.heap.size w4 (w4.alloc (.cells #[.slice (some ⟨gn, 0, none⟩) 1 1, .int .i64 1, .int .i64 1] 28)) := (Below.refl _ _).alloc (Nat.le_refl _) _
 refine (EN.out _ w4.heap.size (N4.below kq N4.lt) (Blk.new w4 28 [.slice (some ⟨gn, 0, none⟩) 1 1, .int .i64 1, .int .i64 1])).mono ?_
 rintro _ w5 ⟨rfl, b5⟩
 have k5 := below_then kq kq.size b5
 have H5 := below_then H4 H4.size k5
 have hD5 := hD4.below k5
 have hO35 := hO34.below k5
 have hO45 := HO4.out.below k5
 clear EN kq b5 k5 H4 B14 N4 hD4 hO34 HO4 Q3 hp20 hpa
 have CV := conv_two w5 w5.heap.size 0 19 rfl
 have BE := Hh (fun W => run_beb28 ([0, 19] ++ b25) W)
 have k6 : Below w5.heap.size w5 (w5.alloc (.cells #[.int .u8 0, .int .u8 19] 5)) := (Below.refl _ _).alloc (Nat.le_refl _) _
 have hD6 := hD5.below k6
 rw [← HD1.out] at hD6
 have HB := Hh (hear_any g _ eb28 _ hD6 rfl lenb28)
 unfold DialRet at HB
 rw [hearb28.1] at HB
 have ST := Hh hearb28.2
 have hbl : b25.length = 19 := rfl
 have hbe : ([UInt8.ofNat (0 : Int).toNat, UInt8.ofNat (19 : Int).toNat] : List UInt8) = [0, 19] := rfl
 rw [hbe] at CV
 have H6 := below_then H5 H5.size k6
 have hO36 := hO35.below k6
 have hO46 := hO45.below k6
 replace BE : Hid (∀ W : World, (Instr.build 42 #[(0, .int .i64 4), (3, .int .i64 5000), (4, .string (bs ([0, 19] ++ b25)))]).run prog W = .ok (.agg (evC eb28).toArray) W) := BE
 generalize (hearD (hearD (newD y28).1 ea28).1 eb28).1 = d2 at *
 generalize evC eb28 = E2 at *
 clear hD5 hD6 hO35 hO45 H5 k6
 generalize b25 = bb at *
 go_wp2_with (refine at_op (.build 42 #[(0, .const (.int .i64 4)), (3, .const (.int .i64 5000)), (4, .tmp 38)]) rfl ?_; go_must (refine wpList_bld rfl 42 _ rfl #[(0, .int .i64 4), (3, .int .i64 5000), (4, .string (bs ([0, 19] ++ bb)))] (by simp [Act.eval, Act.put]) (BE.out _) ?_))
 refine HB.out.mono ?_
 rintro _ w7 ⟨v7, rfl, hO7, hD7, g7⟩
 have H7 : Below w.heap.size w w7 := below_grown H6 g7 H6.size (by omega)
 obtain ⟨qa, qo, qc, hv7, hqa, hq0, hq20⟩ := hO7.one
 subst hv7
 have hO37 := hO36.grown g7 (by omega)
 have hO47 := hO46.grown g7 (by omega)
 obtain ⟨_, _, _, e3, _, c30, _⟩ := hO37.one
 injection e3 with e3 _ _
 injection e3 with e3
 injection e3 with e31 e32
 subst e31 e32
 obtain ⟨_, _, _, e4, _, _, c420⟩ := hO47.one
 injection e4 with e4 _ _
 injection e4 with e4
 injection e4 with e41 e42
 subst e41 e42
 have SC := Hh (dstate_any g d2 w7 hD7)
 rw [ST.out] at SC
 have hol : oct28.length = 21 := rfl
 clear HB H6 g7 hO36 hO46 hO37 hO47 hO7 hD7 hq20 BE CV
 generalize oct28 = oo28 at *
 go_wp2_with fail
 refine SC.out.mono ?_
 rintro _ w8 ⟨rfl, rfl⟩
 go_wp2_with fail
 go_ret
 exact RetB.mk rfl H7
end Go.Proofs.YthnbcmlnpdabhaaGreat

/-
  Layer 9: addr.Parse, of a dotted quad; layer 47: numeral.
-/
import Derived.Test.YtkcbffldncmbcaaGreatDoorTEq
namespace Go.Proofs.YtkcbffldncmbcaaGreatDoor
open _root_.Go.Proofs.Tryz
open Go.RowKit
set_option maxRecDepth 100000
set_option linter.unusedVariables false
set_option linter.unusedSimpArgs false
theorem quadT_no (a b c d : Nat) : (58 : UInt8) ∉ quadT a b c d := by
 have h : ∀ n : Nat, (58 : UInt8) ∉ Lib.itoa (n : Int) := fun n => digs_no (itoa_val n).2 (by decide)
 unfold quadT
 simp only [List.mem_append, List.mem_cons, not_or]
 have e : ¬ (58 : UInt8) = 46 := by decide
 simp [h, e]
theorem addrParse4_any (a b c d : UInt8) (w : World) (hT : Tb w) : Calls prog 74 #[.string (bs (quadT a.toNat b.toNat c.toNat d.toNat))] w (RetB (.tuple #[.agg (quadA a b c d).cells.toArray, .int .i64 0]) w) := by
 have IX := Hh (fun V => Tryz.strings_IndexByte (bs (quadT a.toNat b.toNat c.toNat d.toNat)) 58 V)
 have e : Lib.indexByte (bs (quadT a.toNat b.toNat c.toNat d.toNat)).data.toList (58 : Int).toNat.toUInt8 = -1 := ixb_no (quadT_no _ _ _ _)
 rw [e] at IX
 have QP := Hh (fun V (hV : Below w.heap.size w V) => quadParse_any a b c d V (hT.below hV))
 have hql : (quadA a b c d).cells.length = 18 := rfl
 have hqo : ∀ v ∈ (quadA a b c d).cells, v.oneCell' = true := Adr.cells_one _
 generalize quadT a.toNat b.toNat c.toNat d.toNat = T at *
 generalize (quadA a b c d).cells = qc at *
 have Z2 := Blk.newA w _ rfl
 have BB : Below w.heap.size w (w.alloc (.cells adrZ.toArray 31)) := (Below.refl _ _).alloc (Nat.le_refl _) _
 clear e
 go_enter func74, ntmps74
 go_wp2_with fail
 refine (IX.out _).mono ?_
 rintro _ _ ⟨rfl, rfl⟩
 clear IX
 go_wp2_with fail
 refine (QP.out _ BB).mono ?_
 rintro _ w2 ⟨rfl, b1⟩
 have Y2 := Z2.below b1 Z2.lt
 have S2 := below_then BB BB.size b1
 clear QP Z2 BB b1
 go_wp2_with (refine at_op (.store 31 (.tmp 2) (.tmp 13)) rfl ?_; go_must (refine wpList_stB rfl _ _ _ rfl w.heap.size 0 rfl qc rfl Y2 (by rw [hql]; exact Nat.le_refl 18) (by rw [hql]; exact adrInfo) hqo ?_))
 intro w6 B6 g6 _
 have X6 := blkAll B6 (by have : adrZ.length = 18 := rfl; omega)
 have S6 := below_grown S2 g6 S2.size (Nat.le_refl _)
 clear B6 g6 Y2 S2
 go_wp2_with fail
 refine ret_cell_tmp rfl w.heap.size rfl X6 _ underlying31 rfl (by rw [hql]; exact adrInfo) rfl _ rfl ?_
 exact RetB.mk rfl S6
theorem numeral_any (ls : List (List UInt8)) (hls : ls.length ≤ 100) (f : Int) (hf : f = 0 ∨ f = 1) (k : Nat) (hk : k < ls.length) (s : List UInt8) (hs : ls[k] = s) (hno : ∀ j (h : j < ls.length), j < k → ls[j] ≠ s) (g : Nat) (w : World) (hg : Blk w g 9 (strs ls)) :
  Calls prog 56 #[.slice (some ⟨g, 0, none⟩) ls.length ls.length, .int .i64 f, .string (bs s)] w (Ret (.tuple #[.int .i64 (f + k), .bool true]) w) := by
 have CL := Hh (fun j (h : j < ls.length) => (show w.cell? ⟨g, j, none⟩ = some (.string (bs ls[j])) from hg.cell_ j (by simp [strs, h])))
 have HNO := Hh hno
 clear hno hg
 go_enter func56, ntmps56
 go_wp2_with fail
 go_loopw [14] (fun iv wr => ∃ j : Nat, j ≤ k ∧ iv = .int .i64 j ∧ wr = w) (fun iv _ => ls.length - (intOf iv).toNat)
 case atStart => exact ⟨0, Nat.zero_le _, rfl, rfl⟩
 obtain ⟨j, hj, rfl, hwr⟩ := hrel
 subst hwr
 have hjl : (j : Int) < ls.length := by omega
 have c1 := CL.out j (by omega)
 by_cases hjk : j = k
 case pos =>
  subst hjk
  rw [hs] at c1
  clear CL HNO hs
  generalize ls.length = N at *
  go_wp2_with fail
  go_ret2
  exact ⟨rfl, rfl⟩
 have hne := HNO.out j (by omega) (by omega)
 have e1 : (ls[j]'(by omega) == s) = false := by simpa using hne
 generalize ls[j]'(by omega) = t at *
 clear CL HNO hs
 generalize ls.length = N at *
 go_wp2_with fail
 go_roundw
 case rel => exact ⟨j + 1, by omega, by go_num, trivial⟩
 case measure => simp [intOf]; omega
set_option maxHeartbeats 4000000 in
theorem info_any (a b c d : UInt8) (port : Nat) (hp : port ≤ 65535) (k : Nat) (hk : k < kindL.length) (ba oa cap : Nat) (w : World) (hT : Tb w) (la : ba < w.heap.size)
    (c1 : w.cell? ⟨ba, oa + 1, none⟩ = some (.string (bs (quadT a.toNat b.toNat c.toNat d.toNat)))) (c2 : w.cell? ⟨ba, oa + 2, none⟩ = some (.string (bs (Lib.itoa (port : Int))))) (c3 : w.cell? ⟨ba, oa + 3, none⟩ = some (.string (bs kindL[k]))) :
    Calls prog 58 #[.slice (some ⟨ba, oa, none⟩) 4 cap] w (RetB (.tuple #[.agg (infC ⟨quadA a b c d, port, 1 + (k : Int)⟩).toArray, .bool true]) w) := by
  have AP := Hh (fun V (hV : Below w.heap.size w V) => addrParse4_any a b c d V (hT.below hV))
  obtain ⟨v1, v2⟩ := itoa_val port
  have v3 := itoa_pos port
  have v4 := itoa_len (port : Int) (by omega) (by omega)
  have NM := Hh (fun V => num_any (Lib.itoa (port : Int)) 65535 v3 (by omega) v2 (by decide) (by omega) V)
  rw [v1] at NM
  have KD := Hh (fun V => kinds_any V)
  have NU := Hh (fun g V hg => numeral_any kindL (by decide) 1 (.inr rfl) k hk kindL[k] rfl (by
    have h2 : k < 2 := hk
    match k, h2 with
    | 0, _ => intro j h hj; omega
    | 1, _ => intro j h hj; obtain rfl : j = 0 := by omega
              intro hc; simp [kindL] at hc) g V hg)
  have hql : (quadA a b c d).cells.length = 18 := rfl
  have hqo : ∀ v ∈ (quadA a b c d).cells, v.oneCell' = true := Adr.cells_one _
  have HIC : Hid (infC ⟨quadA a b c d, port, 1 + (k : Int)⟩ = (quadA a b c d).cells ++ [.int .i64 (port : Int), .int .i64 (1 + (k : Int))]) := Hh rfl
  have hio := infC_one ⟨quadA a b c d, port, 1 + (k : Int)⟩
  have hil : (infC ⟨quadA a b c d, port, 1 + (k : Int)⟩).length = 20 := rfl
  have HBD : Hid (∀ V, (Instr.build 53 #[(0, .agg (quadA a b c d).cells.toArray), (1, .int .i64 (port : Int)), (2, .int .i64 (1 + (k : Int)))]).run prog V = .ok (.agg (infC ⟨quadA a b c d, port, 1 + (k : Int)⟩).toArray) V) := Hh (fun V => by kernel_rfl)
  clear HIC
  generalize infC ⟨quadA a b c d, port, 1 + (k : Int)⟩ = ic at *
  generalize quadT a.toNat b.toNat c.toNat d.toNat = T at *
  generalize (quadA a b c d).cells = qc at *
  generalize Lib.itoa (port : Int) = tp at *
  generalize kindL[k] = tk at *
  have Z2 := Blk.new w 53 infZ
  have BB : Below w.heap.size w (w.alloc (.cells infZ.toArray 53)) := (Below.refl _ _).alloc (Nat.le_refl _) _
  have d1 := (BB.cell (p := ⟨ba, oa + 1, none⟩) la).trans c1
  clear v1 v2 v3 v4 hT hk
  go_enter func58, ntmps58
  go_wp2_with fail
  refine (AP.out _ BB).mono ?_
  rintro _ w2 ⟨rfl, b1⟩
  have Y2 := Z2.below b1 Z2.lt
  have S2 := below_then BB BB.size b1
  clear AP Z2 BB b1 d1
  have Z4 := Blk.newA w2 _ rfl
  have kn : Below w2.heap.size w2 (w2.alloc (.cells adrZ.toArray 31)) := (Below.refl _ _).alloc (Nat.le_refl _) _
  have Y2' := Y2.below kn Y2.lt
  have S2' := below_then S2 S2.size kn
  go_wp2_with (refine at_op (.store 31 (.tmp 4) (.tmp 15)) rfl ?_; go_must (refine wpList_stB rfl _ _ _ rfl w2.heap.size 0 rfl qc rfl Z4 (by rw [hql]; exact Nat.le_refl 18) (by rw [hql]; exact adrInfo) hqo ?_))
  intro w3 B3 g3 _
  have X4 := blkAll B3 (by have : adrZ.length = 18 := rfl; omega)
  have hw2 := Y2.lt
  have X2 : Blk w3 w.heap.size 53 infZ := Y2'.grown g3 (by intro e; injection e with e; omega)
  have S3 : Below w.heap.size w w3 := below_grown S2' g3 S2'.size (by omega)
  obtain ⟨g4, hg4⟩ : ∃ g4, Hid (w2.heap.size = g4) := ⟨_, Hh rfl⟩
  rw [hg4.out] at X4 ⊢
  have hg4w : w.heap.size < g4 := by have := hg4.out; omega
  clear B3 g3 Z4 kn Y2 Y2' S2 S2' hg4 hw2
  have d2 := (S3.cell (p := ⟨ba, oa + 2, none⟩) la).trans c2
  go_wp2_with fail
  refine (NM.out _).mono ?_
  rintro _ _ ⟨rfl, rfl⟩
  clear NM d2
  go_wp2_with fail
  refine wp_region_held_drew (S := fun V => Below w.heap.size w V ∧ Blk V w.heap.size 53 infZ ∧ Blk V g4 31 qc) (by kernel_rfl) ⟨S3.drew, X2, X4⟩ (fun hS => ?_)
  refine held_seq hS 3 [1,2,3] rfl (by kernel_rfl) (fun _ _ _ _ _ h => h) rfl rfl ?_
  (refine ⟨_, (.slice (some ⟨ba, oa, none⟩) 4 cap), rfl, .inl ⟨rfl, fun V hV => rfl⟩, ?_⟩; simp only [Act.put, lsA, lsB, lsC])
  (refine ⟨_, (.pointer (some ⟨ba, oa + 3, none⟩)), rfl, .inl ⟨rfl, fun V hV => (by go_simp)⟩, ?_⟩; simp only [Act.put, lsA, lsB, lsC])
  (refine ⟨_, _, rfl, .inl ⟨rfl, fun V hV => (exec_ld 9 (.tmp 27) ⟨ba, oa + 3, none⟩ rfl rfl (run_load1 underlying9 rfl ((hV.1.cell (p := ⟨ba, oa + 3, none⟩) la).trans c3)))⟩, ?_⟩; simp only [Act.put, lsA, lsB, lsC])
  simp only [SeqC]
  clear X2 X4 S3
  refine held_call 0 (some 25) 25 #[] (by kernel_rfl) rfl rfl (by kernel_rfl) (by go_simp) (KD.out _) ?_
  rintro _ V2 ⟨gk, rfl, hgk, _, b1⟩
  have hS2 : Below w.heap.size w V2 ∧ Blk V2 w.heap.size 53 infZ ∧ Blk V2 g4 31 qc := ⟨below_then hS.1 hS.1.size b1, hS.2.1.below b1 hS.2.1.lt, hS.2.2.below b1 hS.2.2.lt⟩
  clear hS b1 KD
  have hS := hS2
  clear hS2
  refine ⟨_, rfl, hS, ?_⟩
  simp only [Act.put, lsA, lsB, lsC]
  have NU1 := Hh (NU.out gk V2 hgk)
  refine held_call 4 (some 29) 56 #[.slice (some ⟨gk, 0, none⟩) kindL.length kindL.length, .int .i64 1, .string (bs tk)] (by kernel_rfl) rfl rfl (by kernel_rfl) (by go_simp) NU1.out ?_
  rintro _ V3 ⟨rfl, rfl⟩
  clear NU NU1 hgk
  refine ⟨_, rfl, hS, ?_⟩
  simp only [Act.put, lsA, lsB, lsC]
  refine held_seq hS 5 [5,6,7,8,9] rfl (by kernel_rfl) (fun _ _ _ _ _ h => h) rfl rfl ?_
  (refine ⟨_, (.tuple #[.int .i64 (1 + (k : Int)), .bool true]), rfl, .inl ⟨rfl, fun V hV => rfl⟩, ?_⟩; simp only [Act.put, lsA, lsB, lsC])
  (refine ⟨_, (.int .i64 (1 + (k : Int))), rfl, .inl ⟨rfl, fun V hV => (by go_simp)⟩, ?_⟩; simp only [Act.put, lsA, lsB, lsC])
  (refine ⟨_, (.bool true), rfl, .inl ⟨rfl, fun V hV => (by go_simp)⟩, ?_⟩; simp only [Act.put, lsA, lsB, lsC])
  (refine ⟨_, (.int .i64 (1 + (k : Int))), rfl, .inl ⟨rfl, fun V hV => rfl⟩, ?_⟩; simp only [Act.put, lsA, lsB, lsC])
  (refine ⟨_, (.bool true), rfl, .inl ⟨rfl, fun V hV => rfl⟩, ?_⟩; simp only [Act.put, lsA, lsB, lsC])
  simp only [SeqC]
  refine wpAnyH_done (by kernel_rfl) ?_ _
  obtain ⟨S4, X2, X4⟩ := hS
  have h20 : infZ.length = 20 := rfl
  go_wp2_with (first
    | (refine at_op (.load 31 (.tmp 4)) rfl ?_; go_must (refine wpList_ldB rfl _ _ rfl g4 0 rfl X4 18 (by omega) _ underlying31 rfl adrInfo qc (tk0 (by omega)) ?_))
    | (refine at_op (.build 53 #[(0, .tmp 32), (1, .tmp 33), (2, .tmp 34)]) rfl ?_; go_must (refine wpList_bld rfl 53 #[(0, .tmp 32), (1, .tmp 33), (2, .tmp 34)] rfl #[(0, .agg qc.toArray), (1, .int .i64 (port : Int)), (2, .int .i64 (1 + (k : Int)))] (by go_simp) (HBD.out _) ?_))
    | (refine at_op (.store 53 (.tmp 2) (.tmp 35)) rfl ?_; go_must (refine wpList_stB rfl _ _ _ rfl w.heap.size 0 rfl ic rfl X2 (by rw [hil, h20]; decide) (by rw [hil]; exact infInfo) hio ?_)))
  intro w6 B6 g6 _
  have X6 := blkAll B6 (by omega)
  have S6 := below_grown S4 g6 S4.size (Nat.le_refl _)
  clear B6 g6 X2 X4 S4
  go_wp2_with fail
  refine ret_cell_tmp rfl w.heap.size rfl X6 _ underlying53 rfl (by rw [hil]; exact infInfo) rfl _ rfl ?_
  exact RetB.mk rfl S6
end Go.Proofs.YtkcbffldncmbcaaGreatDoor

/-
  Layer 47, the reference: Text.
-/
import Derived.Test.YtkcbffldncmbcaaGreatDoorTy17q
namespace Go.Proofs.YtkcbffldncmbcaaGreatDoor
open _root_.Go.Proofs.Tryz
open Go.RowKit
set_option maxRecDepth 100000
set_option linter.unusedVariables false
set_option linter.unusedSimpArgs false
def FR (w : World) (rc : List Value) (V : World) : Prop := Blk V w.heap.size 25 rc ∧ Below w.heap.size w V
theorem FR.drew {w V : World} {rc : List Value} (h : FR w rc V) : FR w rc V.drew := ⟨h.1, h.2.drew⟩
theorem FR.below {w V V' : World} {rc : List Value} (h : FR w rc V) (k : Below V.heap.size V V') : FR w rc V' := ⟨h.1.below k h.1.lt, below_then h.2 h.2.size k⟩
set_option maxHeartbeats 8000000 in
theorem rtxt_any (R : Rz) (Ai Ar : Option Addr) (ci cr : Nat) (w : World) (hc : I64 R.code) (hI : LIn w 20 InfI Ai R.infos) (hIl : R.infos.length ≤ 100) (hR : RRsR w Ar R.recs) (hR4 : ∀ r ∈ R.recs, RRs4 r) (hRl : R.recs.length ≤ 60) (hs : R.canon.length ≤ 2000 ∧ R.host.length ≤ 2000 ∧ R.serv.length ≤ 2000) :
  Calls prog 8 #[.agg (rzC (.slice Ai R.infos.length ci) (.slice Ar R.recs.length cr) R).toArray] w (RetB (.string (bs (rzT R))) w) := by
 obtain ⟨code, infos, canon, host, serv, recs⟩ := R
 simp only at hc hI hIl hR hR4 hRl hs ⊢
 obtain ⟨rc, hrc⟩ : ∃ rc, Hid (rzC (.slice Ai infos.length ci) (.slice Ar recs.length cr) ⟨code, infos, canon, host, serv, recs⟩ = rc) := ⟨_, Hh rfl⟩
 have hrl : rc.length = 6 := by rw [← hrc.out]; rfl
 have HL0 : Hid (rc[0]? = some (.int .i64 code)) := Hh (by rw [← hrc.out]; rfl)
 have HL1 : Hid (rc[1]? = some (.slice Ai infos.length ci)) := Hh (by rw [← hrc.out]; rfl)
 have HL2 : Hid (rc[2]? = some (.string (bs canon))) := Hh (by rw [← hrc.out]; rfl)
 have HL3 : Hid (rc[3]? = some (.string (bs host))) := Hh (by rw [← hrc.out]; rfl)
 have HL4 : Hid (rc[4]? = some (.string (bs serv))) := Hh (by rw [← hrc.out]; rfl)
 have HL5 : Hid (rc[5]? = some (.slice Ar recs.length cr)) := Hh (by rw [← hrc.out]; rfl)
 rw [hrc.out]
 clear hrc
 have HII := Hh hI
 have HRR := Hh hR
 have HR4 := Hh hR4
 have CC := Hh (fun V => code_any code hc.1 hc.2 V)
 have TC := Hh (fun V => rtext_any [99, 97, 110, 111, 110] canon (by decide) (by omega) V)
 have TH := Hh (fun V => rtext_any [104, 111, 115, 116] host (by decide) (by omega) V)
 have TS := Hh (fun V => rtext_any [115, 101, 114, 118, 105, 99, 101] serv (by decide) (by omega) V)
 have lw := wordT_len codeL codeL_10 0 code hc
 have lc := lineQ_len [99, 97, 110, 111, 110] canon (by decide)
 have lh := lineQ_len [104, 111, 115, 116] host (by decide)
 have ls := lineQ_len [115, 101, 114, 118, 105, 99, 101] serv (by decide)
 have HRZ : Hid (rzT ⟨code, infos, canon, host, serv, recs⟩ = [99, 111, 100, 101, 32] ++ wordT codeL 0 code ++ [10] ++ lineQ [99, 97, 110, 111, 110] canon ++ lineQ [104, 111, 115, 116] host ++ lineQ [115, 101, 114, 118, 105, 99, 101] serv ++ infos.flatMap infT ++ recs.flatMap rrT) := Hh rfl
 obtain ⟨RT, hRT⟩ : ∃ RT, Hid (rzT ⟨code, infos, canon, host, serv, recs⟩ = RT) := ⟨_, Hh rfl⟩
 rw [hRT.out] at HRZ
 rw [hRT.out]
 generalize wordT codeL 0 code = wt at *
 generalize lineQ [99, 97, 110, 111, 110] canon = qc at *
 generalize lineQ [104, 111, 115, 116] host = qh at *
 generalize lineQ [115, 101, 114, 118, 105, 99, 101] serv = qs at *
 clear hI hR hR4 hc hRT
 have X0 := Blk.new w 25 rc
 have B0 : Below w.heap.size w (w.alloc (.cells rc.toArray 25)) := (Below.refl _ _).alloc (Nat.le_refl _) _
 go_enter func8, ntmps8
 go_wp2_with fail
 have F0 : FR w rc (w.alloc (.cells rc.toArray 25)) := ⟨X0, B0⟩
 obtain ⟨W, hW⟩ : ∃ W, Hid (w.alloc (.cells rc.toArray 25) = W) := ⟨_, Hh rfl⟩
 rw [hW.out] at F0 ⊢
 clear hW X0 B0
 refine wp_region_held_drew (S := FR w rc) (by kernel_rfl) F0.drew (fun hS => ?_)
 refine held_seq hS 8 [0,1,5,6,9,10,13,14] rfl (by kernel_rfl) (fun _ _ _ _ _ h => h) rfl rfl ?_
 (refine ⟨_, (.pointer (some ⟨w.heap.size, 0, none⟩)), rfl, .inl ⟨rfl, fun V hV => rfl⟩, ?_⟩; simp only [Act.put, lsA, lsB, lsC])
 (refine ⟨_, _, rfl, .inl ⟨rfl, fun V hV => (exec_ld 3 (.tmp 8) ⟨w.heap.size, 0, none⟩ rfl rfl (run_load1 underlying3 rfl (hV.1.cell_ 0 HL0.out)))⟩, ?_⟩; simp only [Act.put, lsA, lsB, lsC])
 (refine ⟨_, (.pointer (some ⟨w.heap.size, 2, none⟩)), rfl, .inl ⟨rfl, fun V hV => rfl⟩, ?_⟩; simp only [Act.put, lsA, lsB, lsC])
 (refine ⟨_, _, rfl, .inl ⟨rfl, fun V hV => (exec_ld 9 (.tmp 13) ⟨w.heap.size, 2, none⟩ rfl rfl (run_load1 underlying9 rfl (hV.1.cell_ 2 HL2.out)))⟩, ?_⟩; simp only [Act.put, lsA, lsB, lsC])
 (refine ⟨_, (.pointer (some ⟨w.heap.size, 3, none⟩)), rfl, .inl ⟨rfl, fun V hV => rfl⟩, ?_⟩; simp only [Act.put, lsA, lsB, lsC])
 (refine ⟨_, _, rfl, .inl ⟨rfl, fun V hV => (exec_ld 9 (.tmp 17) ⟨w.heap.size, 3, none⟩ rfl rfl (run_load1 underlying9 rfl (hV.1.cell_ 3 HL3.out)))⟩, ?_⟩; simp only [Act.put, lsA, lsB, lsC])
 (refine ⟨_, (.pointer (some ⟨w.heap.size, 4, none⟩)), rfl, .inl ⟨rfl, fun V hV => rfl⟩, ?_⟩; simp only [Act.put, lsA, lsB, lsC])
 (refine ⟨_, _, rfl, .inl ⟨rfl, fun V hV => (exec_ld 9 (.tmp 21) ⟨w.heap.size, 4, none⟩ rfl rfl (run_load1 underlying9 rfl (hV.1.cell_ 4 HL4.out)))⟩, ?_⟩; simp only [Act.put, lsA, lsB, lsC])
 simp only [SeqC]
 clear HL0 HL2 HL3 HL4
 refine held_call 2 (some 10) 28 #[.int .i64 code] (by kernel_rfl) rfl rfl (by kernel_rfl) (by go_simp) (CC.out _) ?_
 rintro _ V ⟨rfl, b1⟩
 have hS2 : FR w rc V := hS.below b1
 clear hS b1
 have hS := hS2
 clear hS2
 refine ⟨_, rfl, hS, ?_⟩
 simp only [Act.put, lsA, lsB, lsC]
 refine held_seq hS 2 [3,4] rfl (by kernel_rfl) (fun _ _ _ _ _ h => h) rfl rfl ?_
 (refine ⟨_, (.string (bs ([99, 111, 100, 101, 32] ++ wt))), rfl, .inl ⟨rfl, fun V hV => (by go_simp; omega)⟩, ?_⟩; simp only [Act.put, lsA, lsB, lsC])
 (refine ⟨_, (.string (bs ([99, 111, 100, 101, 32] ++ wt ++ [10]))), rfl, .inl ⟨rfl, fun V hV => (by go_simp; omega)⟩, ?_⟩; simp only [Act.put, lsA, lsB, lsC])
 simp only [SeqC]
 refine held_call 7 (some 15) 29 #[.string (bs [99, 97, 110, 111, 110]), .string (bs canon)] (by kernel_rfl) rfl rfl (by kernel_rfl) (by go_simp; rfl) (TC.out _) ?_
 rintro _ _ ⟨rfl, rfl⟩
 refine ⟨_, rfl, hS, ?_⟩
 simp only [Act.put, lsA, lsB, lsC]
 refine held_seq hS 1 [8] rfl (by kernel_rfl) (fun _ _ _ _ _ h => h) rfl rfl ?_
 (refine ⟨_, (.string (bs ([99, 111, 100, 101, 32] ++ wt ++ [10] ++ qc))), rfl, .inl ⟨rfl, fun V hV => (by go_simp; omega)⟩, ?_⟩; simp only [Act.put, lsA, lsB, lsC])
 simp only [SeqC]
 refine held_call 11 (some 19) 29 #[.string (bs [104, 111, 115, 116]), .string (bs host)] (by kernel_rfl) rfl rfl (by kernel_rfl) (by go_simp; rfl) (TH.out _) ?_
 rintro _ _ ⟨rfl, rfl⟩
 refine ⟨_, rfl, hS, ?_⟩
 simp only [Act.put, lsA, lsB, lsC]
 refine held_seq hS 1 [12] rfl (by kernel_rfl) (fun _ _ _ _ _ h => h) rfl rfl ?_
 (refine ⟨_, (.string (bs ([99, 111, 100, 101, 32] ++ wt ++ [10] ++ qc ++ qh))), rfl, .inl ⟨rfl, fun V hV => (by go_simp; omega)⟩, ?_⟩; simp only [Act.put, lsA, lsB, lsC])
 simp only [SeqC]
 refine held_call 15 (some 23) 29 #[.string (bs [115, 101, 114, 118, 105, 99, 101]), .string (bs serv)] (by kernel_rfl) rfl rfl (by kernel_rfl) (by go_simp; rfl) (TS.out _) ?_
 rintro _ _ ⟨rfl, rfl⟩
 refine ⟨_, rfl, hS, ?_⟩
 simp only [Act.put, lsA, lsB, lsC]
 refine held_seq hS 2 [16,17] rfl (by kernel_rfl) (fun _ _ _ _ _ h => h) rfl rfl ?_
 (refine ⟨_, (.string (bs ([99, 111, 100, 101, 32] ++ wt ++ [10] ++ qc ++ qh ++ qs))), rfl, .inl ⟨rfl, fun V hV => (by go_simp; omega)⟩, ?_⟩; simp only [Act.put, lsA, lsB, lsC])
 (refine ⟨_, (.string (bs ([99, 111, 100, 101, 32] ++ wt ++ [10] ++ qc ++ qh ++ qs))), rfl, .inl ⟨rfl, fun V hV => rfl⟩, ?_⟩; simp only [Act.put, lsA, lsB, lsC])
 simp only [SeqC]
 refine wpAnyH_done (by kernel_rfl) ?_ _
 have hQl : ([99, 111, 100, 101, 32] ++ wt ++ [10] ++ qc ++ qh ++ qs).length ≤ 30000 := by
  simp only [List.length_append, List.length_cons, List.length_nil]; omega
 clear CC TC TH TS lw lc lh ls
 generalize [99, 111, 100, 101, 32] ++ wt = y1 at *
 generalize y1 ++ [10] = y2 at *
 generalize y2 ++ qc = y3 at *
 generalize y3 ++ qh = y4 at *
 generalize y4 ++ qs = Q3 at *
 have IL : Hid (∀ k, ((infos.take k).flatMap infT).length ≤ 1000 * infos.length) := Hh (fun k => fm_take infT 1000 infos (infs_len HII.out) k)
 have RL : Hid (∀ k, ((recs.take k).flatMap rrT).length ≤ 10000 * recs.length) := Hh (fun k => fm_take rrT 10000 recs (fun r hr => rrT_len (HR4.out r hr)) k)
 clear hs F0
 go_wp2_with fail
 go_loopw [3, 4] (fun sv iv wr => ∃ k : Nat, k ≤ infos.length ∧ iv = .int .i64 k ∧ sv = .string (bs (Q3 ++ (infos.take k).flatMap infT)) ∧ FR w rc wr) (fun _ iv _ => infos.length - (intOf iv).toNat)
 case atStart => exact ⟨0, Nat.zero_le _, rfl, by simp, hS⟩
 clear hS
 obtain ⟨k, hk, rfl, rfl, S⟩ := hrel
 have hql : (Q3 ++ (infos.take k).flatMap infT).length ≤ 200000 := by
  have := IL.out k
  rw [List.length_append]; omega
 by_cases hlt : k < infos.length
 case pos =>
  have hlt' : (k : Int) < infos.length := by omega
  obtain ⟨ba, oa, hAi, la, xa⟩ := HII.out (by omega)
  subst hAi
  obtain ⟨cs, hcs, hci⟩ := xa k hlt
  have hcs1 := range_below hcs S.2 la
  have HX : Hid (Q3 ++ (infos.take (k + 1)).flatMap infT = Q3 ++ (infos.take k).flatMap infT ++ infT infos[k]) := Hh (by rw [fm_next infT hlt, ← List.append_assoc])
  generalize infos[k] = x at *
  generalize Q3 ++ (infos.take k).flatMap infT = P at *
  have hcl : cs.length = 20 := by rw [hci.1]; exact infC_len hci.2.1
  have hone : ∀ v ∈ cs, v.oneCell' = true := by rw [hci.1]; exact infC_one x
  clear xa hcs HRZ IL RL
  have Zq := Blk.new wr 53 infZ
  have d1 := S.1.cell_ 1 HL1.out
  have kn0 : Below wr.heap.size wr (wr.alloc (.cells infZ.toArray 53)) := (Below.refl _ _).alloc (Nat.le_refl _) _
  go_wp2_with (first
   | (refine at_op (.load 53 (.tmp 35)) rfl ?_; go_must (refine wpList_ldR rfl 53 (.tmp 35) rfl ba (oa + k * 20) rfl cs hcs1 _ underlying53 rfl (by rw [hcl]; exact infInfo) ?_))
   | (refine at_op (.store 53 (.tmp 5) (.tmp 36)) rfl ?_; go_must (refine wpList_stB rfl _ _ _ rfl wr.heap.size 0 rfl cs rfl Zq (by rw [hcl]; decide) (by rw [hcl]; exact infInfo) hone ?_)))
  intro w1 B1 g1 sw
  clear sw
  have hzl : infZ.length = 20 := rfl
  have X1 := blkAll B1 (by omega)
  have kn : Below wr.heap.size wr w1 := below_grown kn0 g1 (by simp) (Nat.le_refl _)
  have S1 := S.below kn
  have L0 : (cs.drop 0).take 18 = x.a.cells := by rw [hci.1]; exact infC_ad hci.2.1
  have L18 : cs[18]? = some (.int .i64 x.port) := by rw [hci.1]; exact infC_18 hci.2.1
  have L19 : cs[19]? = some (.int .i64 x.sock) := by rw [hci.1]; exact infC_19 hci.2.1
  have l1 := adrT_len x.a hci.2.2.1
  have l2 := itoa_len x.port hci.2.2.2.1.1 hci.2.2.2.1.2
  have l3 := wordT_len kindL kindL_10 1 x.sock hci.2.2.2.2
  have AT := Hh (fun V => ref09Text_any x.a hci.2.1 hci.2.2.1.2 V)
  have DG := Hh (fun V => rdigZ_any x.port hci.2.2.2.1.1 hci.2.2.2.1.2 V)
  have SK := Hh (fun V => socket_any x.sock hci.2.2.2.2.1 hci.2.2.2.2.2 V)
  have HI : Hid (infT x = [97, 100, 100, 114, 32] ++ adrT x.a ++ [32] ++ Lib.itoa x.port ++ [32] ++ wordT kindL 1 x.sock ++ [10]) := Hh (by simp [infT, infL, joinC])
  generalize adrT x.a = ta at *
  generalize Lib.itoa x.port = tp at *
  generalize wordT kindL 1 x.sock = tk at *
  generalize infT x = ti at *
  obtain ⟨gq, hgq⟩ : ∃ gq, Hid (wr.heap.size = gq) := ⟨_, Hh rfl⟩
  rw [hgq.out] at X1 ⊢
  clear B1 g1 Zq kn S hcs1 hci hone hgq d1 kn0
  go_wp2_with fail
  refine wp_region_held_drew (S := fun V => FR w rc V ∧ Blk V gq 53 cs) (by kernel_rfl) ⟨S1.drew, X1⟩ (fun hS => ?_)
  refine held_seq hS 8 [0,1,2,3,7,8,12,13] rfl (by kernel_rfl) (fun _ _ _ _ _ h => h) rfl rfl ?_
  (refine ⟨_, (.string (bs P)), rfl, .inl ⟨rfl, fun V hV => rfl⟩, ?_⟩; simp only [Act.put, lsA, lsB, lsC])
  (refine ⟨_, (.string (bs (P ++ [97, 100, 100, 114, 32]))), rfl, .inl ⟨rfl, fun V hV => (by go_simp; omega)⟩, ?_⟩; simp only [Act.put, lsA, lsB, lsC])
  (refine ⟨_, (.pointer (some ⟨gq, 0, none⟩)), rfl, .inl ⟨rfl, fun V hV => rfl⟩, ?_⟩; simp only [Act.put, lsA, lsB, lsC])
  (refine ⟨_, _, rfl, .inl ⟨rfl, fun V hV => (exec_ld 31 (.tmp 39) ⟨gq, 0, none⟩ rfl rfl (hV.2.loads 31 0 18 (by omega) _ underlying31 rfl adrInfo x.a.cells L0))⟩, ?_⟩; simp only [Act.put, lsA, lsB, lsC])
  (refine ⟨_, (.pointer (some ⟨gq, 18, none⟩)), rfl, .inl ⟨rfl, fun V hV => rfl⟩, ?_⟩; simp only [Act.put, lsA, lsB, lsC])
  (refine ⟨_, _, rfl, .inl ⟨rfl, fun V hV => (exec_ld 3 (.tmp 44) ⟨gq, 18, none⟩ rfl rfl (run_load1 underlying3 rfl (hV.2.cell_ 18 L18)))⟩, ?_⟩; simp only [Act.put, lsA, lsB, lsC])
  (refine ⟨_, (.pointer (some ⟨gq, 19, none⟩)), rfl, .inl ⟨rfl, fun V hV => rfl⟩, ?_⟩; simp only [Act.put, lsA, lsB, lsC])
  (refine ⟨_, _, rfl, .inl ⟨rfl, fun V hV => (exec_ld 3 (.tmp 49) ⟨gq, 19, none⟩ rfl rfl (run_load1 underlying3 rfl (hV.2.cell_ 19 L19)))⟩, ?_⟩; simp only [Act.put, lsA, lsB, lsC])
  simp only [SeqC]
  clear L0 L18 L19 X1 S1
  refine held_call 4 (some 41) 30 #[.agg x.a.cells.toArray] (by kernel_rfl) rfl rfl (by kernel_rfl) (by go_simp) (AT.out _) ?_
  rintro _ V ⟨rfl, b1⟩
  have hS2 : FR w rc V ∧ Blk V gq 53 cs := ⟨hS.1.below b1, hS.2.below b1 hS.2.lt⟩
  clear hS b1
  have hS := hS2
  clear hS2
  refine ⟨_, rfl, hS, ?_⟩
  simp only [Act.put, lsA, lsB, lsC]
  refine held_seq hS 2 [5,6] rfl (by kernel_rfl) (fun _ _ _ _ _ h => h) rfl rfl ?_
  (refine ⟨_, (.string (bs (P ++ [97, 100, 100, 114, 32] ++ ta))), rfl, .inl ⟨rfl, fun V hV => (by go_simp; omega)⟩, ?_⟩; simp only [Act.put, lsA, lsB, lsC])
  (refine ⟨_, (.string (bs (P ++ [97, 100, 100, 114, 32] ++ ta ++ [32]))), rfl, .inl ⟨rfl, fun V hV => (by go_simp; omega)⟩, ?_⟩; simp only [Act.put, lsA, lsB, lsC])
  simp only [SeqC]
  refine held_call 9 (some 46) 31 #[.int .i64 x.port] (by kernel_rfl) rfl rfl (by kernel_rfl) (by go_simp) (DG.out _) ?_
  rintro _ _ ⟨rfl, rfl⟩
  refine ⟨_, rfl, hS, ?_⟩
  simp only [Act.put, lsA, lsB, lsC]
  refine held_seq hS 2 [10,11] rfl (by kernel_rfl) (fun _ _ _ _ _ h => h) rfl rfl ?_
  (refine ⟨_, (.string (bs (P ++ [97, 100, 100, 114, 32] ++ ta ++ [32] ++ tp))), rfl, .inl ⟨rfl, fun V hV => (by go_simp; omega)⟩, ?_⟩; simp only [Act.put, lsA, lsB, lsC])
  (refine ⟨_, (.string (bs (P ++ [97, 100, 100, 114, 32] ++ ta ++ [32] ++ tp ++ [32]))), rfl, .inl ⟨rfl, fun V hV => (by go_simp; omega)⟩, ?_⟩; simp only [Act.put, lsA, lsB, lsC])
  simp only [SeqC]
  refine held_call 14 (some 51) 32 #[.int .i64 x.sock] (by kernel_rfl) rfl rfl (by kernel_rfl) (by go_simp) (SK.out _) ?_
  rintro _ _ ⟨rfl, rfl⟩
  refine ⟨_, rfl, hS, ?_⟩
  simp only [Act.put, lsA, lsB, lsC]
  refine held_seq hS 3 [15,16,17] rfl (by kernel_rfl) (fun _ _ _ _ _ h => h) rfl rfl ?_
  (refine ⟨_, (.string (bs (P ++ [97, 100, 100, 114, 32] ++ ta ++ [32] ++ tp ++ [32] ++ tk))), rfl, .inl ⟨rfl, fun V hV => (by go_simp; omega)⟩, ?_⟩; simp only [Act.put, lsA, lsB, lsC])
  (refine ⟨_, (.string (bs (P ++ [97, 100, 100, 114, 32] ++ ta ++ [32] ++ tp ++ [32] ++ tk ++ [10]))), rfl, .inl ⟨rfl, fun V hV => (by go_simp; omega)⟩, ?_⟩; simp only [Act.put, lsA, lsB, lsC])
  (refine ⟨_, (.string (bs (P ++ [97, 100, 100, 114, 32] ++ ta ++ [32] ++ tp ++ [32] ++ tk ++ [10]))), rfl, .inl ⟨rfl, fun V hV => rfl⟩, ?_⟩; simp only [Act.put, lsA, lsB, lsC])
  simp only [SeqC]
  refine wpAnyH_done (by kernel_rfl) ?_ _
  have S7 := hS.1
  have HX2 := Hh (HX.out.trans (by rw [HI.out]))
  clear hS AT DG SK HX HI
  go_wp2_with fail
  go_roundw
  case rel => exact ⟨k + 1, by omega, by go_num, by rw [HX2.out]; simp, S7⟩
  case measure => simp [intOf]; omega
 obtain rfl : k = infos.length := by omega
 have hlt' : ¬ (infos.length : Int) < infos.length := by omega
 rw [List.take_of_length_le (Nat.le_refl _)] at hql ⊢
 generalize Q3 ++ infos.flatMap infT = Q4 at *
 have d1 := S.1.cell_ 1 HL1.out
 clear IL HII hlt
 go_wp2_with fail
 clear d1
 go_loopw [3, 6] (fun sv iv wr => ∃ k : Nat, k ≤ recs.length ∧ iv = .int .i64 k ∧ sv = .string (bs (Q4 ++ (recs.take k).flatMap rrT)) ∧ FR w rc wr) (fun _ iv _ => recs.length - (intOf iv).toNat)
 case atStart => exact ⟨0, Nat.zero_le _, rfl, by simp, S⟩
 clear S HL1
 obtain ⟨k, hk, rfl, rfl, S⟩ := hrel
 have hql2 : (Q4 ++ (recs.take k).flatMap rrT).length ≤ 900000 := by
  have := RL.out k
  rw [List.length_append]; omega
 have d5 := S.1.cell_ 5 HL5.out
 by_cases hlt : k < recs.length
 case pos =>
  have hlt' : (k : Int) < recs.length := by omega
  obtain ⟨ba, oa, hAi, la, xa⟩ := HRR.out (by omega)
  subst hAi
  obtain ⟨cs, hcs, hci⟩ := xa k hlt
  have hcs1 := range_below hcs S.2 la
  have HX : Hid (Q4 ++ (recs.take (k + 1)).flatMap rrT = Q4 ++ (recs.take k).flatMap rrT ++ rrT recs[k]) := Hh (by rw [fm_next rrT hlt, ← List.append_assoc])
  have h4 := HR4.out recs[k] (List.getElem_mem hlt)
  generalize recs[k] = x at *
  generalize Q4 ++ (recs.take k).flatMap rrT = P at *
  have hcl : cs.length = 33 := hci.len
  have hone : ∀ v ∈ cs, v.oneCell' = true := hci.one
  clear xa hcs HRZ RL hql
  have Zq := Blk.new wr 45 rrZ
  have kn0 : Below wr.heap.size wr (wr.alloc (.cells rrZ.toArray 45)) := (Below.refl _ _).alloc (Nat.le_refl _) _
  go_wp2_with (first
   | (refine at_op (.load 45 (.tmp 64)) rfl ?_; go_must (refine wpList_ldR rfl 45 (.tmp 64) rfl ba (oa + k * 33) rfl cs hcs1 _ underlying45 rfl (by rw [hcl]; exact rrInfo) ?_))
   | (refine at_op (.store 45 (.tmp 7) (.tmp 65)) rfl ?_; go_must (refine wpList_stB rfl _ _ _ rfl wr.heap.size 0 rfl cs rfl Zq (by rw [hcl]; decide) (by rw [hcl]; exact rrInfo) hone ?_)))
  intro w1 B1 g1 sw
  clear sw
  have hzl : rrZ.length = 33 := rfl
  have X1 := blkAll B1 (by omega)
  have kn : Below wr.heap.size wr w1 := below_grown kn0 g1 (by simp) (Nat.le_refl _)
  have S1 := S.below kn
  obtain ⟨An, cn, At, ct, Am, cm, hce, hwf, hN, hTg, _, _⟩ := hci
  have L0 : cs[0]? = some (.slice An x.name.length cn) := by rw [hce]; rfl
  have L3 : cs[3]? = some (.int .i64 x.ttl) := by rw [hce]; rfl
  have L22 : cs[22]? = some (.slice At x.tg.length ct) := by rw [hce]; exact rrC_22 hwf
  have L24 : cs[24]? = some (.int .i64 x.pri) := by rw [hce]; exact rrC_24 hwf
  have L25 : cs[25]? = some (.int .i64 x.we) := by rw [hce]; exact rrC_25 hwf
  have L26 : cs[26]? = some (.int .i64 x.po) := by rw [hce]; exact rrC_26 hwf
  obtain ⟨⟨i1, i2, i3, i4⟩, j1, j2⟩ := h4
  have N1 := Hh (fun V (hV : Below w.heap.size w V) => rdomText_any An cn x.name V (hN.below hV) j1)
  have N2 := Hh (fun V (hV : Below w.heap.size w V) => rdomText_any At ct x.tg V (hTg.below hV) j2)
  have D1 := Hh (fun V => rdigZ_any x.ttl i1.1 i1.2 V)
  have D2 := Hh (fun V => rdigZ_any x.pri i2.1 i2.2 V)
  have D3 := Hh (fun V => rdigZ_any x.we i3.1 i3.2 V)
  have D4 := Hh (fun V => rdigZ_any x.po i4.1 i4.2 V)
  have l1 := nameT_len x.name j1
  have l2 := itoa_len x.ttl i1.1 i1.2
  have l3 := itoa_len x.pri i2.1 i2.2
  have l4 := itoa_len x.we i3.1 i3.2
  have l5 := itoa_len x.po i4.1 i4.2
  have l6 := nameT_len x.tg j2
  have HI : Hid (rrT x = [116, 97, 114, 103, 101, 116, 32] ++ nameT x.name ++ [32] ++ Lib.itoa x.ttl ++ [32] ++ Lib.itoa x.pri ++ [32] ++ Lib.itoa x.we ++ [32] ++ Lib.itoa x.po ++ [32] ++ nameT x.tg ++ [10]) := Hh (by simp [rrT, rrL, joinC])
  generalize nameT x.name = t1 at *
  generalize Lib.itoa x.ttl = t2 at *
  generalize Lib.itoa x.pri = t3 at *
  generalize Lib.itoa x.we = t4 at *
  generalize Lib.itoa x.po = t5 at *
  generalize nameT x.tg = t6 at *
  generalize rrT x = ti at *
  obtain ⟨gq, hgq⟩ : ∃ gq, Hid (wr.heap.size = gq) := ⟨_, Hh rfl⟩
  rw [hgq.out] at X1 ⊢
  clear B1 g1 Zq kn S hcs1 hce hwf hN hTg i1 i2 i3 i4 j1 j2 hone hgq d5 kn0
  go_wp2_with fail
  refine wp_region_held_drew (S := fun V => FR w rc V ∧ Blk V gq 45 cs) (by kernel_rfl) ⟨S1.drew, X1⟩ (fun hS => ?_)
  refine held_seq hS 14 [0,1,2,3,7,8,12,13,17,18,22,23,27,28] rfl (by kernel_rfl) (fun _ _ _ _ _ h => h) rfl rfl ?_
  (refine ⟨_, (.string (bs P)), rfl, .inl ⟨rfl, fun V hV => rfl⟩, ?_⟩; simp only [Act.put, lsA, lsB, lsC])
  (refine ⟨_, (.string (bs (P ++ [116, 97, 114, 103, 101, 116, 32]))), rfl, .inl ⟨rfl, fun V hV => (by go_simp; omega)⟩, ?_⟩; simp only [Act.put, lsA, lsB, lsC])
  (refine ⟨_, (.pointer (some ⟨gq, 0, none⟩)), rfl, .inl ⟨rfl, fun V hV => rfl⟩, ?_⟩; simp only [Act.put, lsA, lsB, lsC])
  (refine ⟨_, _, rfl, .inl ⟨rfl, fun V hV => (exec_ld 42 (.tmp 68) ⟨gq, 0, none⟩ rfl rfl (run_load1 underlying42 rfl (hV.2.cell_ 0 L0)))⟩, ?_⟩; simp only [Act.put, lsA, lsB, lsC])
  (refine ⟨_, (.pointer (some ⟨gq, 3, none⟩)), rfl, .inl ⟨rfl, fun V hV => rfl⟩, ?_⟩; simp only [Act.put, lsA, lsB, lsC])
  (refine ⟨_, _, rfl, .inl ⟨rfl, fun V hV => (exec_ld 3 (.tmp 73) ⟨gq, 3, none⟩ rfl rfl (run_load1 underlying3 rfl (hV.2.cell_ 3 L3)))⟩, ?_⟩; simp only [Act.put, lsA, lsB, lsC])
  (refine ⟨_, (.pointer (some ⟨gq, 24, none⟩)), rfl, .inl ⟨rfl, fun V hV => rfl⟩, ?_⟩; simp only [Act.put, lsA, lsB, lsC])
  (refine ⟨_, _, rfl, .inl ⟨rfl, fun V hV => (exec_ld 3 (.tmp 78) ⟨gq, 24, none⟩ rfl rfl (run_load1 underlying3 rfl (hV.2.cell_ 24 L24)))⟩, ?_⟩; simp only [Act.put, lsA, lsB, lsC])
  (refine ⟨_, (.pointer (some ⟨gq, 25, none⟩)), rfl, .inl ⟨rfl, fun V hV => rfl⟩, ?_⟩; simp only [Act.put, lsA, lsB, lsC])
  (refine ⟨_, _, rfl, .inl ⟨rfl, fun V hV => (exec_ld 3 (.tmp 83) ⟨gq, 25, none⟩ rfl rfl (run_load1 underlying3 rfl (hV.2.cell_ 25 L25)))⟩, ?_⟩; simp only [Act.put, lsA, lsB, lsC])
  (refine ⟨_, (.pointer (some ⟨gq, 26, none⟩)), rfl, .inl ⟨rfl, fun V hV => rfl⟩, ?_⟩; simp only [Act.put, lsA, lsB, lsC])
  (refine ⟨_, _, rfl, .inl ⟨rfl, fun V hV => (exec_ld 3 (.tmp 88) ⟨gq, 26, none⟩ rfl rfl (run_load1 underlying3 rfl (hV.2.cell_ 26 L26)))⟩, ?_⟩; simp only [Act.put, lsA, lsB, lsC])
  (refine ⟨_, (.pointer (some ⟨gq, 22, none⟩)), rfl, .inl ⟨rfl, fun V hV => rfl⟩, ?_⟩; simp only [Act.put, lsA, lsB, lsC])
  (refine ⟨_, _, rfl, .inl ⟨rfl, fun V hV => (exec_ld 42 (.tmp 93) ⟨gq, 22, none⟩ rfl rfl (run_load1 underlying42 rfl (hV.2.cell_ 22 L22)))⟩, ?_⟩; simp only [Act.put, lsA, lsB, lsC])
  simp only [SeqC]
  clear L0 L3 L22 L24 L25 L26 X1 S1
  refine held_call 4 (some 70) 33 #[.slice An x.name.length cn] (by kernel_rfl) rfl rfl (by kernel_rfl) (by go_simp) (N1.out _ hS.1.2) ?_
  rintro _ _ ⟨rfl, rfl⟩
  refine ⟨_, rfl, hS, ?_⟩
  simp only [Act.put, lsA, lsB, lsC]
  refine held_seq hS 2 [5,6] rfl (by kernel_rfl) (fun _ _ _ _ _ h => h) rfl rfl ?_
  (refine ⟨_, (.string (bs (P ++ [116, 97, 114, 103, 101, 116, 32] ++ t1))), rfl, .inl ⟨rfl, fun V hV => (by go_simp; omega)⟩, ?_⟩; simp only [Act.put, lsA, lsB, lsC])
  (refine ⟨_, (.string (bs (P ++ [116, 97, 114, 103, 101, 116, 32] ++ t1 ++ [32]))), rfl, .inl ⟨rfl, fun V hV => (by go_simp; omega)⟩, ?_⟩; simp only [Act.put, lsA, lsB, lsC])
  simp only [SeqC]
  refine held_call 9 (some 75) 31 #[.int .i64 x.ttl] (by kernel_rfl) rfl rfl (by kernel_rfl) (by go_simp) (D1.out _) ?_
  rintro _ _ ⟨rfl, rfl⟩
  refine ⟨_, rfl, hS, ?_⟩
  simp only [Act.put, lsA, lsB, lsC]
  refine held_seq hS 2 [10,11] rfl (by kernel_rfl) (fun _ _ _ _ _ h => h) rfl rfl ?_
  (refine ⟨_, (.string (bs (P ++ [116, 97, 114, 103, 101, 116, 32] ++ t1 ++ [32] ++ t2))), rfl, .inl ⟨rfl, fun V hV => (by go_simp; omega)⟩, ?_⟩; simp only [Act.put, lsA, lsB, lsC])
  (refine ⟨_, (.string (bs (P ++ [116, 97, 114, 103, 101, 116, 32] ++ t1 ++ [32] ++ t2 ++ [32]))), rfl, .inl ⟨rfl, fun V hV => (by go_simp; omega)⟩, ?_⟩; simp only [Act.put, lsA, lsB, lsC])
  simp only [SeqC]
  refine held_call 14 (some 80) 31 #[.int .i64 x.pri] (by kernel_rfl) rfl rfl (by kernel_rfl) (by go_simp) (D2.out _) ?_
  rintro _ _ ⟨rfl, rfl⟩
  refine ⟨_, rfl, hS, ?_⟩
  simp only [Act.put, lsA, lsB, lsC]
  refine held_seq hS 2 [15,16] rfl (by kernel_rfl) (fun _ _ _ _ _ h => h) rfl rfl ?_
  (refine ⟨_, (.string (bs (P ++ [116, 97, 114, 103, 101, 116, 32] ++ t1 ++ [32] ++ t2 ++ [32] ++ t3))), rfl, .inl ⟨rfl, fun V hV => (by go_simp; omega)⟩, ?_⟩; simp only [Act.put, lsA, lsB, lsC])
  (refine ⟨_, (.string (bs (P ++ [116, 97, 114, 103, 101, 116, 32] ++ t1 ++ [32] ++ t2 ++ [32] ++ t3 ++ [32]))), rfl, .inl ⟨rfl, fun V hV => (by go_simp; omega)⟩, ?_⟩; simp only [Act.put, lsA, lsB, lsC])
  simp only [SeqC]
  refine held_call 19 (some 85) 31 #[.int .i64 x.we] (by kernel_rfl) rfl rfl (by kernel_rfl) (by go_simp) (D3.out _) ?_
  rintro _ _ ⟨rfl, rfl⟩
  refine ⟨_, rfl, hS, ?_⟩
  simp only [Act.put, lsA, lsB, lsC]
  refine held_seq hS 2 [20,21] rfl (by kernel_rfl) (fun _ _ _ _ _ h => h) rfl rfl ?_
  (refine ⟨_, (.string (bs (P ++ [116, 97, 114, 103, 101, 116, 32] ++ t1 ++ [32] ++ t2 ++ [32] ++ t3 ++ [32] ++ t4))), rfl, .inl ⟨rfl, fun V hV => (by go_simp; omega)⟩, ?_⟩; simp only [Act.put, lsA, lsB, lsC])
  (refine ⟨_, (.string (bs (P ++ [116, 97, 114, 103, 101, 116, 32] ++ t1 ++ [32] ++ t2 ++ [32] ++ t3 ++ [32] ++ t4 ++ [32]))), rfl, .inl ⟨rfl, fun V hV => (by go_simp; omega)⟩, ?_⟩; simp only [Act.put, lsA, lsB, lsC])
  simp only [SeqC]
  refine held_call 24 (some 90) 31 #[.int .i64 x.po] (by kernel_rfl) rfl rfl (by kernel_rfl) (by go_simp) (D4.out _) ?_
  rintro _ _ ⟨rfl, rfl⟩
  refine ⟨_, rfl, hS, ?_⟩
  simp only [Act.put, lsA, lsB, lsC]
  refine held_seq hS 2 [25,26] rfl (by kernel_rfl) (fun _ _ _ _ _ h => h) rfl rfl ?_
  (refine ⟨_, (.string (bs (P ++ [116, 97, 114, 103, 101, 116, 32] ++ t1 ++ [32] ++ t2 ++ [32] ++ t3 ++ [32] ++ t4 ++ [32] ++ t5))), rfl, .inl ⟨rfl, fun V hV => (by go_simp; omega)⟩, ?_⟩; simp only [Act.put, lsA, lsB, lsC])
  (refine ⟨_, (.string (bs (P ++ [116, 97, 114, 103, 101, 116, 32] ++ t1 ++ [32] ++ t2 ++ [32] ++ t3 ++ [32] ++ t4 ++ [32] ++ t5 ++ [32]))), rfl, .inl ⟨rfl, fun V hV => (by go_simp; omega)⟩, ?_⟩; simp only [Act.put, lsA, lsB, lsC])
  simp only [SeqC]
  refine held_call 29 (some 95) 33 #[.slice At x.tg.length ct] (by kernel_rfl) rfl rfl (by kernel_rfl) (by go_simp) (N2.out _ hS.1.2) ?_
  rintro _ _ ⟨rfl, rfl⟩
  refine ⟨_, rfl, hS, ?_⟩
  simp only [Act.put, lsA, lsB, lsC]
  refine held_seq hS 3 [30,31,32] rfl (by kernel_rfl) (fun _ _ _ _ _ h => h) rfl rfl ?_
  (refine ⟨_, (.string (bs (P ++ [116, 97, 114, 103, 101, 116, 32] ++ t1 ++ [32] ++ t2 ++ [32] ++ t3 ++ [32] ++ t4 ++ [32] ++ t5 ++ [32] ++ t6))), rfl, .inl ⟨rfl, fun V hV => (by go_simp; omega)⟩, ?_⟩; simp only [Act.put, lsA, lsB, lsC])
  (refine ⟨_, (.string (bs (P ++ [116, 97, 114, 103, 101, 116, 32] ++ t1 ++ [32] ++ t2 ++ [32] ++ t3 ++ [32] ++ t4 ++ [32] ++ t5 ++ [32] ++ t6 ++ [10]))), rfl, .inl ⟨rfl, fun V hV => (by go_simp; omega)⟩, ?_⟩; simp only [Act.put, lsA, lsB, lsC])
  (refine ⟨_, (.string (bs (P ++ [116, 97, 114, 103, 101, 116, 32] ++ t1 ++ [32] ++ t2 ++ [32] ++ t3 ++ [32] ++ t4 ++ [32] ++ t5 ++ [32] ++ t6 ++ [10]))), rfl, .inl ⟨rfl, fun V hV => rfl⟩, ?_⟩; simp only [Act.put, lsA, lsB, lsC])
  simp only [SeqC]
  refine wpAnyH_done (by kernel_rfl) ?_ _
  have S7 := hS.1
  have HX2 := Hh (HX.out.trans (by rw [HI.out]))
  clear hS N1 N2 D1 D2 D3 D4 HX HI
  go_wp2_with fail
  go_roundw
  case rel => exact ⟨k + 1, by omega, by go_num, by rw [HX2.out]; simp, S7⟩
  case measure => simp [intOf]; omega
 obtain rfl : k = recs.length := by omega
 have hlt' : ¬ (recs.length : Int) < recs.length := by omega
 rw [List.take_of_length_le (Nat.le_refl _), ← HRZ.out]
 clear RL HRR HR4 hlt hql2 HRZ
 go_wp2_with fail
 go_ret
 exact RetB.mk rfl S.2
end Go.Proofs.YtkcbffldncmbcaaGreatDoor

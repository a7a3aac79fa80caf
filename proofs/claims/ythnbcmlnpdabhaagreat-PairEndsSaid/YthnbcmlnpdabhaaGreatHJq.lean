/-
  Layer 14 (message): Decode, of what may be a message.
-/
import Derived.Test.YthnbcmlnpdabhaaGreatHGq
namespace Go.Proofs.YthnbcmlnpdabhaaGreat
open _root_.Go.Proofs.Tryz
open Go.RowKit
set_option maxRecDepth 100000
set_option linter.unusedVariables false
set_option linter.unusedSimpArgs false
def decR3 (m : List UInt8) (hd : Hd) (q : List Qn) (a u : List RR) (n3 p : Nat) : Except Int Msg := match manyAt (recAt m) n3 p with
 | .error e => .error e
 | .ok (x, p) => if p < m.length then .error 2 else .ok ⟨hd, q, a, u, x⟩
def decR2 (m : List UInt8) (hd : Hd) (q : List Qn) (a : List RR) (n2 n3 p : Nat) : Except Int Msg := match manyAt (recAt m) n2 p with
 | .error e => .error e
 | .ok (u, p) => decR3 m hd q a u n3 p
def decR1 (m : List UInt8) (hd : Hd) (q : List Qn) (n1 n2 n3 p : Nat) : Except Int Msg := match manyAt (recAt m) n1 p with
 | .error e => .error e
 | .ok (a, p) => decR2 m hd q a n2 n3 p
def decR0 (m : List UInt8) (hd : Hd) (n1 n2 n3 : Nat) (o : Except Int (List Qn × Nat)) : Except Int Msg := match o with
 | .error e => .error e
 | .ok (q, p) => decR1 m hd q n1 n2 n3 p
theorem decM_in {m : List UInt8} (h12 : 12 ≤ m.length) (hl : m.length ≤ 65535) : decM m = decR0 m (hdOf (at2 m 0) (at2 m 2)) (at2 m 6) (at2 m 8) (at2 m 10) (manyAt (questAt m) (at2 m 4) 12) := by
 unfold decM; rw [if_neg (by omega), if_neg (by omega)]; rfl
theorem decR1_bad {m : List UInt8} {hd : Hd} {q : List Qn} {n1 n2 n3 p : Nat} {e : Int} (h : manyAt (recAt m) n1 p = .error e) : decR1 m hd q n1 n2 n3 p = .error e := by unfold decR1; rw [h]
theorem decR1_ok {m : List UInt8} {hd : Hd} {q : List Qn} {n1 n2 n3 p p' : Nat} {a : List RR} (h : manyAt (recAt m) n1 p = .ok (a, p')) : decR1 m hd q n1 n2 n3 p = decR2 m hd q a n2 n3 p' := by unfold decR1; rw [h]
theorem decR2_bad {m : List UInt8} {hd : Hd} {q : List Qn} {a : List RR} {n2 n3 p : Nat} {e : Int} (h : manyAt (recAt m) n2 p = .error e) : decR2 m hd q a n2 n3 p = .error e := by unfold decR2; rw [h]
theorem decR2_ok {m : List UInt8} {hd : Hd} {q : List Qn} {a u : List RR} {n2 n3 p p' : Nat} (h : manyAt (recAt m) n2 p = .ok (u, p')) : decR2 m hd q a n2 n3 p = decR3 m hd q a u n3 p' := by unfold decR2; rw [h]
theorem decR3_bad {m : List UInt8} {hd : Hd} {q : List Qn} {a u : List RR} {n3 p : Nat} {e : Int} (h : manyAt (recAt m) n3 p = .error e) : decR3 m hd q a u n3 p = .error e := by unfold decR3; rw [h]
theorem decR3_ok {m : List UInt8} {hd : Hd} {q : List Qn} {a u x : List RR} {n3 p p' : Nat} (h : manyAt (recAt m) n3 p = .ok (x, p')) : decR3 m hd q a u n3 p = if p' < m.length then .error 2 else .ok ⟨hd, q, a, u, x⟩ := by unfold decR3; rw [h]
theorem qsInfo1 : (prog.info? 47).map (·.size) = some 1 := by kernel_rfl
theorem rrsInfo1 : (prog.info? 48).map (·.size) = some 1 := by kernel_rfl
theorem own_to0 {w : World} {B : Nat} {e : TypeId} {s n : Nat} {v : Value} {xs : List Value} (hb : w.ownsRow B e s v n xs) : w.ownsRow 0 e s v n xs := ⟨hb.1, hb.2.imp id (fun ⟨g, cap, cur, h1, _, h3⟩ => ⟨g, cap, cur, h1, Nat.zero_le _, h3⟩)⟩
theorem QsOwn.to0 {w : World} {B : Nat} {v : Value} {l : List Qn} (h : QsOwn w B v l) : QsOwn w 0 v l := by obtain ⟨css, h1, h2⟩ := h; exact ⟨css, own_to0 h1, h2⟩
theorem RRsOwn.to0 {w : World} {B : Nat} {v : Value} {l : List RR} (h : RRsOwn w B v l) : RRsOwn w 0 v l := by obtain ⟨css, h1, h2⟩ := h; exact ⟨css, own_to0 h1, h2⟩
set_option maxHeartbeats 8000000 in
theorem mdecode_main (m : List UInt8) (w : World) (h12 : 12 ≤ m.length) (hl : m.length ≤ 65535) : Calls prog 179 #[.string (bs m)] w (DecRet (decM m) w) := by
 have hm' : ¬ (65535 : Int) < m.length := by omega
 have hmf : ∀ (fn : Fn) (first cap : Array Value) (w : World), (Instr.makeFunc fn first cap).run prog w = .ok (.func fn first cap) w := fun _ _ _ _ => rfl
 have H := Hh (fun w => headGet_long m w h12 (by simp only [maxLen]; omega))
 have q0 := at2_lt m 4
 have q1 := at2_lt m 6
 have q2 := at2_lt m 8
 have q3 := at2_lt m 10
 obtain ⟨O, hO⟩ : ∃ O, Hid (decM m = O) := ⟨_, Hh rfl⟩
 have DE : Hid (O = decR0 m (hdOf (at2 m 0) (at2 m 2)) (at2 m 6) (at2 m 8) (at2 m 10) (manyAt (questAt m) (at2 m 4) 12)) := Hh (by rw [← hO.out]; exact decM_in h12 hl)
 have NE : Hid (∀ x, O = .error x → x ≠ 0) := Hh (fun x h => decM_ne (hO.out.trans h))
 rw [hO.out]
 generalize hdOf (at2 m 0) (at2 m 2) = hd at *
 generalize at2 m 4 = n0 at *
 generalize at2 m 6 = n1 at *
 generalize at2 m 8 = n2 at *
 generalize at2 m 10 = n3 at *
 have hvl : hd.vals.length = 10 := rfl
 clear hO
 unfold cnts at H
 go_enter_defers func179, ntmps179
 go_wp2_with fail
 refine (H.out _).mono ?_
 rintro _ w1 ⟨rfl, b1⟩
 have b0 : ∀ o1 o2, Below w.heap.size w ((w.alloc o1).alloc o2) := fun o1 o2 => ((Below.refl _ _).alloc (Nat.le_refl _) _).alloc (by simp) _
 have HB := below_then (b0 _ _) (by simp; omega) b1
 have BM' : Blk w1 w.heap.size 50 msgZ := ((Blk.new w 50 msgZ).alloc _).below b1 (by simp; omega)
 have BE' : Blk w1 (w.heap.size + 1) 142 [.int .i64 0] := (Blk.new' (w.alloc (.cells msgZ.toArray 50)) 142 [.int .i64 0] _ (by simp)).below b1 (by simp)
 have hsz : w.heap.size + 2 ≤ w1.heap.size := by have := BE'.lt; omega
 clear b1 b0 H
 unfold Hd.agg
 have kk : ∀ o1 o2 o3, Below w1.heap.size w1 (((w1.alloc o1).alloc o2).alloc o3) := fun o1 o2 o3 => (((Below.refl _ _).alloc (Nat.le_refl _) _).alloc (by simp) _).alloc (by simp; omega) _
 go_wp2_with (refine at_op (.store 46 (.tmp 26) (.tmp 25)) rfl ?_; go_must (refine wpList_stB rfl _ _ _ rfl w.heap.size 0 rfl hd.vals rfl (BM'.below (kk _ _ _) BM'.lt) (by rw [hvl]; decide) (by rw [hvl]; exact hdInfo) (by simp [Hd.vals, Value.oneCell']) ?_))
 intro w2 B2 g2 _
 replace B2 : Blk w2 w.heap.size 50 (msgC hd nilS nilS nilS nilS) := B2
 have BE := (BE'.below (kk _ _ _) BE'.lt).grown g2 (by simp)
 have b2 := below_grown (below_then HB HB.size (kk _ _ _)) g2 (by simp; omega) (Nat.le_refl _)
 have BC : Blk w2 (w1.heap.size + 1) 210 [.int .i64 n0, .int .i64 n1, .int .i64 n2, .int .i64 n3] := Blk.grown ((Blk.new' _ 210 [.int .i64 n0, .int .i64 n1, .int .i64 n2, .int .i64 n3] _ (by simp)).alloc _) g2 (by simp; omega)
 have R : RdM w2 (w1.heap.size + 1 + 1) m 12 := Blk.grown (Blk.new' _ 327 [.string (bs m), .int .i64 12] _ (by simp)) g2 (by simp; omega)
 clear BM' BE' kk g2 HB
 have c0 := BC.cell_ 0 rfl
 have HZ := Hh hsz
 have lgc : w.heap.size + 1 < w1.heap.size + 1 := by omega
 have lgr : w1.heap.size + 1 < w1.heap.size + 1 + 1 := by omega
 clear hsz HZ
 go_wp2_with fail
 generalize w1.heap.size + 1 + 1 = gr at *
 generalize w1.heap.size + 1 = gc at *
 obtain ⟨OQ, hOQ⟩ : ∃ OQ, Hid (manyAt (questAt m) n0 12 = OQ) := ⟨_, Hh rfl⟩
 rw [hOQ.out] at DE
 have HO : Hid (behindL [] (manyAt (questAt m) (n0 - 0) 12) = OQ) := Hh (by rw [behind_nil, ← hOQ.out]; rfl)
 clear hOQ c0
 go_loopw [29] (fun iv wr => ∃ (k : Nat) (acc : List Qn) (p : Nat) (v : Value), k ≤ n0 ∧ iv = .int .i64 k ∧ Hid (acc.length = k) ∧ Blk wr w.heap.size 50 (msgC hd v nilS nilS nilS) ∧ QsOwn wr w.heap.size v acc ∧ RdM wr gr m p ∧ p ≤ m.length ∧ Blk wr (w.heap.size + 1) 142 [.int .i64 0] ∧ Blk wr gc 210 [.int .i64 n0, .int .i64 n1, .int .i64 n2, .int .i64 n3] ∧ Below w.heap.size w wr ∧ Hid (behindL acc (manyAt (questAt m) (n0 - k) p) = OQ)) (fun iv _ => n0 - (intOf iv).toNat)
 case atStart => exact ⟨0, [], 12, nilS, Nat.zero_le _, rfl, Hh rfl, B2, QsOwn.nil _ _, R, h12, BE, BC, b2, HO⟩
 clear B2 R BE BC b2 HO
 obtain ⟨k, acc, p, v, hk, rfl, HAL, BM, oQ, R, lp, BE, BC, bR, HO⟩ := hrel
 have hale : acc.length ≤ 65535 := by have := HAL.out; omega
 by_cases hlt : k < n0
 case pos =>
  have hlt' : (k : Int) < n0 := by omega
  have e1 : n0 - k = (n0 - (k + 1)) + 1 := by omega
  rw [e1] at HO
  obtain ⟨A, c, hv⟩ := oQ.form
  subst hv
  have QC := Hh (fun w' (h : RdM w' gr m p) => mquestion_any gr m p w' h hl lp)
  cases hq : questAt m p with
  | error x =>
   obtain rfl : OQ = .error x := by rw [← HO.out]; exact many_fail hq
   obtain rfl : O = .error x := DE.out
   go_wp2_with fail
   refine wp_region_held_drew (S := fun _ => True) (by kernel_rfl) trivial (fun hS => ?_)
   refine ord_two 0 2 (by kernel_rfl) ?_ ?_
   ·
    refine opw_run 0 (some 31) (v := .pointer (some ⟨w.heap.size, 10, none⟩)) rfl rfl (by kernel_rfl) rfl ?_
    refine ⟨trivial, ?_⟩
    simp only [Act.put, lsA, lsB, lsC]
    refine ord_two 1 2 (by kernel_rfl) ?_ ?_
    ·
     refine opw_ld 1 (some 32) 47 (.tmp 31) ⟨w.heap.size, 10, none⟩ rfl rfl rfl rfl (by kernel_rfl) (run_load1 underlying47 rfl (Blk.cell_ BM.drew 10 rfl)) ?_
     refine ⟨trivial, ?_⟩
     simp only [Act.put, lsA, lsB, lsC]
     refine ord_one 2 (by kernel_rfl) ?_
     refine opw_panic 2 215 #[.pointer (some ⟨gr, 0, none⟩)] rfl (by kernel_rfl) (by go_simp) (QC.out _ (Blk.drew R)) ?_
     intro e w3 hr
     obtain ⟨rfl, g3⟩ := rd_bad hq hr
     refine ⟨_, rfl, ?_⟩
     have M3 := (BM.drew).grown g3 (by simp; omega)
     have E3 := (BE.drew).grown g3 (by simp; omega)
     have b3 : Below w.heap.size w w3 := below_grown (w := wr.drew) bR.drew g3 bR.size (by omega)
     clear hS hr g3 QC
     go_wp2_with fail
     refine leaves_cons (f := 214) (args := #[.pointer (some ⟨w.heap.size, 0, none⟩), .pointer (some ⟨w.heap.size + 1, 0, none⟩)]) (by simp) (by simp [go_sem]) ?_
     refine (dec1_stop w.heap.size _ (msgC_len _ _ _ _ _) _ _ _ M3 E3).mono ?_
     rintro e u' w4 ⟨rfl, rfl, c0, c1, k4⟩
     have b4 := b3.trans k4
     simp only [settle]
     refine leaves_dec rfl rfl c0 rfl c1 ?_
     exact ⟨NE.out _ rfl, rfl, b4⟩
    ·
     refine opw_panic 2 215 #[.pointer (some ⟨gr, 0, none⟩)] rfl (by kernel_rfl) (by go_simp) (QC.out _ (Blk.drew R)) ?_
     intro e w3 hr
     obtain ⟨rfl, g3⟩ := rd_bad hq hr
     refine ⟨_, rfl, ?_⟩
     have M3 := (BM.drew).grown g3 (by simp; omega)
     have E3 := (BE.drew).grown g3 (by simp; omega)
     have b3 : Below w.heap.size w w3 := below_grown (w := wr.drew) bR.drew g3 bR.size (by omega)
     clear hS hr g3 QC
     go_wp2_with fail
     refine leaves_cons (f := 214) (args := #[.pointer (some ⟨w.heap.size, 0, none⟩), .pointer (some ⟨w.heap.size + 1, 0, none⟩)]) (by simp) (by simp [go_sem]) ?_
     refine (dec1_stop w.heap.size _ (msgC_len _ _ _ _ _) _ _ _ M3 E3).mono ?_
     rintro e u' w4 ⟨rfl, rfl, c0, c1, k4⟩
     have b4 := b3.trans k4
     simp only [settle]
     refine leaves_dec rfl rfl c0 rfl c1 ?_
     exact ⟨NE.out _ rfl, rfl, b4⟩
   ·
    refine opw_panic 2 215 #[.pointer (some ⟨gr, 0, none⟩)] rfl (by kernel_rfl) (by go_simp) (QC.out _ (Blk.drew R)) ?_
    intro e w3 hr
    obtain ⟨rfl, g3⟩ := rd_bad hq hr
    refine ⟨_, rfl, ?_⟩
    have M3 := (BM.drew).grown g3 (by simp; omega)
    have E3 := (BE.drew).grown g3 (by simp; omega)
    have b3 : Below w.heap.size w w3 := below_grown (w := wr.drew) bR.drew g3 bR.size (by omega)
    clear hS hr g3 QC
    go_wp2_with fail
    refine leaves_cons (f := 214) (args := #[.pointer (some ⟨w.heap.size, 0, none⟩), .pointer (some ⟨w.heap.size + 1, 0, none⟩)]) (by simp) (by simp [go_sem]) ?_
    refine (dec1_stop w.heap.size _ (msgC_len _ _ _ _ _) _ _ _ M3 E3).mono ?_
    rintro e u' w4 ⟨rfl, rfl, c0, c1, k4⟩
    have b4 := b3.trans k4
    simp only [settle]
    refine leaves_dec rfl rfl c0 rfl c1 ?_
    exact ⟨NE.out _ rfl, rfl, b4⟩
  | ok y =>
   obtain ⟨q, p'⟩ := y
   have HO1 : Hid (behindL (acc ++ [q]) (manyAt (questAt m) (n0 - (k + 1)) p') = OQ) := Hh (by rw [← many_step hq]; exact HO.out)
   clear HO
   go_wp2_with fail
   refine wp_region_held_drew (S := fun _ => True) (by kernel_rfl) trivial (fun hS => ?_)
   refine ord_two 0 2 (by kernel_rfl) ?_ ?_
   ·
    refine opw_run 0 (some 31) (v := .pointer (some ⟨w.heap.size, 10, none⟩)) rfl rfl (by kernel_rfl) rfl ?_
    refine ⟨trivial, ?_⟩
    simp only [Act.put, lsA, lsB, lsC]
    refine ord_two 1 2 (by kernel_rfl) ?_ ?_
    ·
     refine opw_ld 1 (some 32) 47 (.tmp 31) ⟨w.heap.size, 10, none⟩ rfl rfl rfl rfl (by kernel_rfl) (run_load1 underlying47 rfl (Blk.cell_ BM.drew 10 rfl)) ?_
     refine ⟨trivial, ?_⟩
     simp only [Act.put, lsA, lsB, lsC]
     refine ord_one 2 (by kernel_rfl) ?_
     refine opw_call 2 (some 33) 215 #[.pointer (some ⟨gr, 0, none⟩)] rfl rfl (by kernel_rfl) (by go_simp) (QC.out _ (Blk.drew R)) ?_
     intro e w3 hr
     obtain ⟨v3, rfl, ⟨cs, rfl, oq3⟩, R3, g3, l3⟩ := rd_ok hq hr
     have M3 := (BM.drew).grown g3 (by simp; omega)
     have hcl := oq3.len
     clear hr
     refine ⟨_, rfl, trivial, ?_⟩
     simp only [Act.put, lsA, lsB, lsC]
     refine ord_one 3 (by kernel_rfl) ?_
     refine opw_run 3 (some 34) rfl rfl (by kernel_rfl) (exec_bsQ (.tmp 33) rfl rfl (run_bsQ w3 cs hcl)) ?_
     have M4 := M3.alloc (.cells cs.toArray 28)
     refine ⟨trivial, ?_⟩
     simp only [Act.put, lsA, lsB, lsC]
     have E3 := (BE.drew).grown g3 (by simp; omega)
     have C3 := (BC.drew).grown g3 (by simp; omega)
     have b3 : Below w.heap.size w w3 := below_grown (w := wr.drew) bR.drew g3 bR.size (by omega)
     have o3 : QsOwn w3 w.heap.size (.slice A acc.length c) acc := QsOwn.blk (w := wr.drew) (oQ.below (Below.refl _ _).drew) g3 (Blk.drew R) (by decide) (by decide)
     have kn : Below w3.heap.size w3 (w3.alloc (.cells cs.toArray 28)) := (Below.refl _ _).alloc (Nat.le_refl _) _
     obtain ⟨css, ow, hE⟩ := o3
     have ow2 := own_below ow kn
     have Bn := Blk.new w3 28 cs
     have hrg : (w3.alloc (.cells cs.toArray 28)).rangeAt w3.heap.size 0 cs := by
      have := Bn.range 0 3 (by omega)
      rwa [List.drop_zero, List.take_of_length_le (by omega)] at this
     replace hE := hE.mono (fun _ _ x => x.stays (Stays.below kn))
     have oq4 := oq3.stays (Stays.below kn)
     have b4 := below_then b3 b3.size kn
     have R4 := Blk.below R3 kn (Blk.lt R3)
     have E4 := Blk.below E3 kn (Blk.lt E3)
     have C4 := Blk.below C3 kn (Blk.lt C3)
     obtain ⟨v5, w5, hr5, o5, g5⟩ := run_appQ _ 47 w.heap.size _ acc.length css.flatten ow2 b4.size w3.heap.size 1 cs hrg hcl oq3.one (by omega)
     refine ord_one 4 (by kernel_rfl) ?_
     refine opw_run 4 (some 35) rfl rfl (by kernel_rfl) (exec_appQ (.tmp 32) (.tmp 34) rfl rfl rfl rfl hr5) ?_
     refine ⟨trivial, ?_⟩
     simp only [Act.put, lsA, lsB, lsC]
     have S5 := Stays.own ow2 (by decide) g5
     have q5 : QsOwn w5 w.heap.size v5 (acc ++ [q]) := QsOwn.app (v' := v5) hE oq4 S5 o5
     have M5 := blk_own M4 ow2 (by decide) g5
     have R5 : RdM w5 gr m p' := blk_own R4 ow2 (by decide) g5
     have E5 := blk_own E4 ow2 (by decide) g5
     have C5 := blk_own C4 ow2 (by decide) g5
     have b5 := below_own b4 b4.size ow2 g5
     refine ord_one 5 (by kernel_rfl) ?_
     refine opw_run 5 (some 36) (v := .pointer (some ⟨w.heap.size, 10, none⟩)) rfl rfl (by kernel_rfl) rfl ?_
     refine ⟨trivial, ?_⟩
     simp only [Act.put, lsA, lsB, lsC]
     obtain ⟨A5, c5, hv5⟩ := q5.form
     subst hv5
     refine ord_one 6 (by kernel_rfl) ?_
     refine opw_stC 6 47 (.tmp 36) (.tmp 35) rfl rfl rfl (by kernel_rfl) w.heap.size 10 rfl (.slice A5 (acc ++ [q]).length c5) rfl M5 (by rw [msgC_len]; decide) qsInfo1 rfl rfl ?_
     intro w6 M6 g6 _
     replace M6 : Blk w6 w.heap.size 50 (msgC hd (.slice A5 (acc ++ [q]).length c5) nilS nilS nilS) := M6
     have q6 := q5.blk g6 M5 (by decide) (by decide)
     have R6 : RdM w6 gr m p' := Blk.grown R5 g6 (by simp; omega)
     have E6 := E5.grown g6 (by simp)
     have C6 := C5.grown g6 (by simp; omega)
     have b6 := below_grown b5 g6 b5.size (Nat.le_refl _)
     refine ⟨trivial, ?_⟩
     simp only [Act.put, lsA, lsB, lsC]
     refine wpAnyH_done (by kernel_rfl) ?_ _
     clear hS M4 M3 E3 C3 b3 kn ow hE ow2 Bn hrg oq4 oq3 b4 R3 R4 E4 C4 hr5 o5 g5 S5 q5 M5 R5 E5 C5 b5 g6 g3 QC hcl
     go_wp2_with fail
     go_roundw
     case rel => exact ⟨k + 1, acc ++ [q], p', _, by omega, by go_num, Hh (by simp [HAL.out]), M6, q6, R6, l3, E6, C6, b6, HO1⟩
     case measure => simp [intOf]; omega
    ·
     refine opw_call 2 (some 33) 215 #[.pointer (some ⟨gr, 0, none⟩)] rfl rfl (by kernel_rfl) (by go_simp) (QC.out _ (Blk.drew R)) ?_
     intro e w3 hr
     obtain ⟨v3, rfl, ⟨cs, rfl, oq3⟩, R3, g3, l3⟩ := rd_ok hq hr
     have M3 := (BM.drew).grown g3 (by simp; omega)
     have hcl := oq3.len
     clear hr
     refine ⟨_, rfl, trivial, ?_⟩
     simp only [Act.put, lsA, lsB, lsC]
     refine ord_two 1 3 (by kernel_rfl) ?_ ?_
     ·
      refine opw_ld 1 (some 32) 47 (.tmp 31) ⟨w.heap.size, 10, none⟩ rfl rfl rfl rfl (by kernel_rfl) (run_load1 underlying47 rfl (Blk.cell_ M3 10 rfl)) ?_
      refine ⟨trivial, ?_⟩
      simp only [Act.put, lsA, lsB, lsC]
      refine ord_one 3 (by kernel_rfl) ?_
      refine opw_run 3 (some 34) rfl rfl (by kernel_rfl) (exec_bsQ (.tmp 33) rfl rfl (run_bsQ w3 cs hcl)) ?_
      have M4 := M3.alloc (.cells cs.toArray 28)
      refine ⟨trivial, ?_⟩
      simp only [Act.put, lsA, lsB, lsC]
      have E3 := (BE.drew).grown g3 (by simp; omega)
      have C3 := (BC.drew).grown g3 (by simp; omega)
      have b3 : Below w.heap.size w w3 := below_grown (w := wr.drew) bR.drew g3 bR.size (by omega)
      have o3 : QsOwn w3 w.heap.size (.slice A acc.length c) acc := QsOwn.blk (w := wr.drew) (oQ.below (Below.refl _ _).drew) g3 (Blk.drew R) (by decide) (by decide)
      have kn : Below w3.heap.size w3 (w3.alloc (.cells cs.toArray 28)) := (Below.refl _ _).alloc (Nat.le_refl _) _
      obtain ⟨css, ow, hE⟩ := o3
      have ow2 := own_below ow kn
      have Bn := Blk.new w3 28 cs
      have hrg : (w3.alloc (.cells cs.toArray 28)).rangeAt w3.heap.size 0 cs := by
       have := Bn.range 0 3 (by omega)
       rwa [List.drop_zero, List.take_of_length_le (by omega)] at this
      replace hE := hE.mono (fun _ _ x => x.stays (Stays.below kn))
      have oq4 := oq3.stays (Stays.below kn)
      have b4 := below_then b3 b3.size kn
      have R4 := Blk.below R3 kn (Blk.lt R3)
      have E4 := Blk.below E3 kn (Blk.lt E3)
      have C4 := Blk.below C3 kn (Blk.lt C3)
      obtain ⟨v5, w5, hr5, o5, g5⟩ := run_appQ _ 47 w.heap.size _ acc.length css.flatten ow2 b4.size w3.heap.size 1 cs hrg hcl oq3.one (by omega)
      refine ord_one 4 (by kernel_rfl) ?_
      refine opw_run 4 (some 35) rfl rfl (by kernel_rfl) (exec_appQ (.tmp 32) (.tmp 34) rfl rfl rfl rfl hr5) ?_
      refine ⟨trivial, ?_⟩
      simp only [Act.put, lsA, lsB, lsC]
      have S5 := Stays.own ow2 (by decide) g5
      have q5 : QsOwn w5 w.heap.size v5 (acc ++ [q]) := QsOwn.app (v' := v5) hE oq4 S5 o5
      have M5 := blk_own M4 ow2 (by decide) g5
      have R5 : RdM w5 gr m p' := blk_own R4 ow2 (by decide) g5
      have E5 := blk_own E4 ow2 (by decide) g5
      have C5 := blk_own C4 ow2 (by decide) g5
      have b5 := below_own b4 b4.size ow2 g5
      refine ord_one 5 (by kernel_rfl) ?_
      refine opw_run 5 (some 36) (v := .pointer (some ⟨w.heap.size, 10, none⟩)) rfl rfl (by kernel_rfl) rfl ?_
      refine ⟨trivial, ?_⟩
      simp only [Act.put, lsA, lsB, lsC]
      obtain ⟨A5, c5, hv5⟩ := q5.form
      subst hv5
      refine ord_one 6 (by kernel_rfl) ?_
      refine opw_stC 6 47 (.tmp 36) (.tmp 35) rfl rfl rfl (by kernel_rfl) w.heap.size 10 rfl (.slice A5 (acc ++ [q]).length c5) rfl M5 (by rw [msgC_len]; decide) qsInfo1 rfl rfl ?_
      intro w6 M6 g6 _
      replace M6 : Blk w6 w.heap.size 50 (msgC hd (.slice A5 (acc ++ [q]).length c5) nilS nilS nilS) := M6
      have q6 := q5.blk g6 M5 (by decide) (by decide)
      have R6 : RdM w6 gr m p' := Blk.grown R5 g6 (by simp; omega)
      have E6 := E5.grown g6 (by simp)
      have C6 := C5.grown g6 (by simp; omega)
      have b6 := below_grown b5 g6 b5.size (Nat.le_refl _)
      refine ⟨trivial, ?_⟩
      simp only [Act.put, lsA, lsB, lsC]
      refine wpAnyH_done (by kernel_rfl) ?_ _
      clear hS M4 M3 E3 C3 b3 kn ow hE ow2 Bn hrg oq4 oq3 b4 R3 R4 E4 C4 hr5 o5 g5 S5 q5 M5 R5 E5 C5 b5 g6 g3 QC hcl
      go_wp2_with fail
      go_roundw
      case rel => exact ⟨k + 1, acc ++ [q], p', _, by omega, by go_num, Hh (by simp [HAL.out]), M6, q6, R6, l3, E6, C6, b6, HO1⟩
      case measure => simp [intOf]; omega
     ·
      refine opw_run 3 (some 34) rfl rfl (by kernel_rfl) (exec_bsQ (.tmp 33) rfl rfl (run_bsQ w3 cs hcl)) ?_
      have M4 := M3.alloc (.cells cs.toArray 28)
      refine ⟨trivial, ?_⟩
      simp only [Act.put, lsA, lsB, lsC]
      refine ord_one 1 (by kernel_rfl) ?_
      refine opw_ld 1 (some 32) 47 (.tmp 31) ⟨w.heap.size, 10, none⟩ rfl rfl rfl rfl (by kernel_rfl) (run_load1 underlying47 rfl (Blk.cell_ M4 10 rfl)) ?_
      refine ⟨trivial, ?_⟩
      simp only [Act.put, lsA, lsB, lsC]
      have E3 := (BE.drew).grown g3 (by simp; omega)
      have C3 := (BC.drew).grown g3 (by simp; omega)
      have b3 : Below w.heap.size w w3 := below_grown (w := wr.drew) bR.drew g3 bR.size (by omega)
      have o3 : QsOwn w3 w.heap.size (.slice A acc.length c) acc := QsOwn.blk (w := wr.drew) (oQ.below (Below.refl _ _).drew) g3 (Blk.drew R) (by decide) (by decide)
      have kn : Below w3.heap.size w3 (w3.alloc (.cells cs.toArray 28)) := (Below.refl _ _).alloc (Nat.le_refl _) _
      obtain ⟨css, ow, hE⟩ := o3
      have ow2 := own_below ow kn
      have Bn := Blk.new w3 28 cs
      have hrg : (w3.alloc (.cells cs.toArray 28)).rangeAt w3.heap.size 0 cs := by
       have := Bn.range 0 3 (by omega)
       rwa [List.drop_zero, List.take_of_length_le (by omega)] at this
      replace hE := hE.mono (fun _ _ x => x.stays (Stays.below kn))
      have oq4 := oq3.stays (Stays.below kn)
      have b4 := below_then b3 b3.size kn
      have R4 := Blk.below R3 kn (Blk.lt R3)
      have E4 := Blk.below E3 kn (Blk.lt E3)
      have C4 := Blk.below C3 kn (Blk.lt C3)
      obtain ⟨v5, w5, hr5, o5, g5⟩ := run_appQ _ 47 w.heap.size _ acc.length css.flatten ow2 b4.size w3.heap.size 1 cs hrg hcl oq3.one (by omega)
      refine ord_one 4 (by kernel_rfl) ?_
      refine opw_run 4 (some 35) rfl rfl (by kernel_rfl) (exec_appQ (.tmp 32) (.tmp 34) rfl rfl rfl rfl hr5) ?_
      refine ⟨trivial, ?_⟩
      simp only [Act.put, lsA, lsB, lsC]
      have S5 := Stays.own ow2 (by decide) g5
      have q5 : QsOwn w5 w.heap.size v5 (acc ++ [q]) := QsOwn.app (v' := v5) hE oq4 S5 o5
      have M5 := blk_own M4 ow2 (by decide) g5
      have R5 : RdM w5 gr m p' := blk_own R4 ow2 (by decide) g5
      have E5 := blk_own E4 ow2 (by decide) g5
      have C5 := blk_own C4 ow2 (by decide) g5
      have b5 := below_own b4 b4.size ow2 g5
      refine ord_one 5 (by kernel_rfl) ?_
      refine opw_run 5 (some 36) (v := .pointer (some ⟨w.heap.size, 10, none⟩)) rfl rfl (by kernel_rfl) rfl ?_
      refine ⟨trivial, ?_⟩
      simp only [Act.put, lsA, lsB, lsC]
      obtain ⟨A5, c5, hv5⟩ := q5.form
      subst hv5
      refine ord_one 6 (by kernel_rfl) ?_
      refine opw_stC 6 47 (.tmp 36) (.tmp 35) rfl rfl rfl (by kernel_rfl) w.heap.size 10 rfl (.slice A5 (acc ++ [q]).length c5) rfl M5 (by rw [msgC_len]; decide) qsInfo1 rfl rfl ?_
      intro w6 M6 g6 _
      replace M6 : Blk w6 w.heap.size 50 (msgC hd (.slice A5 (acc ++ [q]).length c5) nilS nilS nilS) := M6
      have q6 := q5.blk g6 M5 (by decide) (by decide)
      have R6 : RdM w6 gr m p' := Blk.grown R5 g6 (by simp; omega)
      have E6 := E5.grown g6 (by simp)
      have C6 := C5.grown g6 (by simp; omega)
      have b6 := below_grown b5 g6 b5.size (Nat.le_refl _)
      refine ⟨trivial, ?_⟩
      simp only [Act.put, lsA, lsB, lsC]
      refine wpAnyH_done (by kernel_rfl) ?_ _
      clear hS M4 M3 E3 C3 b3 kn ow hE ow2 Bn hrg oq4 oq3 b4 R3 R4 E4 C4 hr5 o5 g5 S5 q5 M5 R5 E5 C5 b5 g6 g3 QC hcl
      go_wp2_with fail
      go_roundw
      case rel => exact ⟨k + 1, acc ++ [q], p', _, by omega, by go_num, Hh (by simp [HAL.out]), M6, q6, R6, l3, E6, C6, b6, HO1⟩
      case measure => simp [intOf]; omega
   ·
    refine opw_call 2 (some 33) 215 #[.pointer (some ⟨gr, 0, none⟩)] rfl rfl (by kernel_rfl) (by go_simp) (QC.out _ (Blk.drew R)) ?_
    intro e w3 hr
    obtain ⟨v3, rfl, ⟨cs, rfl, oq3⟩, R3, g3, l3⟩ := rd_ok hq hr
    have M3 := (BM.drew).grown g3 (by simp; omega)
    have hcl := oq3.len
    clear hr
    refine ⟨_, rfl, trivial, ?_⟩
    simp only [Act.put, lsA, lsB, lsC]
    refine ord_two 0 3 (by kernel_rfl) ?_ ?_
    ·
     refine opw_run 0 (some 31) (v := .pointer (some ⟨w.heap.size, 10, none⟩)) rfl rfl (by kernel_rfl) rfl ?_
     refine ⟨trivial, ?_⟩
     simp only [Act.put, lsA, lsB, lsC]
     refine ord_two 1 3 (by kernel_rfl) ?_ ?_
     ·
      refine opw_ld 1 (some 32) 47 (.tmp 31) ⟨w.heap.size, 10, none⟩ rfl rfl rfl rfl (by kernel_rfl) (run_load1 underlying47 rfl (Blk.cell_ M3 10 rfl)) ?_
      refine ⟨trivial, ?_⟩
      simp only [Act.put, lsA, lsB, lsC]
      refine ord_one 3 (by kernel_rfl) ?_
      refine opw_run 3 (some 34) rfl rfl (by kernel_rfl) (exec_bsQ (.tmp 33) rfl rfl (run_bsQ w3 cs hcl)) ?_
      have M4 := M3.alloc (.cells cs.toArray 28)
      refine ⟨trivial, ?_⟩
      simp only [Act.put, lsA, lsB, lsC]
      have E3 := (BE.drew).grown g3 (by simp; omega)
      have C3 := (BC.drew).grown g3 (by simp; omega)
      have b3 : Below w.heap.size w w3 := below_grown (w := wr.drew) bR.drew g3 bR.size (by omega)
      have o3 : QsOwn w3 w.heap.size (.slice A acc.length c) acc := QsOwn.blk (w := wr.drew) (oQ.below (Below.refl _ _).drew) g3 (Blk.drew R) (by decide) (by decide)
      have kn : Below w3.heap.size w3 (w3.alloc (.cells cs.toArray 28)) := (Below.refl _ _).alloc (Nat.le_refl _) _
      obtain ⟨css, ow, hE⟩ := o3
      have ow2 := own_below ow kn
      have Bn := Blk.new w3 28 cs
      have hrg : (w3.alloc (.cells cs.toArray 28)).rangeAt w3.heap.size 0 cs := by
       have := Bn.range 0 3 (by omega)
       rwa [List.drop_zero, List.take_of_length_le (by omega)] at this
      replace hE := hE.mono (fun _ _ x => x.stays (Stays.below kn))
      have oq4 := oq3.stays (Stays.below kn)
      have b4 := below_then b3 b3.size kn
      have R4 := Blk.below R3 kn (Blk.lt R3)
      have E4 := Blk.below E3 kn (Blk.lt E3)
      have C4 := Blk.below C3 kn (Blk.lt C3)
      obtain ⟨v5, w5, hr5, o5, g5⟩ := run_appQ _ 47 w.heap.size _ acc.length css.flatten ow2 b4.size w3.heap.size 1 cs hrg hcl oq3.one (by omega)
      refine ord_one 4 (by kernel_rfl) ?_
      refine opw_run 4 (some 35) rfl rfl (by kernel_rfl) (exec_appQ (.tmp 32) (.tmp 34) rfl rfl rfl rfl hr5) ?_
      refine ⟨trivial, ?_⟩
      simp only [Act.put, lsA, lsB, lsC]
      have S5 := Stays.own ow2 (by decide) g5
      have q5 : QsOwn w5 w.heap.size v5 (acc ++ [q]) := QsOwn.app (v' := v5) hE oq4 S5 o5
      have M5 := blk_own M4 ow2 (by decide) g5
      have R5 : RdM w5 gr m p' := blk_own R4 ow2 (by decide) g5
      have E5 := blk_own E4 ow2 (by decide) g5
      have C5 := blk_own C4 ow2 (by decide) g5
      have b5 := below_own b4 b4.size ow2 g5
      refine ord_one 5 (by kernel_rfl) ?_
      refine opw_run 5 (some 36) (v := .pointer (some ⟨w.heap.size, 10, none⟩)) rfl rfl (by kernel_rfl) rfl ?_
      refine ⟨trivial, ?_⟩
      simp only [Act.put, lsA, lsB, lsC]
      obtain ⟨A5, c5, hv5⟩ := q5.form
      subst hv5
      refine ord_one 6 (by kernel_rfl) ?_
      refine opw_stC 6 47 (.tmp 36) (.tmp 35) rfl rfl rfl (by kernel_rfl) w.heap.size 10 rfl (.slice A5 (acc ++ [q]).length c5) rfl M5 (by rw [msgC_len]; decide) qsInfo1 rfl rfl ?_
      intro w6 M6 g6 _
      replace M6 : Blk w6 w.heap.size 50 (msgC hd (.slice A5 (acc ++ [q]).length c5) nilS nilS nilS) := M6
      have q6 := q5.blk g6 M5 (by decide) (by decide)
      have R6 : RdM w6 gr m p' := Blk.grown R5 g6 (by simp; omega)
      have E6 := E5.grown g6 (by simp)
      have C6 := C5.grown g6 (by simp; omega)
      have b6 := below_grown b5 g6 b5.size (Nat.le_refl _)
      refine ⟨trivial, ?_⟩
      simp only [Act.put, lsA, lsB, lsC]
      refine wpAnyH_done (by kernel_rfl) ?_ _
      clear hS M4 M3 E3 C3 b3 kn ow hE ow2 Bn hrg oq4 oq3 b4 R3 R4 E4 C4 hr5 o5 g5 S5 q5 M5 R5 E5 C5 b5 g6 g3 QC hcl
      go_wp2_with fail
      go_roundw
      case rel => exact ⟨k + 1, acc ++ [q], p', _, by omega, by go_num, Hh (by simp [HAL.out]), M6, q6, R6, l3, E6, C6, b6, HO1⟩
      case measure => simp [intOf]; omega
     ·
      refine opw_run 3 (some 34) rfl rfl (by kernel_rfl) (exec_bsQ (.tmp 33) rfl rfl (run_bsQ w3 cs hcl)) ?_
      have M4 := M3.alloc (.cells cs.toArray 28)
      refine ⟨trivial, ?_⟩
      simp only [Act.put, lsA, lsB, lsC]
      refine ord_one 1 (by kernel_rfl) ?_
      refine opw_ld 1 (some 32) 47 (.tmp 31) ⟨w.heap.size, 10, none⟩ rfl rfl rfl rfl (by kernel_rfl) (run_load1 underlying47 rfl (Blk.cell_ M4 10 rfl)) ?_
      refine ⟨trivial, ?_⟩
      simp only [Act.put, lsA, lsB, lsC]
      have E3 := (BE.drew).grown g3 (by simp; omega)
      have C3 := (BC.drew).grown g3 (by simp; omega)
      have b3 : Below w.heap.size w w3 := below_grown (w := wr.drew) bR.drew g3 bR.size (by omega)
      have o3 : QsOwn w3 w.heap.size (.slice A acc.length c) acc := QsOwn.blk (w := wr.drew) (oQ.below (Below.refl _ _).drew) g3 (Blk.drew R) (by decide) (by decide)
      have kn : Below w3.heap.size w3 (w3.alloc (.cells cs.toArray 28)) := (Below.refl _ _).alloc (Nat.le_refl _) _
      obtain ⟨css, ow, hE⟩ := o3
      have ow2 := own_below ow kn
      have Bn := Blk.new w3 28 cs
      have hrg : (w3.alloc (.cells cs.toArray 28)).rangeAt w3.heap.size 0 cs := by
       have := Bn.range 0 3 (by omega)
       rwa [List.drop_zero, List.take_of_length_le (by omega)] at this
      replace hE := hE.mono (fun _ _ x => x.stays (Stays.below kn))
      have oq4 := oq3.stays (Stays.below kn)
      have b4 := below_then b3 b3.size kn
      have R4 := Blk.below R3 kn (Blk.lt R3)
      have E4 := Blk.below E3 kn (Blk.lt E3)
      have C4 := Blk.below C3 kn (Blk.lt C3)
      obtain ⟨v5, w5, hr5, o5, g5⟩ := run_appQ _ 47 w.heap.size _ acc.length css.flatten ow2 b4.size w3.heap.size 1 cs hrg hcl oq3.one (by omega)
      refine ord_one 4 (by kernel_rfl) ?_
      refine opw_run 4 (some 35) rfl rfl (by kernel_rfl) (exec_appQ (.tmp 32) (.tmp 34) rfl rfl rfl rfl hr5) ?_
      refine ⟨trivial, ?_⟩
      simp only [Act.put, lsA, lsB, lsC]
      have S5 := Stays.own ow2 (by decide) g5
      have q5 : QsOwn w5 w.heap.size v5 (acc ++ [q]) := QsOwn.app (v' := v5) hE oq4 S5 o5
      have M5 := blk_own M4 ow2 (by decide) g5
      have R5 : RdM w5 gr m p' := blk_own R4 ow2 (by decide) g5
      have E5 := blk_own E4 ow2 (by decide) g5
      have C5 := blk_own C4 ow2 (by decide) g5
      have b5 := below_own b4 b4.size ow2 g5
      refine ord_one 5 (by kernel_rfl) ?_
      refine opw_run 5 (some 36) (v := .pointer (some ⟨w.heap.size, 10, none⟩)) rfl rfl (by kernel_rfl) rfl ?_
      refine ⟨trivial, ?_⟩
      simp only [Act.put, lsA, lsB, lsC]
      obtain ⟨A5, c5, hv5⟩ := q5.form
      subst hv5
      refine ord_one 6 (by kernel_rfl) ?_
      refine opw_stC 6 47 (.tmp 36) (.tmp 35) rfl rfl rfl (by kernel_rfl) w.heap.size 10 rfl (.slice A5 (acc ++ [q]).length c5) rfl M5 (by rw [msgC_len]; decide) qsInfo1 rfl rfl ?_
      intro w6 M6 g6 _
      replace M6 : Blk w6 w.heap.size 50 (msgC hd (.slice A5 (acc ++ [q]).length c5) nilS nilS nilS) := M6
      have q6 := q5.blk g6 M5 (by decide) (by decide)
      have R6 : RdM w6 gr m p' := Blk.grown R5 g6 (by simp; omega)
      have E6 := E5.grown g6 (by simp)
      have C6 := C5.grown g6 (by simp; omega)
      have b6 := below_grown b5 g6 b5.size (Nat.le_refl _)
      refine ⟨trivial, ?_⟩
      simp only [Act.put, lsA, lsB, lsC]
      refine wpAnyH_done (by kernel_rfl) ?_ _
      clear hS M4 M3 E3 C3 b3 kn ow hE ow2 Bn hrg oq4 oq3 b4 R3 R4 E4 C4 hr5 o5 g5 S5 q5 M5 R5 E5 C5 b5 g6 g3 QC hcl
      go_wp2_with fail
      go_roundw
      case rel => exact ⟨k + 1, acc ++ [q], p', _, by omega, by go_num, Hh (by simp [HAL.out]), M6, q6, R6, l3, E6, C6, b6, HO1⟩
      case measure => simp [intOf]; omega
    ·
     refine opw_run 3 (some 34) rfl rfl (by kernel_rfl) (exec_bsQ (.tmp 33) rfl rfl (run_bsQ w3 cs hcl)) ?_
     have M4 := M3.alloc (.cells cs.toArray 28)
     refine ⟨trivial, ?_⟩
     simp only [Act.put, lsA, lsB, lsC]
     refine ord_one 0 (by kernel_rfl) ?_
     refine opw_run 0 (some 31) (v := .pointer (some ⟨w.heap.size, 10, none⟩)) rfl rfl (by kernel_rfl) rfl ?_
     refine ⟨trivial, ?_⟩
     simp only [Act.put, lsA, lsB, lsC]
     refine ord_one 1 (by kernel_rfl) ?_
     refine opw_ld 1 (some 32) 47 (.tmp 31) ⟨w.heap.size, 10, none⟩ rfl rfl rfl rfl (by kernel_rfl) (run_load1 underlying47 rfl (Blk.cell_ M4 10 rfl)) ?_
     refine ⟨trivial, ?_⟩
     simp only [Act.put, lsA, lsB, lsC]
     have E3 := (BE.drew).grown g3 (by simp; omega)
     have C3 := (BC.drew).grown g3 (by simp; omega)
     have b3 : Below w.heap.size w w3 := below_grown (w := wr.drew) bR.drew g3 bR.size (by omega)
     have o3 : QsOwn w3 w.heap.size (.slice A acc.length c) acc := QsOwn.blk (w := wr.drew) (oQ.below (Below.refl _ _).drew) g3 (Blk.drew R) (by decide) (by decide)
     have kn : Below w3.heap.size w3 (w3.alloc (.cells cs.toArray 28)) := (Below.refl _ _).alloc (Nat.le_refl _) _
     obtain ⟨css, ow, hE⟩ := o3
     have ow2 := own_below ow kn
     have Bn := Blk.new w3 28 cs
     have hrg : (w3.alloc (.cells cs.toArray 28)).rangeAt w3.heap.size 0 cs := by
      have := Bn.range 0 3 (by omega)
      rwa [List.drop_zero, List.take_of_length_le (by omega)] at this
     replace hE := hE.mono (fun _ _ x => x.stays (Stays.below kn))
     have oq4 := oq3.stays (Stays.below kn)
     have b4 := below_then b3 b3.size kn
     have R4 := Blk.below R3 kn (Blk.lt R3)
     have E4 := Blk.below E3 kn (Blk.lt E3)
     have C4 := Blk.below C3 kn (Blk.lt C3)
     obtain ⟨v5, w5, hr5, o5, g5⟩ := run_appQ _ 47 w.heap.size _ acc.length css.flatten ow2 b4.size w3.heap.size 1 cs hrg hcl oq3.one (by omega)
     refine ord_one 4 (by kernel_rfl) ?_
     refine opw_run 4 (some 35) rfl rfl (by kernel_rfl) (exec_appQ (.tmp 32) (.tmp 34) rfl rfl rfl rfl hr5) ?_
     refine ⟨trivial, ?_⟩
     simp only [Act.put, lsA, lsB, lsC]
     have S5 := Stays.own ow2 (by decide) g5
     have q5 : QsOwn w5 w.heap.size v5 (acc ++ [q]) := QsOwn.app (v' := v5) hE oq4 S5 o5
     have M5 := blk_own M4 ow2 (by decide) g5
     have R5 : RdM w5 gr m p' := blk_own R4 ow2 (by decide) g5
     have E5 := blk_own E4 ow2 (by decide) g5
     have C5 := blk_own C4 ow2 (by decide) g5
     have b5 := below_own b4 b4.size ow2 g5
     refine ord_one 5 (by kernel_rfl) ?_
     refine opw_run 5 (some 36) (v := .pointer (some ⟨w.heap.size, 10, none⟩)) rfl rfl (by kernel_rfl) rfl ?_
     refine ⟨trivial, ?_⟩
     simp only [Act.put, lsA, lsB, lsC]
     obtain ⟨A5, c5, hv5⟩ := q5.form
     subst hv5
     refine ord_one 6 (by kernel_rfl) ?_
     refine opw_stC 6 47 (.tmp 36) (.tmp 35) rfl rfl rfl (by kernel_rfl) w.heap.size 10 rfl (.slice A5 (acc ++ [q]).length c5) rfl M5 (by rw [msgC_len]; decide) qsInfo1 rfl rfl ?_
     intro w6 M6 g6 _
     replace M6 : Blk w6 w.heap.size 50 (msgC hd (.slice A5 (acc ++ [q]).length c5) nilS nilS nilS) := M6
     have q6 := q5.blk g6 M5 (by decide) (by decide)
     have R6 : RdM w6 gr m p' := Blk.grown R5 g6 (by simp; omega)
     have E6 := E5.grown g6 (by simp)
     have C6 := C5.grown g6 (by simp; omega)
     have b6 := below_grown b5 g6 b5.size (Nat.le_refl _)
     refine ⟨trivial, ?_⟩
     simp only [Act.put, lsA, lsB, lsC]
     refine wpAnyH_done (by kernel_rfl) ?_ _
     clear hS M4 M3 E3 C3 b3 kn ow hE ow2 Bn hrg oq4 oq3 b4 R3 R4 E4 C4 hr5 o5 g5 S5 q5 M5 R5 E5 C5 b5 g6 g3 QC hcl
     go_wp2_with fail
     go_roundw
     case rel => exact ⟨k + 1, acc ++ [q], p', _, by omega, by go_num, Hh (by simp [HAL.out]), M6, q6, R6, l3, E6, C6, b6, HO1⟩
     case measure => simp [intOf]; omega
 obtain rfl : k = n0 := by omega
 have hlt' : ¬ (k : Int) < k := by omega
 obtain rfl : OQ = .ok (acc, p) := by rw [← HO.out, Nat.sub_self]; exact many_zero
 replace DE : Hid (O = decR1 m hd acc n1 n2 n3 p) := DE
 obtain ⟨A, c, hv⟩ := oQ.form
 subst hv
 clear hlt hk HO
 have cc := BC.cell_ 1 rfl
 have RC := Hh (mrecords_any gr m p n1 wr R hl lp (by omega))
 go_wp2_with fail
 refine RC.out.mono ?_
 intro e w3 hr
 rcases rd_cases hr with ⟨x, h1, rfl, g3⟩ | ⟨l, p', v, h1, rfl, ⟨oR, hle⟩, R3, g3, l3⟩
 ·
  obtain rfl : O = .error x := by rw [DE.out]; exact decR1_bad h1
  have M3 := BM.grown g3 (by simp; omega)
  have E3 := BE.grown g3 (by simp; omega)
  have b3 := below_grown bR g3 bR.size (by omega)
  clear hr g3 RC
  go_wp2_with fail
  refine leaves_cons (f := 214) (args := #[.pointer (some ⟨w.heap.size, 0, none⟩), .pointer (some ⟨w.heap.size + 1, 0, none⟩)]) (by simp) (by simp [go_sem]) ?_
  refine (dec1_stop w.heap.size _ (msgC_len _ _ _ _ _) _ _ _ M3 E3).mono ?_
  rintro e u' w4 ⟨rfl, rfl, c0, c1, k4⟩
  have b4 := b3.trans k4
  simp only [settle]
  refine leaves_dec rfl rfl c0 rfl c1 ?_
  exact ⟨NE.out _ rfl, rfl, b4⟩
 have M3 := BM.grown g3 (by simp; omega)
 have E3 := BE.grown g3 (by simp; omega)
 have C3 := BC.grown g3 (by simp; omega)
 have b3 := below_grown bR g3 bR.size (by omega)
 have q3 := oQ.blk g3 R (by decide) (by decide)
 replace DE : Hid (O = _) := Hh (DE.out.trans (decR1_ok h1))
 clear hr BM BE BC bR oQ cc RC
 obtain ⟨A1, c1, hv⟩ := oR.form
 subst hv
 go_wp2_with (refine at_op (.store 48 (.tmp 41) (.tmp 40)) rfl ?_; go_must (refine wpList_stC rfl 48 (.tmp 41) (.tmp 40) rfl w.heap.size 11 rfl (.slice A1 l.length c1) rfl M3 (by rw [msgC_len]; decide) rrsInfo1 rfl rfl ?_))
 intro w4 M4 g4 _
 replace M4 : Blk w4 w.heap.size 50 (msgC hd (.slice A acc.length c) (.slice A1 l.length c1) nilS nilS) := M4
 have q4 := q3.blk g4 M3 (by decide) (by decide)
 have R4 : RdM w4 gr m p' := Blk.grown R3 g4 (by simp; omega)
 have E4 := E3.grown g4 (by simp)
 have C4 := C3.grown g4 (by simp; omega)
 have b4 := below_grown b3 g4 b3.size (Nat.le_refl _)
 have oA := (oR.blk g4 M3 (by decide) (by decide)).to0
 clear M3 E3 C3 b3 q3 R3 g3 g4 h1 oR R lp wr
 clear hlt'
 have cc := C4.cell_ 2 rfl
 have RC := Hh (mrecords_any gr m p' n2 w4 R4 hl l3 (by omega))
 go_wp2_with fail
 refine RC.out.mono ?_
 intro e w5 hr
 rcases rd_cases hr with ⟨x, h1, rfl, g5⟩ | ⟨l', p5, v, h1, rfl, ⟨oR, hle'⟩, R5, g5, l5⟩
 ·
  obtain rfl : O = .error x := by rw [DE.out]; exact decR2_bad h1
  have M3 := M4.grown g5 (by simp; omega)
  have E3 := E4.grown g5 (by simp; omega)
  have b3 := below_grown b4 g5 b4.size (by omega)
  clear hr g5 RC
  go_wp2_with fail
  refine leaves_cons (f := 214) (args := #[.pointer (some ⟨w.heap.size, 0, none⟩), .pointer (some ⟨w.heap.size + 1, 0, none⟩)]) (by simp) (by simp [go_sem]) ?_
  refine (dec1_stop w.heap.size _ (msgC_len _ _ _ _ _) _ _ _ M3 E3).mono ?_
  rintro e u' w4 ⟨rfl, rfl, c0, c1, k4⟩
  have b4 := b3.trans k4
  simp only [settle]
  refine leaves_dec rfl rfl c0 rfl c1 ?_
  exact ⟨NE.out _ rfl, rfl, b4⟩
 have M5 := M4.grown g5 (by simp; omega)
 have E5 := E4.grown g5 (by simp; omega)
 have C5 := C4.grown g5 (by simp; omega)
 have b5 := below_grown b4 g5 b4.size (by omega)
 have q5 := q4.blk g5 R4 (by decide) (by decide)
 have oA5 := oA.blk g5 R4 (by decide) (by decide)
 replace DE : Hid (O = _) := Hh (DE.out.trans (decR2_ok h1))
 obtain ⟨A2, c2, hv⟩ := oR.form
 subst hv
 clear hr M4 E4 C4 b4 q4 oA cc RC R4 g5 h1 l3
 go_wp2_with (refine at_op (.store 48 (.tmp 45) (.tmp 44)) rfl ?_; go_must (refine wpList_stC rfl 48 (.tmp 45) (.tmp 44) rfl w.heap.size 12 rfl (.slice A2 l'.length c2) rfl M5 (by rw [msgC_len]; decide) rrsInfo1 rfl rfl ?_))
 intro w6 M6 g6 _
 replace M6 : Blk w6 w.heap.size 50 (msgC hd (.slice A acc.length c) (.slice A1 l.length c1) (.slice A2 l'.length c2) nilS) := M6
 have q6 := q5.blk g6 M5 (by decide) (by decide)
 have oA6 := oA5.blk g6 M5 (by decide) (by decide)
 have oU6 := (oR.blk g6 M5 (by decide) (by decide)).to0
 have R6 : RdM w6 gr m p5 := Blk.grown R5 g6 (by simp; omega)
 have E6 := E5.grown g6 (by simp)
 have C6 := C5.grown g6 (by simp; omega)
 have b6 := below_grown b5 g6 b5.size (Nat.le_refl _)
 clear M5 E5 C5 b5 q5 R5 g6 oR oA5
 have cc := C6.cell_ 3 rfl
 have RC := Hh (mrecords_any gr m p5 n3 w6 R6 hl l5 (by omega))
 go_wp2_with fail
 refine RC.out.mono ?_
 intro e w7 hr
 rcases rd_cases hr with ⟨x, h1, rfl, g7⟩ | ⟨l7, p7, v, h1, rfl, ⟨oR, hle7⟩, R7, g7, l7'⟩
 ·
  obtain rfl : O = .error x := by rw [DE.out]; exact decR3_bad h1
  have M3 := M6.grown g7 (by simp; omega)
  have E3 := E6.grown g7 (by simp; omega)
  have b3 := below_grown b6 g7 b6.size (by omega)
  clear hr g7 RC
  go_wp2_with fail
  refine leaves_cons (f := 214) (args := #[.pointer (some ⟨w.heap.size, 0, none⟩), .pointer (some ⟨w.heap.size + 1, 0, none⟩)]) (by simp) (by simp [go_sem]) ?_
  refine (dec1_stop w.heap.size _ (msgC_len _ _ _ _ _) _ _ _ M3 E3).mono ?_
  rintro e u' w4 ⟨rfl, rfl, c0, c1, k4⟩
  have b4 := b3.trans k4
  simp only [settle]
  refine leaves_dec rfl rfl c0 rfl c1 ?_
  exact ⟨NE.out _ rfl, rfl, b4⟩
 have M7 := M6.grown g7 (by simp; omega)
 have E7 := E6.grown g7 (by simp; omega)
 have b7 := below_grown b6 g7 b6.size (by omega)
 have q7 := q6.blk g7 R6 (by decide) (by decide)
 have oA7 := oA6.blk g7 R6 (by decide) (by decide)
 have oU7 := oU6.blk g7 R6 (by decide) (by decide)
 replace DE : Hid (O = _) := Hh (DE.out.trans (decR3_ok h1))
 obtain ⟨A3, c3, hv⟩ := oR.form
 subst hv
 clear hr M6 E6 C6 b6 q6 oA6 oU6 cc RC R6 g7 h1 l5
 go_wp2_with (refine at_op (.store 48 (.tmp 49) (.tmp 48)) rfl ?_; go_must (refine wpList_stC rfl 48 (.tmp 49) (.tmp 48) rfl w.heap.size 13 rfl (.slice A3 l7.length c3) rfl M7 (by rw [msgC_len]; decide) rrsInfo1 rfl rfl ?_))
 intro w8 M8 g8 _
 replace M8 : Blk w8 w.heap.size 50 (msgC hd (.slice A acc.length c) (.slice A1 l.length c1) (.slice A2 l'.length c2) (.slice A3 l7.length c3)) := M8
 have q8 := q7.blk g8 M7 (by decide) (by decide)
 have oA8 := oA7.blk g8 M7 (by decide) (by decide)
 have oU8 := oU7.blk g8 M7 (by decide) (by decide)
 have oE8 := (oR.blk g8 M7 (by decide) (by decide)).to0
 have R8 : RdM w8 gr m p7 := Blk.grown R7 g8 (by simp; omega)
 have E8 := E7.grown g8 (by simp)
 have b8 := below_grown b7 g8 b7.size (Nat.le_refl _)
 clear M7 E7 b7 q7 R7 g8 oR oA7 oU7
 have cc := Blk.cell_ R8 1 rfl
 by_cases hp : p7 < m.length
 case pos =>
  have hp' : (p7 : Int) < m.length := by omega
  obtain rfl : O = .error 2 := by rw [DE.out, if_pos hp]
  clear hp
  go_wp2_with fail
  refine (mchk_bad 2 (by decide) _).mono ?_
  rintro _ w9 ⟨rfl, rfl⟩
  have M3 := M8
  have E3 := E8
  have b3 := b8
  go_wp2_with fail
  refine leaves_cons (f := 214) (args := #[.pointer (some ⟨w.heap.size, 0, none⟩), .pointer (some ⟨w.heap.size + 1, 0, none⟩)]) (by simp) (by simp [go_sem]) ?_
  refine (dec1_stop w.heap.size _ (msgC_len _ _ _ _ _) _ _ _ M3 E3).mono ?_
  rintro e u' w4 ⟨rfl, rfl, c0, c1, k4⟩
  have b4 := b3.trans k4
  simp only [settle]
  refine leaves_dec rfl rfl c0 rfl c1 ?_
  exact ⟨NE.out _ rfl, rfl, b4⟩
 have hp' : ¬ (p7 : Int) < m.length := by omega
 obtain rfl : O = .ok ⟨hd, acc, l, l', l7⟩ := by rw [DE.out, if_neg hp]
 obtain ⟨L, hL⟩ : ∃ L, L = msgC hd (.slice A acc.length c) (.slice A1 l.length c1) (.slice A2 l'.length c2) (.slice A3 l7.length c3) := ⟨_, rfl⟩
 have lL : L.length = 14 := by rw [hL]; rfl
 have oneL := Hh (show ∀ v ∈ L, v.oneCell' = true by rw [hL]; exact msgC_one hd rfl rfl rfl rfl)
 rw [← hL] at M8
 have HLL := Hh hL
 have q8' := q8.to0
 clear hL hp DE NE R8 q8
 go_wp2_with (first
  | (refine at_op (.load 50 (.tmp 2)) rfl ?_; go_must (refine wpList_ldB rfl _ _ rfl w.heap.size 0 rfl M8 14 (by omega) _ underlying50 rfl msgInfo L (tk0 (by omega)) ?_))
  | (refine at_op (.store 50 (.tmp 2) (.tmp 56)) rfl ?_; go_must (refine wpList_stB rfl _ _ _ rfl w.heap.size 0 rfl L rfl M8 (by omega) (by rw [lL]; exact msgInfo) oneL.out ?_)))
 intro w9 M9 g9 _
 have M9' : Blk w9 w.heap.size 50 (L ++ List.drop 14 L) := by simpa [lL] using M9
 rw [List.drop_of_length_le (by omega), List.append_nil] at M9'
 replace M9 := M9'
 clear M9'
 have E9 := E8.grown g9 (by simp)
 have q9 := q8'.blk g9 M8 (by decide) (by decide)
 have oA9 := oA8.blk g9 M8 (by decide) (by decide)
 have oU9 := oU8.blk g9 M8 (by decide) (by decide)
 have oE9 := oE8.blk g9 M8 (by decide) (by decide)
 have b9 := below_grown b8 g9 b8.size (Nat.le_refl _)
 clear M8 E8 q8' oA8 oU8 oE8 b8 g9
 go_wp2_with (refine at_op (.store 142 (.tmp 3) (.const (.int .i64 0))) rfl ?_; go_must (refine wpList_stC rfl 142 (.tmp 3) (.const (.int .i64 0)) rfl (w.heap.size + 1) 0 rfl (.int .i64 0) rfl E9 (by simp) errInfo1 rfl rfl ?_))
 intro w10 E10 g10 _
 replace E10 : Blk w10 (w.heap.size + 1) 142 [.int .i64 0] := E10
 have M10 := M9.grown g10 (by simp)
 have q10 := q9.blk g10 E9 (by decide) (by decide)
 have oA10 := oA9.blk g10 E9 (by decide) (by decide)
 have oU10 := oU9.blk g10 E9 (by decide) (by decide)
 have oE10 := oE9.blk g10 E9 (by decide) (by decide)
 have b10 := below_grown b9 g10 b9.size (by omega)
 clear M9 E9 q9 oA9 oU9 oE9 b9 g10
 go_wp2_with fail
 refine leaves_cons (f := 214) (args := #[.pointer (some ⟨w.heap.size, 0, none⟩), .pointer (some ⟨w.heap.size + 1, 0, none⟩)]) (by simp) (by simp [go_sem]) ?_
 refine (dec1_idle _ _ _).mono ?_
 rintro e u' w11 ⟨rfl, rfl, rfl⟩
 simp only [settle]
 refine leaves_dec rfl rfl M10 lL E10 ?_
 exact ⟨L, rfl, ⟨_, _, _, _, HLL.out, q10, oA10, oU10, oE10, (show acc.length ≤ 65535 by omega), (show l.length ≤ 65535 by omega), (show l'.length ≤ 65535 by omega), (show l7.length ≤ 65535 by omega)⟩, b10⟩
theorem mdecode_any (m : List UInt8) (w : World) (hl : m.length ≤ maxLen) : Calls prog 179 #[.string (bs m)] w (DecRet (decM m) w) := by
 by_cases h1 : 65535 < m.length
 ·
  have e : decM m = .error 3 := by unfold decM; rw [if_pos h1]
  rw [e]; exact mdecode_long m w h1 hl
 ·
  by_cases h2 : m.length < 12
  ·
   have e : decM m = .error 1 := by unfold decM; rw [if_neg h1, if_pos h2]
   rw [e]; exact mdecode_short m w h2
  ·
   exact mdecode_main m w (by omega) (by omega)
theorem wpList_ldG {P : Program} {ops : Array Oper} {rest : List Oper} {op : Oper} {a : Act} {w : World} {Q : Exit → Act → World → Prop} (ty : TypeId) (x : Operand) (ho : op.op = .load ty x) (hw : Region.wanted op (yielded ops a.tmps) = true)
  (g o : Nat) (hx : a.eval x = .pointer (some ⟨g, o, none⟩)) {t : TypeId} {L : List Value} (hb : Blk w g t L) (n : Nat) (hn : o + n ≤ L.length) (d : TypeDesc)
  (hu : P.underlying ty = some d) (hd : d.isRow = true) (hi : (P.info? ty).map (·.size) = some n) (sub : List Value) (hsub : (L.drop o).take n = sub)
  (h : wpList P ops Q rest (a.put op.dst (.agg sub.toArray)) w) : wpList P ops Q (op :: rest) a w := by
 have hr := hb.loads (P := P) ty o n hn d hu hd hi sub hsub
 unfold wpList
 rw [if_pos hw]
 left
 unfold Oper.wp execOp
 simp only [ho, hx, Sem.run_bind, hr, Result.andThen_ok, Sem.run_pure]
 exact h
theorem msgZ_len : msgZ.length = 14 := rfl
theorem MsgOwn.len {w : World} {cs : List Value} {m : Msg} (h : MsgOwn w cs m) : cs.length = 14 := by obtain ⟨vq, va, vu, ve, rfl, _⟩ := h; rfl
theorem MsgOwn.one {w : World} {cs : List Value} {m : Msg} (h : MsgOwn w cs m) : ∀ v ∈ cs, v.oneCell' = true := by
 obtain ⟨vq, va, vu, ve, rfl, h1, h2, h3, h4, _⟩ := h
 obtain ⟨_, _, rfl⟩ := h1.form
 obtain ⟨_, _, rfl⟩ := h2.form
 obtain ⟨_, _, rfl⟩ := h3.form
 obtain ⟨_, _, rfl⟩ := h4.form
 exact msgC_one _ rfl rfl rfl rfl
def DecOne (o : Except Int Msg) (w : World) (e : Ending) (w' : World) : Prop :=
 ∃ ds mm x, e = .returned (.tuple #[.agg ds.toArray, .int .i64 x]) ∧ MsgOwn w' ds mm ∧ Below w.heap.size w w' ∧ ((x = 0 ∧ o = .ok mm) ∨ (x ≠ 0 ∧ o = .error x ∧ mm = Msg.zero))
theorem dec_one {o : Except Int Msg} {w : World} {e : Ending} {w' : World} (h : DecRet o w e w') : DecOne o w e w' := by
 cases o with
 | error x => obtain ⟨h1, h2, h3⟩ := h; exact ⟨msgZ, Msg.zero, x, h2, MsgOwn.zero w', h3, .inr ⟨h1, rfl, rfl⟩⟩
 | ok m => obtain ⟨cs, h2, h3, h4⟩ := h; exact ⟨cs, m, 0, h2, h3, h4, .inl ⟨rfl, rfl⟩⟩
theorem mdecode_one (m : List UInt8) (w : World) (hl : m.length ≤ maxLen) : Calls prog 179 #[.string (bs m)] w (DecOne (decM m) w) := (mdecode_any m w hl).mono fun _ _ h => dec_one h
end Go.Proofs.YthnbcmlnpdabhaaGreat

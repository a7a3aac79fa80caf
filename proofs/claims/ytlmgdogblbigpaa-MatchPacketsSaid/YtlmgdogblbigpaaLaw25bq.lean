/-
  Layer 25, the laws' own: MatchPackets.
-/
import Derived.Test.YtlmgdogblbigpaaLaw25cq
import Derived.Test.YtlmgdogblbigpaaHOq
namespace Go.Proofs.Ytlmgdogblbigpaa
open Go.RowKit
set_option maxRecDepth 100000
set_option linter.unusedVariables false
set_option linter.unusedSimpArgs false

set_option maxHeartbeats 8000000 in
theorem matchPackets_any (cs : List Value) (y : Qy) (A : Option Addr) (c : Nat) (e : Ev) (w : World) (h1 : QyIs w cs y A c) (hip : e.fr.ip.length = 16) (hs : e.data.length ≤ maxLen) :
    Calls Try.prog 8 #[.agg cs.toArray, .agg (evC e).toArray] w (RetB (.bool true) w) := by
  have hcl : cs.length = 23 := by rw [h1.hcs]; exact qyC_len h1.ip
  have hel := evC_len hip
  have L20 : cs[20]? = some (.slice A y.q.name.length c) := by rw [h1.hcs]; exact qyC_at h1.ip 2
  have E21 : (evC e)[21]? = some (.string (bs e.data)) := evC_at hip 2
  have FW := Lib.hid (fun w' (b : Below w.heap.size w w') => fewN_any A c y.q.name w' (h1.nm.below b))
  have TO := Lib.hid (fun w' (b : Below w.heap.size w w') => to_any cs y A c w' (h1.below b))
  have PK := Lib.hid (fun w' (b : Below w.heap.size w w') => packet_any cs y A c e w' (h1.below b) hip hs)
  have FR := Lib.hid (fun w' (b : Below w.heap.size w w') => frame_any cs y A c e.data w' (h1.below b) hs)
  have RP := Lib.hid (fun w' (b : Below w.heap.size w w') hq => rpacket_any cs y A c e w' (h1.below b) hip hq)
  have RF := Lib.hid (fun w' (b : Below w.heap.size w w') hq => rframe_any cs y A c e.data w' (h1.below b) hq)
  clear h1 hip hs
  generalize hE : evC e = es at *
  have B1 : Blk ((w.alloc (.cells cs.toArray 63)).alloc (.cells es.toArray 70)) w.heap.size 63 cs := (Blk.new w 63 cs).alloc _
  have B2 : Blk ((w.alloc (.cells cs.toArray 63)).alloc (.cells es.toArray 70)) (w.heap.size + 1) 70 es := Blk.new' _ 70 es _ (by simp)
  have HB : Below w.heap.size w ((w.alloc (.cells cs.toArray 63)).alloc (.cells es.toArray 70)) := ((Below.refl _ _).alloc (Nat.le_refl _) _).alloc (by simp) _
  clear hE
  go_enter Try.func8, Try.ntmps8
  have C1 := B1
  have C2 := B2
  have HB1 := HB
  have a20 := C1.cell_ 20 L20
  have a21 := C2.cell_ 21 E21
  clear B1 B2 HB
  by_cases hd : 3000 < e.data.length
  case pos =>
    have hd' : (3000 : Int) < e.data.length := by omega
    clear hd FW TO PK FR RP RF
    generalize e.data = dt at *
    generalize y.q.name.length = nl at *
    go_wp2_with fail
    refine (works25_any _).mono ?_
    rintro _ w2 ⟨rfl, b2⟩
    have HB2 := below_then HB1 HB1.size b2
    clear b2
    go_wp2_with fail
    go_ret
    exact RetB.mk rfl HB2
  have hd' : ¬ (3000 : Int) < e.data.length := by omega
  clear hd
  by_cases hf : lsum y.q.name ≤ 400
  case neg =>
    rw [decide_eq_false hf] at FW
    clear hf TO PK FR RP RF
    generalize e.data = dt at *
    generalize y.q.name.length = nl at *
    go_wp2_with fail
    refine (FW.out _ HB1).mono ?_
    rintro _ w2 ⟨rfl, rfl⟩
    go_wp2_with fail
    refine (works25_any _).mono ?_
    rintro _ w2 ⟨rfl, b2⟩
    have HB2 := below_then HB1 HB1.size b2
    clear b2
    go_wp2_with fail
    go_ret
    exact RetB.mk rfl HB2
  rw [decide_eq_true hf] at FW
  replace RP := Lib.hid (fun w' b => RP.out w' b (by omega))
  replace RF := Lib.hid (fun w' b => RF.out w' b (by omega))
  clear hf
  generalize y.q.name.length = nl at *
  go_wp2_with fail
  refine (FW.out _ HB1).mono ?_
  rintro _ w2 ⟨rfl, rfl⟩
  clear FW a20 a21
  obtain ⟨pp, hpp⟩ : ∃ pp, Hid (packP y e = pp) := ⟨_, Lib.hid rfl⟩
  rw [hpp.out] at PK RP
  obtain ⟨ff, hff⟩ : ∃ ff, Hid (frameP y (decM e.data) = ff) := ⟨_, Lib.hid rfl⟩
  rw [hff.out] at FR RF
  clear hpp hff
  generalize e.data = dt at *
  generalize ((w.alloc (.cells cs.toArray 63)).alloc (.cells es.toArray 70)) = w1 at *
  have KS : Hid (∀ V V', (Blk V w.heap.size 63 cs ∧ Blk V (w.heap.size + 1) 70 es ∧ Below w.heap.size w V) → Below V.heap.size V V' → (Blk V' w.heap.size 63 cs ∧ Blk V' (w.heap.size + 1) 70 es ∧ Below w.heap.size w V')) := Lib.hid (fun V V' h b => ⟨h.1.below b h.1.lt, h.2.1.below b h.2.1.lt, below_then h.2.2 h.2.2.size b⟩)
  go_upto_region 4 with fail
  go_cut [5, 6] (fun v5 v6 wx => ∃ g ds, v5 = .pointer (some ⟨g, 0, none⟩) ∧ v6 = .bool pp.2 ∧ Blk wx g 52 ds ∧ MsgOwn wx ds pp.1 ∧ Below w.heap.size w wx ∧ Blk wx w.heap.size 63 cs ∧ Blk wx (w.heap.size + 1) 70 es ∧ w.heap.size + 2 ≤ g)
  case first =>
    refine wp_region_held_drew (S := fun V => Blk V w.heap.size 63 cs ∧ Blk V (w.heap.size + 1) 70 es ∧ Below w.heap.size w V) (by kernel_rfl) ⟨C1.drew, C2.drew, HB1.drew⟩ (fun hS => ?_)
    refine held_ld 0 (some 26) 63 (.tmp 2) ⟨w.heap.size, 0, none⟩ rfl rfl rfl rfl (by kernel_rfl) (by kernel_rfl) (by kernel_rfl) (fun _ _ _ h => h) (by kernel_rfl) (fun V hV => hV.1.loads 63 0 23 (by omega) _ Try.underlying63 rfl qrInfo cs (by rw [List.drop_zero, List.take_of_length_le (by omega)])) hS ?_
    simp only [Act.put, List.setIfInBounds_toArray, List.set_cons_zero, List.set_cons_succ]
    refine held_ld 2 (some 28) 70 (.tmp 3) ⟨w.heap.size + 1, 0, none⟩ rfl rfl rfl rfl (by kernel_rfl) (by kernel_rfl) (by kernel_rfl) (fun _ _ _ h => h) (by kernel_rfl) (fun V hV => hV.2.1.loads 70 0 22 (by omega) _ Try.underlying70 rfl evInfo es (by rw [List.drop_zero, List.take_of_length_le (by omega)])) hS ?_
    simp only [Act.put, List.setIfInBounds_toArray, List.set_cons_zero, List.set_cons_succ]
    refine ord_two 1 7 (by kernel_rfl) ?_ ?_
    · refine opw_call 1 (some 27) 36 #[.agg cs.toArray] rfl rfl (by kernel_rfl) (by go_simp) (TO.out _ hS.2.2) ?_
      rintro _ w2 ⟨rfl, b2⟩
      have hS2 := KS.out _ _ hS b2
      refine ⟨_, rfl, hS2, ?_⟩
      clear hS b2
      have hS := hS2
      clear hS2
      simp only [Act.put, List.setIfInBounds_toArray, List.set_cons_zero, List.set_cons_succ]
      refine ord_two 3 7 (by kernel_rfl) ?_ ?_
      · refine opw_call 3 (some 29) 38 #[.agg cs.toArray, .agg es.toArray] rfl rfl (by kernel_rfl) (by go_simp) (PK.out _ hS.2.2) ?_
        rintro _ w3 ⟨ds, rfl, hM, b3⟩
        have hdl := hM.len
        have hd1 := Lib.hid hM.one
        have hS3 := KS.out _ _ hS b3
        refine ⟨_, rfl, hS3, ?_⟩
        clear hS b3
        have hS := hS3
        clear hS3
        simp only [Act.put, List.setIfInBounds_toArray, List.set_cons_zero, List.set_cons_succ]
        (refine held_val 4 (some 25) rfl rfl (by kernel_rfl) (by kernel_rfl) (by kernel_rfl) (fun _ _ _ h => h) (by kernel_rfl) (fun W hW => rfl) hS ?_; simp only [Act.put, List.setIfInBounds_toArray, List.set_cons_zero, List.set_cons_succ])
        (refine held_val 5 (some 30) rfl rfl (by kernel_rfl) (by kernel_rfl) (by kernel_rfl) (fun _ _ _ h => h) (by kernel_rfl) (fun W hW => rfl) hS ?_; simp only [Act.put, List.setIfInBounds_toArray, List.set_cons_zero, List.set_cons_succ])
        (refine held_val 6 (some 31) rfl rfl (by kernel_rfl) (by kernel_rfl) (by kernel_rfl) (fun _ _ _ h => h) (by kernel_rfl) (fun W hW => rfl) hS ?_; simp only [Act.put, List.setIfInBounds_toArray, List.set_cons_zero, List.set_cons_succ])
        have kn : Below w3.heap.size w3 (w3.alloc (.cells msgZ.toArray 52)) := (Below.refl _ _).alloc (Nat.le_refl _) _
        have hS4 := KS.out _ _ hS kn
        have hM4 := hM.below kn
        have Bz := Blk.new w3 52 msgZ
        have hz : w.heap.size + 2 ≤ w3.heap.size := by have := hS.2.1.lt; omega
        refine held_run 7 (some 5) (by kernel_rfl) rfl rfl (by kernel_rfl) (v := .pointer (some ⟨w3.heap.size, 0, none⟩)) (w' := w3.alloc (.cells msgZ.toArray 52)) (by kernel_rfl) hS4 ?_
        simp only [Act.put, List.setIfInBounds_toArray, List.set_cons_zero, List.set_cons_succ]
        clear hS hM kn
        have hS := hS4
        clear hS4
        generalize w3.alloc (.cells msgZ.toArray 52) = wz at *
        generalize w3.heap.size = gz at *
        refine held_stB 8 none 52 (.tmp 5) (.tmp 30) (by kernel_rfl) rfl rfl rfl (by kernel_rfl) gz 0 rfl ds rfl Bz (by have := msgZ_len; omega) (by rw [hdl]; exact msgInfo) hd1.out ?_
        intro w8 B8 g8 zs
        clear zs
        replace B8 : Blk w8 gz 52 ds := whole14 B8 (by have := msgZ_len; omega)
        have hM8 := hM4.blk g8 Bz
        have hS8 : Blk w8 w.heap.size 63 cs ∧ Blk w8 (w.heap.size + 1) 70 es ∧ Below w.heap.size w w8 := ⟨hS.1.grown g8 (by simp; omega), hS.2.1.grown g8 (by simp; omega), below_grown hS.2.2 g8 hS.2.2.size (by omega)⟩
        clear hM4 Bz g8
        refine ⟨hS8, ?_⟩
        clear hS
        have hS := hS8
        clear hS8
        simp only [Act.put, List.setIfInBounds_toArray, List.set_cons_zero, List.set_cons_succ]
        (refine held_val 9 (some 6) rfl rfl (by kernel_rfl) (by kernel_rfl) (by kernel_rfl) (fun _ _ _ h => h) (by kernel_rfl) (fun W hW => rfl) hS ?_; simp only [Act.put, List.setIfInBounds_toArray, List.set_cons_zero, List.set_cons_succ])
        refine wpAnyH_done (by kernel_rfl) ?_ _
        go_wp2_with fail
        go_meet
        case rel => exact ⟨gz, ds, rfl, rfl, B8, hM8, hS.2.2, hS.1, hS.2.1, hz⟩
      · have kn : Below w2.heap.size w2 (w2.alloc (.cells msgZ.toArray 52)) := (Below.refl _ _).alloc (Nat.le_refl _) _
        have hS4 := KS.out _ _ hS kn
        have Bn := Blk.new w2 52 msgZ
        have hz : w.heap.size + 2 ≤ w2.heap.size := by have := hS.2.1.lt; omega
        refine opw_run 7 (some 5) (v := .pointer (some ⟨w2.heap.size, 0, none⟩)) (w' := w2.alloc (.cells msgZ.toArray 52)) rfl rfl (by kernel_rfl) (by kernel_rfl) ?_
        refine ⟨hS4, ?_⟩
        clear hS kn
        have hS := hS4
        clear hS4
        simp only [Act.put, List.setIfInBounds_toArray, List.set_cons_zero, List.set_cons_succ]
        generalize w2.alloc (.cells msgZ.toArray 52) = wy at *
        generalize w2.heap.size = gz at *
        refine held_call 3 (some 29) 38 #[.agg cs.toArray, .agg es.toArray] (by kernel_rfl) rfl rfl (by kernel_rfl) (by go_simp) (PK.out _ hS.2.2) ?_
        rintro _ w3 ⟨ds, rfl, hM4, b3⟩
        have hdl := hM4.len
        have hd1 := Lib.hid hM4.one
        have hS3 := KS.out _ _ hS b3
        have Bz := Bn.below b3 Bn.lt
        refine ⟨_, rfl, hS3, ?_⟩
        clear hS b3 Bn
        have hS := hS3
        clear hS3
        simp only [Act.put, List.setIfInBounds_toArray, List.set_cons_zero, List.set_cons_succ]
        (refine held_val 4 (some 25) rfl rfl (by kernel_rfl) (by kernel_rfl) (by kernel_rfl) (fun _ _ _ h => h) (by kernel_rfl) (fun W hW => rfl) hS ?_; simp only [Act.put, List.setIfInBounds_toArray, List.set_cons_zero, List.set_cons_succ])
        (refine held_val 5 (some 30) rfl rfl (by kernel_rfl) (by kernel_rfl) (by kernel_rfl) (fun _ _ _ h => h) (by kernel_rfl) (fun W hW => rfl) hS ?_; simp only [Act.put, List.setIfInBounds_toArray, List.set_cons_zero, List.set_cons_succ])
        (refine held_val 6 (some 31) rfl rfl (by kernel_rfl) (by kernel_rfl) (by kernel_rfl) (fun _ _ _ h => h) (by kernel_rfl) (fun W hW => rfl) hS ?_; simp only [Act.put, List.setIfInBounds_toArray, List.set_cons_zero, List.set_cons_succ])
        refine held_stB 8 none 52 (.tmp 5) (.tmp 30) (by kernel_rfl) rfl rfl rfl (by kernel_rfl) gz 0 rfl ds rfl Bz (by have := msgZ_len; omega) (by rw [hdl]; exact msgInfo) hd1.out ?_
        intro w8 B8 g8 zs
        clear zs
        replace B8 : Blk w8 gz 52 ds := whole14 B8 (by have := msgZ_len; omega)
        have hM8 := hM4.blk g8 Bz
        have hS8 : Blk w8 w.heap.size 63 cs ∧ Blk w8 (w.heap.size + 1) 70 es ∧ Below w.heap.size w w8 := ⟨hS.1.grown g8 (by simp; omega), hS.2.1.grown g8 (by simp; omega), below_grown hS.2.2 g8 hS.2.2.size (by omega)⟩
        clear hM4 Bz g8
        refine ⟨hS8, ?_⟩
        clear hS
        have hS := hS8
        clear hS8
        simp only [Act.put, List.setIfInBounds_toArray, List.set_cons_zero, List.set_cons_succ]
        (refine held_val 9 (some 6) rfl rfl (by kernel_rfl) (by kernel_rfl) (by kernel_rfl) (fun _ _ _ h => h) (by kernel_rfl) (fun W hW => rfl) hS ?_; simp only [Act.put, List.setIfInBounds_toArray, List.set_cons_zero, List.set_cons_succ])
        refine wpAnyH_done (by kernel_rfl) ?_ _
        go_wp2_with fail
        go_meet
        case rel => exact ⟨gz, ds, rfl, rfl, B8, hM8, hS.2.2, hS.1, hS.2.1, hz⟩
    · have kn : Below w1.drew.heap.size w1.drew (w1.drew.alloc (.cells msgZ.toArray 52)) := (Below.refl _ _).alloc (Nat.le_refl _) _
      have hS4 := KS.out _ _ hS kn
      have Bn := Blk.new w1.drew 52 msgZ
      have hz : w.heap.size + 2 ≤ w1.drew.heap.size := by have := hS.2.1.lt; omega
      refine opw_run 7 (some 5) (v := .pointer (some ⟨w1.drew.heap.size, 0, none⟩)) (w' := w1.drew.alloc (.cells msgZ.toArray 52)) rfl rfl (by kernel_rfl) (by kernel_rfl) ?_
      refine ⟨hS4, ?_⟩
      clear hS kn
      have hS := hS4
      clear hS4
      simp only [Act.put, List.setIfInBounds_toArray, List.set_cons_zero, List.set_cons_succ]
      generalize w1.drew.alloc (.cells msgZ.toArray 52) = wy at *
      generalize w1.drew.heap.size = gz at *
      refine held_call 1 (some 27) 36 #[.agg cs.toArray] (by kernel_rfl) rfl rfl (by kernel_rfl) (by go_simp) (TO.out _ hS.2.2) ?_
      rintro _ w2 ⟨rfl, b2⟩
      have hS2 := KS.out _ _ hS b2
      have Bn2 := Bn.below b2 Bn.lt
      refine ⟨_, rfl, hS2, ?_⟩
      clear hS b2 Bn
      have hS := hS2
      clear hS2
      simp only [Act.put, List.setIfInBounds_toArray, List.set_cons_zero, List.set_cons_succ]
      refine held_call 3 (some 29) 38 #[.agg cs.toArray, .agg es.toArray] (by kernel_rfl) rfl rfl (by kernel_rfl) (by go_simp) (PK.out _ hS.2.2) ?_
      rintro _ w3 ⟨ds, rfl, hM4, b3⟩
      have hdl := hM4.len
      have hd1 := Lib.hid hM4.one
      have hS3 := KS.out _ _ hS b3
      have Bz := Bn2.below b3 Bn2.lt
      refine ⟨_, rfl, hS3, ?_⟩
      clear hS b3 Bn2
      have hS := hS3
      clear hS3
      simp only [Act.put, List.setIfInBounds_toArray, List.set_cons_zero, List.set_cons_succ]
      (refine held_val 4 (some 25) rfl rfl (by kernel_rfl) (by kernel_rfl) (by kernel_rfl) (fun _ _ _ h => h) (by kernel_rfl) (fun W hW => rfl) hS ?_; simp only [Act.put, List.setIfInBounds_toArray, List.set_cons_zero, List.set_cons_succ])
      (refine held_val 5 (some 30) rfl rfl (by kernel_rfl) (by kernel_rfl) (by kernel_rfl) (fun _ _ _ h => h) (by kernel_rfl) (fun W hW => rfl) hS ?_; simp only [Act.put, List.setIfInBounds_toArray, List.set_cons_zero, List.set_cons_succ])
      (refine held_val 6 (some 31) rfl rfl (by kernel_rfl) (by kernel_rfl) (by kernel_rfl) (fun _ _ _ h => h) (by kernel_rfl) (fun W hW => rfl) hS ?_; simp only [Act.put, List.setIfInBounds_toArray, List.set_cons_zero, List.set_cons_succ])
      refine held_stB 8 none 52 (.tmp 5) (.tmp 30) (by kernel_rfl) rfl rfl rfl (by kernel_rfl) gz 0 rfl ds rfl Bz (by have := msgZ_len; omega) (by rw [hdl]; exact msgInfo) hd1.out ?_
      intro w8 B8 g8 zs
      clear zs
      replace B8 : Blk w8 gz 52 ds := whole14 B8 (by have := msgZ_len; omega)
      have hM8 := hM4.blk g8 Bz
      have hS8 : Blk w8 w.heap.size 63 cs ∧ Blk w8 (w.heap.size + 1) 70 es ∧ Below w.heap.size w w8 := ⟨hS.1.grown g8 (by simp; omega), hS.2.1.grown g8 (by simp; omega), below_grown hS.2.2 g8 hS.2.2.size (by omega)⟩
      clear hM4 Bz g8
      refine ⟨hS8, ?_⟩
      clear hS
      have hS := hS8
      clear hS8
      simp only [Act.put, List.setIfInBounds_toArray, List.set_cons_zero, List.set_cons_succ]
      (refine held_val 9 (some 6) rfl rfl (by kernel_rfl) (by kernel_rfl) (by kernel_rfl) (fun _ _ _ h => h) (by kernel_rfl) (fun W hW => rfl) hS ?_; simp only [Act.put, List.setIfInBounds_toArray, List.set_cons_zero, List.set_cons_succ])
      refine wpAnyH_done (by kernel_rfl) ?_ _
      go_wp2_with fail
      go_meet
      case rel => exact ⟨gz, ds, rfl, rfl, B8, hM8, hS.2.2, hS.1, hS.2.1, hz⟩
  obtain ⟨g5, ds, rfl, rfl, B5, hM5, HB5, C15, C25, hz5⟩ := hcut
  have hdl := hM5.len
  clear C1 C2 HB1 KS PK
  go_wp2_with (first
    | (refine at_op (.load 63 (.tmp 2)) rfl ?_; go_must (refine wpList_ldB rfl 63 (.tmp 2) rfl w.heap.size 0 rfl C15 23 (by omega) _ Try.underlying63 rfl qrInfo cs (by rw [List.drop_zero, List.take_of_length_le (by omega)]) ?_))
    | (refine at_op (.load 70 (.tmp 3)) rfl ?_; go_must (refine wpList_ldB rfl 70 (.tmp 3) rfl (w.heap.size + 1) 0 rfl C25 22 (by omega) _ Try.underlying70 rfl evInfo es (by rw [List.drop_zero, List.take_of_length_le (by omega)]) ?_)))
  refine (RP.out _ HB5).mono ?_
  rintro _ w6 ⟨es1, rfl, hM6, b6⟩
  have hel1 := hM6.len
  have ho1 := Lib.hid hM6.one
  have C16 := C15.below b6 C15.lt
  have C26 := C25.below b6 C25.lt
  have B56 := B5.below b6 B5.lt
  have hM56 := hM5.below b6
  have HB6 := below_then HB5 HB5.size b6
  clear b6 B5 hM5 HB5 C15 C25 RP
  go_wp2_with (refine at_op (.store 52 (.tmp 7) (.tmp 36)) rfl ?_; go_must (refine wpList_stB rfl 52 (.tmp 7) (.tmp 36) rfl w6.heap.size 0 rfl es1 rfl (Blk.new' _ _ msgZ _ rfl) (by rw [hel1, msgZ_len]; omega) (by rw [hel1]; exact msgInfo) ho1.out ?_))
  intro w7 B7 g7 _
  replace B7 : Blk w7 w6.heap.size 52 es1 := wholeG B7 (by have := msgZ_len; omega)
  have k7 : Below w6.heap.size w6 w7 := below_grown ((Below.refl _ _).alloc (Nat.le_refl _) _) g7 (by simp) (Nat.le_refl _)
  have C17 := C16.below k7 C16.lt
  have C27 := C26.below k7 C26.lt
  have B57 := B56.below k7 B56.lt
  have hM57 := hM56.below k7
  have hM7 := hM6.below k7
  have HB7 := below_then HB6 HB6.size k7
  clear g7 k7 C16 C26 B56 hM56 hM6 HB6 ho1
  generalize w6.heap.size = g7 at *
  go_upto_region 6 with fail
  go_cut [9, 10] (fun v9 v10 wx => ∃ g es2, v9 = .pointer (some ⟨g, 0, none⟩) ∧ v10 = .bool ff.2 ∧ Blk wx g 52 es2 ∧ MsgOwn wx es2 ff.1 ∧ Below w7.heap.size w7 wx)
  case first =>
    refine wp_region_held_drew (S := fun V => Below w7.heap.size w7 V) (by kernel_rfl) (Below.refl _ _).drew (fun hS => ?_)
    refine held_ld 0 (some 39) 63 (.tmp 2) ⟨w.heap.size, 0, none⟩ rfl rfl rfl rfl (by kernel_rfl) (by kernel_rfl) (by kernel_rfl) (fun _ _ _ h => h) (by kernel_rfl) (fun V hV => (C17.below hV C17.lt).loads 63 0 23 (by omega) _ Try.underlying63 rfl qrInfo cs (by rw [List.drop_zero, List.take_of_length_le (by omega)])) hS ?_
    simp only [Act.put, List.setIfInBounds_toArray, List.set_cons_zero, List.set_cons_succ]
    refine held_val 2 (some 41) (v := .pointer (some ⟨w.heap.size + 1, 21, none⟩)) rfl rfl (by kernel_rfl) (by kernel_rfl) (by kernel_rfl) (fun _ _ _ h => h) (by kernel_rfl) (fun W hW => rfl) hS ?_
    simp only [Act.put, List.setIfInBounds_toArray, List.set_cons_zero, List.set_cons_succ]
    refine held_ld 3 (some 42) 9 (.tmp 41) ⟨w.heap.size + 1, 21, none⟩ rfl rfl rfl rfl (by kernel_rfl) (by kernel_rfl) (by kernel_rfl) (fun _ _ _ h => h) (by kernel_rfl) (fun V hV => run_load1 Try.underlying9 rfl ((C27.below hV C27.lt).cell_ 21 E21)) hS ?_
    simp only [Act.put, List.setIfInBounds_toArray, List.set_cons_zero, List.set_cons_succ]
    refine ord_two 1 8 (by kernel_rfl) ?_ ?_
    · refine opw_call 1 (some 40) 36 #[.agg cs.toArray] rfl rfl (by kernel_rfl) (by go_simp) (TO.out _ (below_then HB7 HB7.size hS)) ?_
      rintro _ w8 ⟨rfl, b8⟩
      have hS2 : Below w7.heap.size w7 w8 := below_then hS hS.size b8
      refine ⟨_, rfl, hS2, ?_⟩
      clear hS
      have hS := hS2
      clear hS2
      simp only [Act.put, List.setIfInBounds_toArray, List.set_cons_zero, List.set_cons_succ]
      refine ord_two 4 8 (by kernel_rfl) ?_ ?_
      · refine opw_call 4 (some 43) 40 #[.agg cs.toArray, .string (bs dt)] rfl rfl (by kernel_rfl) (by go_simp) (FR.out _ (below_then HB7 HB7.size hS)) ?_
        rintro _ w9 ⟨es2, rfl, hM9, b9⟩
        have hel := hM9.len
        have he1 := Lib.hid hM9.one
        have hS3 : Below w7.heap.size w7 w9 := below_then hS hS.size b9
        refine ⟨_, rfl, hS3, ?_⟩
        clear hS
        have hS := hS3
        clear hS3
        simp only [Act.put, List.setIfInBounds_toArray, List.set_cons_zero, List.set_cons_succ]
        (refine held_val 5 (some 38) rfl rfl (by kernel_rfl) (by kernel_rfl) (by kernel_rfl) (fun _ _ _ h => h) (by kernel_rfl) (fun W hW => rfl) hS ?_; simp only [Act.put, List.setIfInBounds_toArray, List.set_cons_zero, List.set_cons_succ])
        (refine held_val 6 (some 44) rfl rfl (by kernel_rfl) (by kernel_rfl) (by kernel_rfl) (fun _ _ _ h => h) (by kernel_rfl) (fun W hW => rfl) hS ?_; simp only [Act.put, List.setIfInBounds_toArray, List.set_cons_zero, List.set_cons_succ])
        (refine held_val 7 (some 45) rfl rfl (by kernel_rfl) (by kernel_rfl) (by kernel_rfl) (fun _ _ _ h => h) (by kernel_rfl) (fun W hW => rfl) hS ?_; simp only [Act.put, List.setIfInBounds_toArray, List.set_cons_zero, List.set_cons_succ])
        refine ord_one 8 (by kernel_rfl) ?_
        generalize hWW : w9 = WW at *
        refine opw_run 8 (some 9) (v := .pointer (some ⟨WW.heap.size, 0, none⟩)) (w' := WW.alloc (.cells msgZ.toArray 52)) rfl rfl (by kernel_rfl) (by kernel_rfl) ?_
        have kn : Below WW.heap.size WW (WW.alloc (.cells msgZ.toArray 52)) := (Below.refl _ _).alloc (Nat.le_refl _) _
        have Bz := Blk.new WW 52 msgZ
        have hS4 := below_then hS hS.size kn
        have hz : w7.heap.size ≤ WW.heap.size := hS.size
        refine ⟨hS4, ?_⟩
        clear hS
        have hS := hS4
        clear hS4
        simp only [Act.put, List.setIfInBounds_toArray, List.set_cons_zero, List.set_cons_succ]
        replace hM9 := hM9.below kn
        clear kn
        generalize WW.heap.size = gz at *
        refine held_stB 9 none 52 (.tmp 9) (.tmp 44) (by kernel_rfl) rfl rfl rfl (by kernel_rfl) gz 0 rfl es2 rfl Bz (by have := msgZ_len; omega) (by rw [hel]; exact msgInfo) he1.out ?_
        intro wa Ba ga _
        replace Ba : Blk wa gz 52 es2 := wholeG Ba (by have := msgZ_len; omega)
        have hMa := hM9.blk ga Bz
        have hS5 := below_grown hS ga hS.size hz
        refine ⟨hS5, ?_⟩
        clear hS ga Bz hM9
        have hS := hS5
        clear hS5
        simp only [Act.put, List.setIfInBounds_toArray, List.set_cons_zero, List.set_cons_succ]
        (refine held_val 10 (some 10) rfl rfl (by kernel_rfl) (by kernel_rfl) (by kernel_rfl) (fun _ _ _ h => h) (by kernel_rfl) (fun W hW => rfl) hS ?_; simp only [Act.put, List.setIfInBounds_toArray, List.set_cons_zero, List.set_cons_succ])
        refine wpAnyH_done (by kernel_rfl) ?_ _
        go_wp2_with fail
        go_meet
        case rel => exact ⟨gz, es2, rfl, rfl, Ba, hMa, hS⟩
      · generalize hWW : w8 = WW at *
        refine opw_run 8 (some 9) (v := .pointer (some ⟨WW.heap.size, 0, none⟩)) (w' := WW.alloc (.cells msgZ.toArray 52)) rfl rfl (by kernel_rfl) (by kernel_rfl) ?_
        have kn : Below WW.heap.size WW (WW.alloc (.cells msgZ.toArray 52)) := (Below.refl _ _).alloc (Nat.le_refl _) _
        have Bz := Blk.new WW 52 msgZ
        have hS4 := below_then hS hS.size kn
        have hz : w7.heap.size ≤ WW.heap.size := hS.size
        refine ⟨hS4, ?_⟩
        clear hS
        have hS := hS4
        clear hS4
        simp only [Act.put, List.setIfInBounds_toArray, List.set_cons_zero, List.set_cons_succ]
        clear kn
        refine ord_one 4 (by kernel_rfl) ?_
        refine opw_call 4 (some 43) 40 #[.agg cs.toArray, .string (bs dt)] rfl rfl (by kernel_rfl) (by go_simp) (FR.out _ (below_then HB7 HB7.size hS)) ?_
        rintro _ w9 ⟨es2, rfl, hM9, b9⟩
        have hel := hM9.len
        have he1 := Lib.hid hM9.one
        have hS3 : Below w7.heap.size w7 w9 := below_then hS hS.size b9
        refine ⟨_, rfl, hS3, ?_⟩
        clear hS
        have hS := hS3
        clear hS3
        simp only [Act.put, List.setIfInBounds_toArray, List.set_cons_zero, List.set_cons_succ]
        replace Bz := Bz.below b9 Bz.lt
        (refine held_val 5 (some 38) rfl rfl (by kernel_rfl) (by kernel_rfl) (by kernel_rfl) (fun _ _ _ h => h) (by kernel_rfl) (fun W hW => rfl) hS ?_; simp only [Act.put, List.setIfInBounds_toArray, List.set_cons_zero, List.set_cons_succ])
        (refine held_val 6 (some 44) rfl rfl (by kernel_rfl) (by kernel_rfl) (by kernel_rfl) (fun _ _ _ h => h) (by kernel_rfl) (fun W hW => rfl) hS ?_; simp only [Act.put, List.setIfInBounds_toArray, List.set_cons_zero, List.set_cons_succ])
        (refine held_val 7 (some 45) rfl rfl (by kernel_rfl) (by kernel_rfl) (by kernel_rfl) (fun _ _ _ h => h) (by kernel_rfl) (fun W hW => rfl) hS ?_; simp only [Act.put, List.setIfInBounds_toArray, List.set_cons_zero, List.set_cons_succ])
        generalize WW.heap.size = gz at *
        refine held_stB 9 none 52 (.tmp 9) (.tmp 44) (by kernel_rfl) rfl rfl rfl (by kernel_rfl) gz 0 rfl es2 rfl Bz (by have := msgZ_len; omega) (by rw [hel]; exact msgInfo) he1.out ?_
        intro wa Ba ga _
        replace Ba : Blk wa gz 52 es2 := wholeG Ba (by have := msgZ_len; omega)
        have hMa := hM9.blk ga Bz
        have hS5 := below_grown hS ga hS.size hz
        refine ⟨hS5, ?_⟩
        clear hS ga Bz hM9
        have hS := hS5
        clear hS5
        simp only [Act.put, List.setIfInBounds_toArray, List.set_cons_zero, List.set_cons_succ]
        (refine held_val 10 (some 10) rfl rfl (by kernel_rfl) (by kernel_rfl) (by kernel_rfl) (fun _ _ _ h => h) (by kernel_rfl) (fun W hW => rfl) hS ?_; simp only [Act.put, List.setIfInBounds_toArray, List.set_cons_zero, List.set_cons_succ])
        refine wpAnyH_done (by kernel_rfl) ?_ _
        go_wp2_with fail
        go_meet
        case rel => exact ⟨gz, es2, rfl, rfl, Ba, hMa, hS⟩
    · obtain ⟨WW, hWW⟩ : ∃ WW, w7.drew = WW := ⟨_, rfl⟩
      rw [hWW] at hS ⊢
      refine opw_run 8 (some 9) (v := .pointer (some ⟨WW.heap.size, 0, none⟩)) (w' := WW.alloc (.cells msgZ.toArray 52)) rfl rfl (by kernel_rfl) (by kernel_rfl) ?_
      have kn : Below WW.heap.size WW (WW.alloc (.cells msgZ.toArray 52)) := (Below.refl _ _).alloc (Nat.le_refl _) _
      have Bz := Blk.new WW 52 msgZ
      have hS4 := below_then hS hS.size kn
      have hz : w7.heap.size ≤ WW.heap.size := hS.size
      refine ⟨hS4, ?_⟩
      clear hS
      have hS := hS4
      clear hS4
      simp only [Act.put, List.setIfInBounds_toArray, List.set_cons_zero, List.set_cons_succ]
      clear kn
      refine ord_one 1 (by kernel_rfl) ?_
      refine opw_call 1 (some 40) 36 #[.agg cs.toArray] rfl rfl (by kernel_rfl) (by go_simp) (TO.out _ (below_then HB7 HB7.size hS)) ?_
      rintro _ w8 ⟨rfl, b8⟩
      have hS2 : Below w7.heap.size w7 w8 := below_then hS hS.size b8
      refine ⟨_, rfl, hS2, ?_⟩
      clear hS
      have hS := hS2
      clear hS2
      simp only [Act.put, List.setIfInBounds_toArray, List.set_cons_zero, List.set_cons_succ]
      replace Bz := Bz.below b8 Bz.lt
      refine ord_one 4 (by kernel_rfl) ?_
      refine opw_call 4 (some 43) 40 #[.agg cs.toArray, .string (bs dt)] rfl rfl (by kernel_rfl) (by go_simp) (FR.out _ (below_then HB7 HB7.size hS)) ?_
      rintro _ w9 ⟨es2, rfl, hM9, b9⟩
      have hel := hM9.len
      have he1 := Lib.hid hM9.one
      have hS3 : Below w7.heap.size w7 w9 := below_then hS hS.size b9
      refine ⟨_, rfl, hS3, ?_⟩
      clear hS
      have hS := hS3
      clear hS3
      simp only [Act.put, List.setIfInBounds_toArray, List.set_cons_zero, List.set_cons_succ]
      replace Bz := Bz.below b9 Bz.lt
      (refine held_val 5 (some 38) rfl rfl (by kernel_rfl) (by kernel_rfl) (by kernel_rfl) (fun _ _ _ h => h) (by kernel_rfl) (fun W hW => rfl) hS ?_; simp only [Act.put, List.setIfInBounds_toArray, List.set_cons_zero, List.set_cons_succ])
      (refine held_val 6 (some 44) rfl rfl (by kernel_rfl) (by kernel_rfl) (by kernel_rfl) (fun _ _ _ h => h) (by kernel_rfl) (fun W hW => rfl) hS ?_; simp only [Act.put, List.setIfInBounds_toArray, List.set_cons_zero, List.set_cons_succ])
      (refine held_val 7 (some 45) rfl rfl (by kernel_rfl) (by kernel_rfl) (by kernel_rfl) (fun _ _ _ h => h) (by kernel_rfl) (fun W hW => rfl) hS ?_; simp only [Act.put, List.setIfInBounds_toArray, List.set_cons_zero, List.set_cons_succ])
      generalize WW.heap.size = gz at *
      refine held_stB 9 none 52 (.tmp 9) (.tmp 44) (by kernel_rfl) rfl rfl rfl (by kernel_rfl) gz 0 rfl es2 rfl Bz (by have := msgZ_len; omega) (by rw [hel]; exact msgInfo) he1.out ?_
      intro wa Ba ga _
      replace Ba : Blk wa gz 52 es2 := wholeG Ba (by have := msgZ_len; omega)
      have hMa := hM9.blk ga Bz
      have hS5 := below_grown hS ga hS.size hz
      refine ⟨hS5, ?_⟩
      clear hS ga Bz hM9
      have hS := hS5
      clear hS5
      simp only [Act.put, List.setIfInBounds_toArray, List.set_cons_zero, List.set_cons_succ]
      (refine held_val 10 (some 10) rfl rfl (by kernel_rfl) (by kernel_rfl) (by kernel_rfl) (fun _ _ _ h => h) (by kernel_rfl) (fun W hW => rfl) hS ?_; simp only [Act.put, List.setIfInBounds_toArray, List.set_cons_zero, List.set_cons_succ])
      refine wpAnyH_done (by kernel_rfl) ?_ _
      go_wp2_with fail
      go_meet
      case rel => exact ⟨gz, es2, rfl, rfl, Ba, hMa, hS⟩
  obtain ⟨g9, es2, rfl, rfl, B9, hM9, b9⟩ := hcut
  have hel2 := hM9.len
  have C19 := C17.below b9 C17.lt
  have C29 := C27.below b9 C27.lt
  have B59 := B57.below b9 B57.lt
  have B79 := B7.below b9 B7.lt
  have hM59 := hM57.below b9
  have hM79 := hM7.below b9
  have HB9 := below_then HB7 HB7.size b9
  have b21 := C29.cell_ 21 E21
  clear b9 C17 C27 B57 B7 hM57 hM7 HB7 FR TO
  go_wp2_with ((refine at_op (.load 63 (.tmp 2)) rfl ?_; go_must (refine wpList_ldB rfl 63 (.tmp 2) rfl w.heap.size 0 rfl C19 23 (by omega) _ Try.underlying63 rfl qrInfo cs (by rw [List.drop_zero, List.take_of_length_le (by omega)]) ?_)))
  refine (RF.out _ HB9).mono ?_
  rintro _ wa ⟨es3, rfl, hMa, ba⟩
  have hel3 := hMa.len
  have ho3 := Lib.hid hMa.one
  have B5a := B59.below ba B59.lt
  have B7a := B79.below ba B79.lt
  have B9a := B9.below ba B9.lt
  have hM5a := hM59.below ba
  have hM7a := hM79.below ba
  have hM9a := hM9.below ba
  have HBa := below_then HB9 HB9.size ba
  clear ba C19 C29 B59 B79 B9 hM59 hM79 hM9 HB9 RF b21
  go_wp2_with (refine at_op (.store 52 (.tmp 11) (.tmp 51)) rfl ?_; go_must (refine wpList_stB rfl 52 (.tmp 11) (.tmp 51) rfl wa.heap.size 0 rfl es3 rfl (Blk.new' _ _ msgZ _ rfl) (by rw [hel3, msgZ_len]; omega) (by rw [hel3]; exact msgInfo) ho3.out ?_))
  intro wb Bb gb _
  replace Bb : Blk wb wa.heap.size 52 es3 := wholeG Bb (by have := msgZ_len; omega)
  have kb : Below wa.heap.size wa wb := below_grown ((Below.refl _ _).alloc (Nat.le_refl _) _) gb (by simp) (Nat.le_refl _)
  have B5b := B5a.below kb B5a.lt
  have B7b := B7a.below kb B7a.lt
  have B9b := B9a.below kb B9a.lt
  have hM5b := hM5a.below kb
  have hM7b := hM7a.below kb
  have hM9b := hM9a.below kb
  have hMbb := hMa.below kb
  have HBb := below_then HBa HBa.size kb
  clear gb kb B5a B7a B9a hM5a hM7a hM9a hMa HBa ho3
  generalize wa.heap.size = gb at *
  go_wp2_with fail
  refine (works25_any _).mono ?_
  rintro _ wc ⟨rfl, bc⟩
  have B5c := B5b.below bc B5b.lt
  have B7c := B7b.below bc B7b.lt
  have B9c := B9b.below bc B9b.lt
  have Bbc := Bb.below bc Bb.lt
  have hM9c := hM9b.below bc
  have hMbc := hMbb.below bc
  have HBc := below_then HBb HBb.size bc
  have S1 : Hid (Calls Try.prog 42 #[.agg ds.toArray, .agg es1.toArray] wc (RetB (.bool true) wc)) := Lib.hid (by
    have := same_owns (hM5b.below bc) (hM7b.below bc)
    rwa [decide_eq_true rfl] at this)
  clear bc B5b B7b B9b Bb hM5b hM7b hM9b hMbb HBb
  generalize pp.2 = pb at *
  generalize ff.2 = fb at *
  go_wp2_with (first
    | (refine at_op (.load 52 (.tmp 5)) rfl ?_; go_must (refine wpList_ldG 52 (.tmp 5) rfl (by go_simp) g5 0 rfl B5c 14 (by omega) _ Try.underlying52 rfl msgInfo ds (by rw [List.drop_zero, List.take_of_length_le (by omega)]) ?_))
    | (refine at_op (.load 52 (.tmp 7)) rfl ?_; go_must (refine wpList_ldG 52 (.tmp 7) rfl (by go_simp) g7 0 rfl B7c 14 (by omega) _ Try.underlying52 rfl msgInfo es1 (by rw [List.drop_zero, List.take_of_length_le (by omega)]) ?_)))
  refine S1.out.mono ?_
  rintro _ wd ⟨rfl, bd⟩
  have B9d := B9c.below bd B9c.lt
  have Bbd := Bbc.below bd Bbc.lt
  have HBd := below_then HBc HBc.size bd
  have S2 : Hid (Calls Try.prog 42 #[.agg es2.toArray, .agg es3.toArray] wd (RetB (.bool true) wd)) := Lib.hid (by
    have := same_owns (hM9c.below bd) (hMbc.below bd)
    rwa [decide_eq_true rfl] at this)
  clear bd B5c B7c B9c Bbc HBc hM9c hMbc S1
  go_wp2_with (first
    | (refine at_op (.load 52 (.tmp 9)) rfl ?_; go_must (refine wpList_ldG 52 (.tmp 9) rfl (by go_simp) g9 0 rfl B9d 14 (by omega) _ Try.underlying52 rfl msgInfo es2 (by rw [List.drop_zero, List.take_of_length_le (by omega)]) ?_))
    | (refine at_op (.load 52 (.tmp 11)) rfl ?_; go_must (refine wpList_ldG 52 (.tmp 11) rfl (by go_simp) gb 0 rfl Bbd 14 (by omega) _ Try.underlying52 rfl msgInfo es3 (by rw [List.drop_zero, List.take_of_length_le (by omega)]) ?_)))
  refine S2.out.mono ?_
  rintro _ we ⟨rfl, bE⟩
  have HBe := below_then HBd HBd.size bE
  clear bE S2 B9d Bbd HBd
  go_wp2_with fail
  go_ret
  exact RetB.mk rfl HBe
end Go.Proofs.Ytlmgdogblbigpaa

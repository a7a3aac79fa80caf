/-
  Layer 25, the laws' own: MatchAll.
-/
import Derived.Test.YtlmgdogblbigpaaLaw25cq
import Derived.Test.YtlmgdogblbigpaaHOq
namespace Go.Proofs.Ytlmgdogblbigpaa
open Go.RowKit
set_option maxRecDepth 100000
set_option linter.unusedVariables false
set_option linter.unusedSimpArgs false

theorem frameP_no {y : Qy} {o : Except Int Msg} (h : (frameP y o).2 = false) : (frameP y o).1 = Msg.zero := by
  cases o with
  | error _ => rfl
  | ok m =>
    unfold frameP at h ⊢
    simp only at h ⊢
    split at h
    · cases h
    · rename_i hn; rw [if_neg hn]
theorem frameP_yes {y : Qy} {o : Except Int Msg} (h : (frameP y o).2 = true) : o = .ok (frameP y o).1 ∧ replyB y (frameP y o).1 = true := by
  cases o with
  | error _ => cases h
  | ok m =>
    unfold frameP at h ⊢
    simp only at h ⊢
    split at h
    · rename_i hn; rw [if_pos hn]; exact ⟨rfl, hn⟩
    · cases h
theorem packP_no {y : Qy} {e : Ev} (h : (packP y e).2 = false) : (packP y e).1 = Msg.zero := by
  unfold packP at h ⊢
  split at h
  · rename_i hn; rw [if_pos hn]; exact frameP_no h
  · rename_i hn; rw [if_neg hn]
theorem packP_yes {y : Qy} {e : Ev} (h : (packP y e).2 = true) : (e.kind = 2 ∧ e.fr = y.sv ∧ e.fp = 53 ∧ e.port = y.port) ∧ decM e.data = .ok (packP y e).1 ∧ replyB y (packP y e).1 = true := by
  unfold packP at h ⊢
  split at h
  · rename_i hn; rw [if_pos hn]; exact ⟨hn, frameP_yes h⟩
  · cases h
/-- What a message that answers is. -/
theorem replyB_yes {y : Qy} {m : Msg} (h : replyB y m = true) : ∃ x, m.qs = [x] ∧ m.hd.qr = true ∧ m.hd.id = y.id ∧ x.ty = y.q.ty ∧ x.cl = y.q.cl ∧ lowN x.name = lowN y.q.name := by
  by_cases hx : ∃ x, m.qs = [x]
  · obtain ⟨x, hx⟩ := hx
    rw [replyB_one hx] at h
    simp only [fitQ, Bool.and_eq_true, decide_eq_true_eq] at h
    exact ⟨x, hx, h.1, h.2.2.1, h.2.2.2.1, h.2.2.2.2.1, h.2.2.2.2.2⟩
  · rw [replyB_no (fun e => hx (List.length_eq_one_iff.1 e))] at h; cases h
/-- The reference reads it too. -/
theorem rdecode_good {s : List UInt8} {m : Msg} (h : decM s = .ok m) (w : World) : Calls Try.prog 43 #[.string (bs s)] w (DecGood m w) := by
  have := refdecode_any s w
  rw [h] at this
  exact this
set_option maxHeartbeats 8000000 in
theorem matchAll_any (cs : List Value) (y : Qy) (A : Option Addr) (c : Nat) (e : Ev) (w : World) (h1 : QyIs w cs y A c) (hip : e.fr.ip.length = 16) (hs : e.data.length ≤ maxLen) :
    Calls Try.prog 9 #[.agg cs.toArray, .agg (evC e).toArray] w (RetB (.bool true) w) := by
  have hcl : cs.length = 23 := by rw [h1.hcs]; exact qyC_len h1.ip
  have hel := evC_len hip
  have L20 : cs[20]? = some (.slice A y.q.name.length c) := by rw [h1.hcs]; exact qyC_at h1.ip 2
  have E21 : (evC e)[21]? = some (.string (bs e.data)) := evC_at hip 2
  have FW := Lib.hid (fun w' (b : Below w.heap.size w w') => fewN_any A c y.q.name w' (h1.nm.below b))
  have TO := Lib.hid (fun w' (b : Below w.heap.size w w') => to_any cs y A c w' (h1.below b))
  have PK := Lib.hid (fun w' (b : Below w.heap.size w w') => packet_any cs y A c e w' (h1.below b) hip hs)
  have H1 := Lib.hid h1
  have HIP := Lib.hid hip
  have HDS := Lib.hid hs
  clear h1 hip hs
  generalize hE : evC e = es at *
  have B1 : Blk ((w.alloc (.cells cs.toArray 63)).alloc (.cells es.toArray 70)) w.heap.size 63 cs := (Blk.new w 63 cs).alloc _
  have B2 : Blk ((w.alloc (.cells cs.toArray 63)).alloc (.cells es.toArray 70)) (w.heap.size + 1) 70 es := Blk.new' _ 70 es _ (by simp)
  have HB : Below w.heap.size w ((w.alloc (.cells cs.toArray 63)).alloc (.cells es.toArray 70)) := ((Below.refl _ _).alloc (Nat.le_refl _) _).alloc (by simp) _
  have HE := Lib.hid hE
  clear hE
  go_enter Try.func9, Try.ntmps9
  go_wp2_with fail
  refine (works25_any _).mono ?_
  rintro _ w1 ⟨rfl, b1⟩
  have C1 := B1.below b1 B1.lt
  have C2 := B2.below b1 B2.lt
  have HB1 := below_then HB HB.size b1
  have a20 := C1.cell_ 20 L20
  have a21 := C2.cell_ 21 E21
  clear B1 B2 HB b1
  by_cases hd : 3000 < e.data.length
  case pos =>
    have hd' : (3000 : Int) < e.data.length := by omega
    clear hd FW TO PK
    generalize e.data = dt at *
    generalize y.q.name.length = nl at *
    go_wp2_with fail
    refine (works25_any _).mono ?_
    rintro _ w2 ⟨rfl, b2⟩
    have HB2 := below_then HB1 HB1.size b2
    clear b2
    go_wp2_with fail
    go_ret
    exact RetB.mk rfl HB2
  have hd' : ¬ (3000 : Int) < e.data.length := by omega
  clear hd
  by_cases hf : lsum y.q.name ≤ 400
  case neg =>
    rw [decide_eq_false hf] at FW
    clear hf TO PK
    generalize e.data = dt at *
    generalize y.q.name.length = nl at *
    go_wp2_with fail
    refine (FW.out _ HB1).mono ?_
    rintro _ w2 ⟨rfl, rfl⟩
    go_wp2_with fail
    refine (works25_any _).mono ?_
    rintro _ w2 ⟨rfl, b2⟩
    have HB2 := below_then HB1 HB1.size b2
    clear b2
    go_wp2_with fail
    go_ret
    exact RetB.mk rfl HB2
  rw [decide_eq_true hf] at FW
  have HLS := Lib.hid hf
  clear hf
  generalize y.q.name.length = nl at *
  go_wp2_with fail
  refine (FW.out _ HB1).mono ?_
  rintro _ w2 ⟨rfl, rfl⟩
  clear FW a20 a21
  obtain ⟨pp, hpp⟩ : ∃ pp, Hid (packP y e = pp) := ⟨_, Lib.hid rfl⟩
  rw [hpp.out] at PK
  have PN := Lib.hid (fun h => packP_no (y := y) (e := e) h)
  have PY := Lib.hid (fun h => packP_yes (y := y) (e := e) h)
  rw [hpp.out] at PN PY
  have KS : Hid (∀ V V', (Blk V w.heap.size 63 cs ∧ Blk V (w.heap.size + 1) 70 es ∧ Below w.heap.size w V) → Below V.heap.size V V' → (Blk V' w.heap.size 63 cs ∧ Blk V' (w.heap.size + 1) 70 es ∧ Below w.heap.size w V')) := Lib.hid (fun V V' h b => ⟨h.1.below b h.1.lt, h.2.1.below b h.2.1.lt, below_then h.2.2 h.2.2.size b⟩)
  go_upto_region 4 with fail
  go_cut [5, 6] (fun v5 v6 wx => ∃ g ds, v5 = .pointer (some ⟨g, 0, none⟩) ∧ v6 = .bool pp.2 ∧ Blk wx g 52 ds ∧ MsgOwn wx ds pp.1 ∧ Below w.heap.size w wx ∧ Blk wx w.heap.size 63 cs ∧ Blk wx (w.heap.size + 1) 70 es ∧ w.heap.size + 2 ≤ g)
  case first =>
    refine wp_region_held_drew (S := fun V => Blk V w.heap.size 63 cs ∧ Blk V (w.heap.size + 1) 70 es ∧ Below w.heap.size w V) (by kernel_rfl) ⟨C1.drew, C2.drew, HB1.drew⟩ (fun hS => ?_)
    refine held_ld 0 (some 27) 63 (.tmp 2) ⟨w.heap.size, 0, none⟩ rfl rfl rfl rfl (by kernel_rfl) (by kernel_rfl) (by kernel_rfl) (fun _ _ _ h => h) (by kernel_rfl) (fun V hV => hV.1.loads 63 0 23 (by omega) _ Try.underlying63 rfl qrInfo cs (by rw [List.drop_zero, List.take_of_length_le (by omega)])) hS ?_
    simp only [Act.put, List.setIfInBounds_toArray, List.set_cons_zero, List.set_cons_succ]
    refine held_ld 2 (some 29) 70 (.tmp 3) ⟨w.heap.size + 1, 0, none⟩ rfl rfl rfl rfl (by kernel_rfl) (by kernel_rfl) (by kernel_rfl) (fun _ _ _ h => h) (by kernel_rfl) (fun V hV => hV.2.1.loads 70 0 22 (by omega) _ Try.underlying70 rfl evInfo es (by rw [List.drop_zero, List.take_of_length_le (by omega)])) hS ?_
    simp only [Act.put, List.setIfInBounds_toArray, List.set_cons_zero, List.set_cons_succ]
    refine ord_two 1 7 (by kernel_rfl) ?_ ?_
    · refine opw_call 1 (some 28) 36 #[.agg cs.toArray] rfl rfl (by kernel_rfl) (by go_simp) (TO.out _ hS.2.2) ?_
      rintro _ w2 ⟨rfl, b2⟩
      have hS2 := KS.out _ _ hS b2
      refine ⟨_, rfl, hS2, ?_⟩
      clear hS b2
      have hS := hS2
      clear hS2
      simp only [Act.put, List.setIfInBounds_toArray, List.set_cons_zero, List.set_cons_succ]
      refine ord_two 3 7 (by kernel_rfl) ?_ ?_
      · refine opw_call 3 (some 30) 38 #[.agg cs.toArray, .agg es.toArray] rfl rfl (by kernel_rfl) (by go_simp) (PK.out _ hS.2.2) ?_
        rintro _ w3 ⟨ds, rfl, hM, b3⟩
        have hdl := hM.len
        have hd1 := Lib.hid hM.one
        have hS3 := KS.out _ _ hS b3
        refine ⟨_, rfl, hS3, ?_⟩
        clear hS b3
        have hS := hS3
        clear hS3
        simp only [Act.put, List.setIfInBounds_toArray, List.set_cons_zero, List.set_cons_succ]
        (refine held_val 4 (some 26) rfl rfl (by kernel_rfl) (by kernel_rfl) (by kernel_rfl) (fun _ _ _ h => h) (by kernel_rfl) (fun W hW => rfl) hS ?_; simp only [Act.put, List.setIfInBounds_toArray, List.set_cons_zero, List.set_cons_succ])
        (refine held_val 5 (some 31) rfl rfl (by kernel_rfl) (by kernel_rfl) (by kernel_rfl) (fun _ _ _ h => h) (by kernel_rfl) (fun W hW => rfl) hS ?_; simp only [Act.put, List.setIfInBounds_toArray, List.set_cons_zero, List.set_cons_succ])
        (refine held_val 6 (some 32) rfl rfl (by kernel_rfl) (by kernel_rfl) (by kernel_rfl) (fun _ _ _ h => h) (by kernel_rfl) (fun W hW => rfl) hS ?_; simp only [Act.put, List.setIfInBounds_toArray, List.set_cons_zero, List.set_cons_succ])
        have kn : Below w3.heap.size w3 (w3.alloc (.cells msgZ.toArray 52)) := (Below.refl _ _).alloc (Nat.le_refl _) _
        have hS4 := KS.out _ _ hS kn
        have hM4 := hM.below kn
        have Bz := Blk.new w3 52 msgZ
        have hz : w.heap.size + 2 ≤ w3.heap.size := by have := hS.2.1.lt; omega
        refine held_run 7 (some 5) (by kernel_rfl) rfl rfl (by kernel_rfl) (v := .pointer (some ⟨w3.heap.size, 0, none⟩)) (w' := w3.alloc (.cells msgZ.toArray 52)) (by kernel_rfl) hS4 ?_
        simp only [Act.put, List.setIfInBounds_toArray, List.set_cons_zero, List.set_cons_succ]
        clear hS hM kn
        have hS := hS4
        clear hS4
        generalize w3.alloc (.cells msgZ.toArray 52) = wz at *
        generalize w3.heap.size = gz at *
        refine held_stB 8 none 52 (.tmp 5) (.tmp 31) (by kernel_rfl) rfl rfl rfl (by kernel_rfl) gz 0 rfl ds rfl Bz (by have := msgZ_len; omega) (by rw [hdl]; exact msgInfo) hd1.out ?_
        intro w8 B8 g8 zs
        clear zs
        replace B8 : Blk w8 gz 52 ds := whole14 B8 (by have := msgZ_len; omega)
        have hM8 := hM4.blk g8 Bz
        have hS8 : Blk w8 w.heap.size 63 cs ∧ Blk w8 (w.heap.size + 1) 70 es ∧ Below w.heap.size w w8 := ⟨hS.1.grown g8 (by simp; omega), hS.2.1.grown g8 (by simp; omega), below_grown hS.2.2 g8 hS.2.2.size (by omega)⟩
        clear hM4 Bz g8
        refine ⟨hS8, ?_⟩
        clear hS
        have hS := hS8
        clear hS8
        simp only [Act.put, List.setIfInBounds_toArray, List.set_cons_zero, List.set_cons_succ]
        (refine held_val 9 (some 6) rfl rfl (by kernel_rfl) (by kernel_rfl) (by kernel_rfl) (fun _ _ _ h => h) (by kernel_rfl) (fun W hW => rfl) hS ?_; simp only [Act.put, List.setIfInBounds_toArray, List.set_cons_zero, List.set_cons_succ])
        refine wpAnyH_done (by kernel_rfl) ?_ _
        go_wp2_with fail
        go_meet
        case rel => exact ⟨gz, ds, rfl, rfl, B8, hM8, hS.2.2, hS.1, hS.2.1, hz⟩
      · have kn : Below w2.heap.size w2 (w2.alloc (.cells msgZ.toArray 52)) := (Below.refl _ _).alloc (Nat.le_refl _) _
        have hS4 := KS.out _ _ hS kn
        have Bn := Blk.new w2 52 msgZ
        have hz : w.heap.size + 2 ≤ w2.heap.size := by have := hS.2.1.lt; omega
        refine opw_run 7 (some 5) (v := .pointer (some ⟨w2.heap.size, 0, none⟩)) (w' := w2.alloc (.cells msgZ.toArray 52)) rfl rfl (by kernel_rfl) (by kernel_rfl) ?_
        refine ⟨hS4, ?_⟩
        clear hS kn
        have hS := hS4
        clear hS4
        simp only [Act.put, List.setIfInBounds_toArray, List.set_cons_zero, List.set_cons_succ]
        generalize w2.alloc (.cells msgZ.toArray 52) = wy at *
        generalize w2.heap.size = gz at *
        refine held_call 3 (some 30) 38 #[.agg cs.toArray, .agg es.toArray] (by kernel_rfl) rfl rfl (by kernel_rfl) (by go_simp) (PK.out _ hS.2.2) ?_
        rintro _ w3 ⟨ds, rfl, hM4, b3⟩
        have hdl := hM4.len
        have hd1 := Lib.hid hM4.one
        have hS3 := KS.out _ _ hS b3
        have Bz := Bn.below b3 Bn.lt
        refine ⟨_, rfl, hS3, ?_⟩
        clear hS b3 Bn
        have hS := hS3
        clear hS3
        simp only [Act.put, List.setIfInBounds_toArray, List.set_cons_zero, List.set_cons_succ]
        (refine held_val 4 (some 26) rfl rfl (by kernel_rfl) (by kernel_rfl) (by kernel_rfl) (fun _ _ _ h => h) (by kernel_rfl) (fun W hW => rfl) hS ?_; simp only [Act.put, List.setIfInBounds_toArray, List.set_cons_zero, List.set_cons_succ])
        (refine held_val 5 (some 31) rfl rfl (by kernel_rfl) (by kernel_rfl) (by kernel_rfl) (fun _ _ _ h => h) (by kernel_rfl) (fun W hW => rfl) hS ?_; simp only [Act.put, List.setIfInBounds_toArray, List.set_cons_zero, List.set_cons_succ])
        (refine held_val 6 (some 32) rfl rfl (by kernel_rfl) (by kernel_rfl) (by kernel_rfl) (fun _ _ _ h => h) (by kernel_rfl) (fun W hW => rfl) hS ?_; simp only [Act.put, List.setIfInBounds_toArray, List.set_cons_zero, List.set_cons_succ])
        refine held_stB 8 none 52 (.tmp 5) (.tmp 31) (by kernel_rfl) rfl rfl rfl (by kernel_rfl) gz 0 rfl ds rfl Bz (by have := msgZ_len; omega) (by rw [hdl]; exact msgInfo) hd1.out ?_
        intro w8 B8 g8 zs
        clear zs
        replace B8 : Blk w8 gz 52 ds := whole14 B8 (by have := msgZ_len; omega)
        have hM8 := hM4.blk g8 Bz
        have hS8 : Blk w8 w.heap.size 63 cs ∧ Blk w8 (w.heap.size + 1) 70 es ∧ Below w.heap.size w w8 := ⟨hS.1.grown g8 (by simp; omega), hS.2.1.grown g8 (by simp; omega), below_grown hS.2.2 g8 hS.2.2.size (by omega)⟩
        clear hM4 Bz g8
        refine ⟨hS8, ?_⟩
        clear hS
        have hS := hS8
        clear hS8
        simp only [Act.put, List.setIfInBounds_toArray, List.set_cons_zero, List.set_cons_succ]
        (refine held_val 9 (some 6) rfl rfl (by kernel_rfl) (by kernel_rfl) (by kernel_rfl) (fun _ _ _ h => h) (by kernel_rfl) (fun W hW => rfl) hS ?_; simp only [Act.put, List.setIfInBounds_toArray, List.set_cons_zero, List.set_cons_succ])
        refine wpAnyH_done (by kernel_rfl) ?_ _
        go_wp2_with fail
        go_meet
        case rel => exact ⟨gz, ds, rfl, rfl, B8, hM8, hS.2.2, hS.1, hS.2.1, hz⟩
    · have kn : Below w1.drew.heap.size w1.drew (w1.drew.alloc (.cells msgZ.toArray 52)) := (Below.refl _ _).alloc (Nat.le_refl _) _
      have hS4 := KS.out _ _ hS kn
      have Bn := Blk.new w1.drew 52 msgZ
      have hz : w.heap.size + 2 ≤ w1.drew.heap.size := by have := hS.2.1.lt; omega
      refine opw_run 7 (some 5) (v := .pointer (some ⟨w1.drew.heap.size, 0, none⟩)) (w' := w1.drew.alloc (.cells msgZ.toArray 52)) rfl rfl (by kernel_rfl) (by kernel_rfl) ?_
      refine ⟨hS4, ?_⟩
      clear hS kn
      have hS := hS4
      clear hS4
      simp only [Act.put, List.setIfInBounds_toArray, List.set_cons_zero, List.set_cons_succ]
      generalize w1.drew.alloc (.cells msgZ.toArray 52) = wy at *
      generalize w1.drew.heap.size = gz at *
      refine held_call 1 (some 28) 36 #[.agg cs.toArray] (by kernel_rfl) rfl rfl (by kernel_rfl) (by go_simp) (TO.out _ hS.2.2) ?_
      rintro _ w2 ⟨rfl, b2⟩
      have hS2 := KS.out _ _ hS b2
      have Bn2 := Bn.below b2 Bn.lt
      refine ⟨_, rfl, hS2, ?_⟩
      clear hS b2 Bn
      have hS := hS2
      clear hS2
      simp only [Act.put, List.setIfInBounds_toArray, List.set_cons_zero, List.set_cons_succ]
      refine held_call 3 (some 30) 38 #[.agg cs.toArray, .agg es.toArray] (by kernel_rfl) rfl rfl (by kernel_rfl) (by go_simp) (PK.out _ hS.2.2) ?_
      rintro _ w3 ⟨ds, rfl, hM4, b3⟩
      have hdl := hM4.len
      have hd1 := Lib.hid hM4.one
      have hS3 := KS.out _ _ hS b3
      have Bz := Bn2.below b3 Bn2.lt
      refine ⟨_, rfl, hS3, ?_⟩
      clear hS b3 Bn2
      have hS := hS3
      clear hS3
      simp only [Act.put, List.setIfInBounds_toArray, List.set_cons_zero, List.set_cons_succ]
      (refine held_val 4 (some 26) rfl rfl (by kernel_rfl) (by kernel_rfl) (by kernel_rfl) (fun _ _ _ h => h) (by kernel_rfl) (fun W hW => rfl) hS ?_; simp only [Act.put, List.setIfInBounds_toArray, List.set_cons_zero, List.set_cons_succ])
      (refine held_val 5 (some 31) rfl rfl (by kernel_rfl) (by kernel_rfl) (by kernel_rfl) (fun _ _ _ h => h) (by kernel_rfl) (fun W hW => rfl) hS ?_; simp only [Act.put, List.setIfInBounds_toArray, List.set_cons_zero, List.set_cons_succ])
      (refine held_val 6 (some 32) rfl rfl (by kernel_rfl) (by kernel_rfl) (by kernel_rfl) (fun _ _ _ h => h) (by kernel_rfl) (fun W hW => rfl) hS ?_; simp only [Act.put, List.setIfInBounds_toArray, List.set_cons_zero, List.set_cons_succ])
      refine held_stB 8 none 52 (.tmp 5) (.tmp 31) (by kernel_rfl) rfl rfl rfl (by kernel_rfl) gz 0 rfl ds rfl Bz (by have := msgZ_len; omega) (by rw [hdl]; exact msgInfo) hd1.out ?_
      intro w8 B8 g8 zs
      clear zs
      replace B8 : Blk w8 gz 52 ds := whole14 B8 (by have := msgZ_len; omega)
      have hM8 := hM4.blk g8 Bz
      have hS8 : Blk w8 w.heap.size 63 cs ∧ Blk w8 (w.heap.size + 1) 70 es ∧ Below w.heap.size w w8 := ⟨hS.1.grown g8 (by simp; omega), hS.2.1.grown g8 (by simp; omega), below_grown hS.2.2 g8 hS.2.2.size (by omega)⟩
      clear hM4 Bz g8
      refine ⟨hS8, ?_⟩
      clear hS
      have hS := hS8
      clear hS8
      simp only [Act.put, List.setIfInBounds_toArray, List.set_cons_zero, List.set_cons_succ]
      (refine held_val 9 (some 6) rfl rfl (by kernel_rfl) (by kernel_rfl) (by kernel_rfl) (fun _ _ _ h => h) (by kernel_rfl) (fun W hW => rfl) hS ?_; simp only [Act.put, List.setIfInBounds_toArray, List.set_cons_zero, List.set_cons_succ])
      refine wpAnyH_done (by kernel_rfl) ?_ _
      go_wp2_with fail
      go_meet
      case rel => exact ⟨gz, ds, rfl, rfl, B8, hM8, hS.2.2, hS.1, hS.2.1, hz⟩
  obtain ⟨g5, ds, rfl, rfl, B5, hM5, HB5, C15, C25, hz5⟩ := hcut
  have hdl := hM5.len
  clear C1 C2 HB1 KS PK TO
  cases hpb : pp.2 with
  | false =>
    have hZ := PN.out hpb
    have SZ : Hid (Calls Try.prog 42 #[.agg ds.toArray, .agg msgZ.toArray] wc (RetB (.bool true) wc)) := Lib.hid (by
      have := same_owns hM5 (MsgOwn.zero wc)
      rwa [hZ, decide_eq_true rfl] at this)
    clear hpb hZ PN PY hM5 C15 C25
    go_wp2_with (refine at_op (.load 52 (.tmp 5)) rfl ?_; go_must (refine wpList_ldG 52 (.tmp 5) rfl (by go_simp) g5 0 rfl B5 14 (by omega) _ Try.underlying52 rfl msgInfo ds (by rw [List.drop_zero, List.take_of_length_le (by omega)]) ?_))
    refine SZ.out.mono ?_
    rintro _ w6 ⟨rfl, b6⟩
    have HB6 := below_then HB5 HB5.size b6
    clear b6 SZ B5 HB5
    go_wp2_with fail
    go_ret
    exact RetB.mk rfl HB6
  | true =>
  obtain ⟨⟨ek, ef, ep, eo⟩, hD, hR⟩ := PY.out hpb
  obtain ⟨x, hqs, hqr, hid, hty, hcl2, hlow⟩ := replyB_yes hR
  have DG := Lib.hid (fun w => rdecode_good hD w)
  have hX : lsum x.name ≤ 1000 := names_of hD x (by rw [hqs]; exact List.mem_cons_self)
  clear PN PY hpb hR hD hpp
  generalize pp.1 = m at *
  have d21 := C25.cell_ 21 E21
  generalize e.data = dt at *
  go_wp2_with fail
  refine (DG.out _).mono ?_
  rintro _ w6 ⟨es2, rfl, hM6, b6⟩
  have hel := hM6.len
  have ho6 := Lib.hid hM6.one
  have C16 := C15.below b6 C15.lt
  have C26 := C25.below b6 C25.lt
  have B56 := B5.below b6 B5.lt
  have hM56 := hM5.below b6
  have HB6 := below_then HB5 HB5.size b6
  clear b6 B5 hM5 HB5 C15 C25 DG d21
  go_wp2_with (refine at_op (.store 52 (.tmp 7) (.tmp 42)) rfl ?_; go_must (refine wpList_stB rfl 52 (.tmp 7) (.tmp 42) rfl w6.heap.size 0 rfl es2 rfl (Blk.new' _ _ msgZ _ rfl) (by rw [hel, msgZ_len]; omega) (by rw [hel]; exact msgInfo) ho6.out ?_))
  intro w7 B7 g7 _
  replace B7 : Blk w7 w6.heap.size 52 es2 := wholeG B7 (by have := msgZ_len; omega)
  have k7 : Below w6.heap.size w6 w7 := below_grown ((Below.refl _ _).alloc (Nat.le_refl _) _) g7 (by simp) (Nat.le_refl _)
  have C17 := C16.below k7 C16.lt
  have C27 := C26.below k7 C26.lt
  have B57 := B56.below k7 B56.lt
  have hM57 := hM56.below k7
  have hM7 := hM6.below k7
  have HB7 := below_then HB6 HB6.size k7
  have SS : Hid (Calls Try.prog 42 #[.agg es2.toArray, .agg ds.toArray] w7 (RetB (.bool true) w7)) := Lib.hid (by
    have := same_owns hM7 hM57
    rwa [decide_eq_true rfl] at this)
  clear g7 k7 C16 C26 B56 hM56 hM6 HB6 ho6 hM7
  generalize w6.heap.size = g7 at *
  go_wp2_with (first
    | (refine at_op (.load 52 (.tmp 7)) rfl ?_; go_must (refine wpList_ldG 52 (.tmp 7) rfl (by go_simp) g7 0 rfl B7 14 (by omega) _ Try.underlying52 rfl msgInfo es2 (by rw [List.drop_zero, List.take_of_length_le (by omega)]) ?_))
    | (refine at_op (.load 52 (.tmp 5)) rfl ?_; go_must (refine wpList_ldG 52 (.tmp 5) rfl (by go_simp) g5 0 rfl B57 14 (by omega) _ Try.underlying52 rfl msgInfo ds (by rw [List.drop_zero, List.take_of_length_le (by omega)]) ?_)))
  refine SS.out.mono ?_
  rintro _ w8 ⟨rfl, b8⟩
  have C18 := C17.below b8 C17.lt
  have C28 := C27.below b8 C27.lt
  have B58 := B57.below b8 B57.lt
  have hM8 := hM57.below b8
  have HB8 := below_then HB7 HB7.size b8
  clear b8 SS C17 C27 B57 B7 hM57 HB7
  obtain ⟨Aq, Aa, Au, Ae, cq, ca, cu, ce, hI⟩ := hM8.is
  have hq : QsR w8 Aq [x] := hqs ▸ hI.hq
  obtain ⟨ba, oa, eA, hba, hel8⟩ := hq (by simp)
  subst eA
  obtain ⟨An, cn, hr, hNx⟩ := hel8 0 (by simp)
  replace hr : w8.rangeAt ba oa [.slice An x.name.length cn, .int .i64 x.ty, .int .i64 x.cl] := hr
  have hl1 : m.qs.length = 1 := by rw [hqs]; rfl
  have M0 : ds[0]? = some (.int .i64 y.id) := by rw [hI.hcs, ← hid]; rfl
  have M1 : ds[1]? = some (.bool true) := by rw [hI.hcs, ← hqr]; rfl
  have M10 : ds[10]? = some (.slice (some ⟨ba, oa, none⟩) 1 cq) := by rw [hI.hcs, ← hl1]; rfl
  have d0 := fun o => (B58.alloc o).cell_ 0 M0
  have d1 := fun o => (B58.alloc o).cell_ 1 M1
  have d10 := B58.cell_ 10 M10
  have E0 : es[0]? = some (.int .i64 2) := by rw [← HE.out, ← ek]; rfl
  have E19 : es[19]? = some (.int .i64 53) := by rw [← HE.out, ← ep]; exact evC_at HIP.out 0
  have E20 : es[20]? = some (.int .i64 y.port) := by rw [← HE.out, ← eo]; exact evC_at HIP.out 1
  have Q18 : cs[18]? = some (.int .i64 y.port) := by rw [H1.out.hcs]; exact qyC_at H1.out.ip 0
  have Q19 : cs[19]? = some (.int .i64 y.id) := by rw [H1.out.hcs]; exact qyC_at H1.out.ip 1
  have Q20 : cs[20]? = some (.slice A y.q.name.length c) := by rw [H1.out.hcs]; exact qyC_at H1.out.ip 2
  have Q21 : cs[21]? = some (.int .i64 x.ty) := by rw [H1.out.hcs, hty]; exact qyC_at H1.out.ip 3
  have Q22 : cs[22]? = some (.int .i64 x.cl) := by rw [H1.out.hcs, hcl2]; exact qyC_at H1.out.ip 4
  have SE : Hid ((es.drop 1).take 18 = y.sv.cells) := Lib.hid (by rw [← HE.out, ← ef]; exact evC_ad HIP.out)
  have SQ : Hid ((cs.drop 0).take 18 = y.sv.cells) := Lib.hid (by rw [H1.out.hcs]; exact qyC_ad H1.out.ip)
  have EA := run_eqA y.sv y.sv H1.out.ip H1.out.ip
  rw [decide_eq_true rfl] at EA
  have hxl : x.name.length ≤ 1000 := Nat.le_trans (lsum_ge _) hX
  have hyl : y.q.name.length ≤ 400 := Nat.le_trans (lsum_ge _) HLS.out
  have NS : Hid (∀ w', Below w8.heap.size w8 w' → Calls Try.prog 44 #[.slice An x.name.length cn, .slice A y.q.name.length c] w' (RetB (.bool true) w')) := Lib.hid (fun w' b => by
    have := refsame_any An A x.name y.q.name cn c w' (hNx.below b) (H1.out.nm.below (below_then HB8 HB8.size b)) (by omega) (by omega)
    rwa [decide_eq_true hlow] at this)
  have c18 := fun o => (C18.alloc o).cell_ 18 Q18
  have c19 := fun o => (C18.alloc o).cell_ 19 Q19
  have c20 := fun o => (C18.alloc o).cell_ 20 Q20
  have c21 := fun o => (C18.alloc o).cell_ 21 Q21
  have c22 := fun o => (C18.alloc o).cell_ 22 Q22
  have f0 := fun o => (C28.alloc o).cell_ 0 E0
  have f19 := fun o => (C28.alloc o).cell_ 19 E19
  have f20 := fun o => (C28.alloc o).cell_ 20 E20
  clear M0 M1 M10 E0 E19 E20 Q18 Q19 Q20 Q21 Q22 hI hq hel8 hNx hqs hqr hid hty hcl2 hlow hl1 ek ef ep eo hM8 L20 hX hxl hyl
  generalize y.sv.cells = sc at *
  generalize y.port = yp at *
  generalize y.id = yi at *
  generalize y.q.name.length = yl at *
  generalize x.name.length = xl at *
  generalize x.ty = xt at *
  generalize x.cl = xc at *
  go_wp2_with (first
    | (refine at_op (.load 61 (.tmp 60)) rfl ?_; go_must (refine wpList_load_mid rfl 61 (.tmp 60) rfl ba oa rfl _ _ hr Try.underlying61 rfl qInfo ?_))
    | (refine at_op (.load 59 (.tmp 66)) rfl ?_; go_must (refine wpList_ldG 59 (.tmp 66) rfl (by go_simp) (w.heap.size + 1) 1 rfl (C28.alloc _) 18 (by omega) _ Try.underlying59 rfl adInfoM _ SE.out ?_))
    | (refine at_op (.load 59 (.tmp 68)) rfl ?_; go_must (refine wpList_ldG 59 (.tmp 68) rfl (by go_simp) w.heap.size 0 rfl (C18.alloc _) 18 (by omega) _ Try.underlying59 rfl adInfoM _ SQ.out ?_)))
  refine (NS.out _ ((Below.refl _ _).alloc (Nat.le_refl _) _)).mono ?_
  rintro _ w9 ⟨rfl, b9⟩
  have HB9 := below_then (HB8.alloc HB8.size _) (HB8.alloc HB8.size _).size b9
  clear b9 NS
  go_wp2_with fail
  go_ret
  exact RetB.mk rfl HB9
end Go.Proofs.Ytlmgdogblbigpaa

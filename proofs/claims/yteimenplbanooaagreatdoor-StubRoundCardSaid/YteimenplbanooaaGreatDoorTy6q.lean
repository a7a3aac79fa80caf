/-
  Layer 8: colon.bare.
-/
import Derived.Test.YteimenplbanooaaGreatDoorRAWq
namespace Go.Proofs.YteimenplbanooaaGreatDoor
open _root_.Go.Proofs.Tryz
open Go.RowKit
set_option maxRecDepth 100000
set_option linter.unusedVariables false
set_option linter.unusedSimpArgs false
theorem u8w (a : UInt8) : IntKind.u8.wrap (a.toNat : Int) = a.toNat := by
 have := a.toNat_lt
 rw [IntKind.wrap_u8]; omega
theorem new_two (w : World) (u v : Value) (t : TypeId) (k : Nat) (hk : k = w.heap.size) : ∀ j x, [u, v][j]? = some x → (w.alloc (.cells #[u, v] t)).cell? ((⟨k, 0, none⟩ : Addr).add j) = some x := by
 subst hk
 intro j x hx
 rcases j with _ | _ | j
 ·
  simp at hx; subst hx; simp [Addr.add, go_sem]
 ·
  simp at hx; subst hx; simp [Addr.add, go_sem]
 ·
  simp at hx
theorem grpsC_one (ip : List UInt8) : ∀ v ∈ grpsC ip, v.oneCell' = true := by
 intro v hv
 obtain ⟨i, _, rfl⟩ := List.mem_map.1 hv
 rfl
theorem sl8_h (g b : Nat) (hb : b ≤ 8) (V : World) : (Instr.sliceAt 269 (.pointer (some ⟨g, 0, none⟩)) none (some (.int .i64 (b : Int))) none).run prog V = .ok (.slice (some ⟨g, 0, none⟩) b 8) V := by
 have hal : prog.arrayLen 269 = 8 := by kernel_rfl
 rw [run_sliceAt_array_h V 269 ⟨g, 0, none⟩ (by simp [Program.arrayLen, Program.elem, underlying269]) .i64 (b : Int) (by omega) (by rw [hal]; omega)]
 have he : prog.elem 269 = 3 := by kernel_rfl
 have hsz : (sizeOf (prog.elem 269)).run prog V = .ok 1 V := by rw [he]; exact Tryz.sizeOf3 V
 rw [hsz, Result.andThen_ok, hal]
 unfold slicedAt
 rw [if_neg (by decide), Lib.add_plain, Int.toNat_natCast]
 rfl
theorem sl8_l (g b : Nat) (hb : b ≤ 8) (V : World) : (Instr.sliceAt 269 (.pointer (some ⟨g, 0, none⟩)) (some (.int .i64 (b : Int))) none none).run prog V = .ok (.slice (some ⟨g, if 8 = b then 0 else b, none⟩) (8 - b) (8 - b)) V := by
 have hal : prog.arrayLen 269 = 8 := by kernel_rfl
 rw [run_sliceAt_array_l V 269 ⟨g, 0, none⟩ (by simp [Program.arrayLen, Program.elem, underlying269]) .i64 (b : Int) (by omega) (by rw [hal]; omega)]
 have he : prog.elem 269 = 3 := by kernel_rfl
 have hsz : (sizeOf (prog.elem 269)).run prog V = .ok 1 V := by rw [he]; exact Tryz.sizeOf3 V
 rw [hsz, Result.andThen_ok, hal]
 unfold slicedAt
 rw [Int.toNat_natCast]
 by_cases h : 8 = b
 ·
  rw [if_pos h, if_pos h]
 ·
  rw [if_neg h, if_neg h, Lib.add_plain, Nat.mul_one, Nat.zero_add]
theorem sl8_a (g : Nat) (V : World) : (Instr.sliceAt 269 (.pointer (some ⟨g, 0, none⟩)) none none none).run prog V = .ok (.slice (some ⟨g, 0, none⟩) 8 8) V := by
 have hal : prog.arrayLen 269 = 8 := by kernel_rfl
 rw [run_sliceAt_array_all V 269 ⟨g, 0, none⟩ (by simp [Program.arrayLen, Program.elem, underlying269])]
 have he : prog.elem 269 = 3 := by kernel_rfl
 have hsz : (sizeOf (prog.elem 269)).run prog V = .ok 1 V := by rw [he]; exact Tryz.sizeOf3 V
 rw [hsz, Result.andThen_ok, hal]
 unfold slicedAt
 rw [if_neg (by decide), Lib.add_plain]
theorem nats_at {w : World} {g : Nat} {ip : List UInt8} (B : Blk w g 269 (grpsC ip)) (o : Nat) (ns : List Nat) (h : ∀ i (hi : i < ns.length), o + i < 8 ∧ grp ip (o + i) = ns[i]) : NatsR w (some ⟨g, o, none⟩) ns := fun _ => ⟨g, o, rfl, B.lt, fun i hi => by
 obtain ⟨h1, h2⟩ := h i hi
 have := B.cell_ (o + i) (grpsC_at ip h1)
 rw [this]
 unfold grpV
 rw [h2]⟩
set_option maxHeartbeats 4000000 in
theorem cbare_any (a : Adr) (hip : a.ip.length = 16) (w : World) (hT : Tb w) : Calls prog 124 #[.agg a.cells.toArray] w (RetB (.string (bs (bareT a.ip))) w) := by
 have hcl := a.cells_len hip
 have HW : Below w.heap.size w (w.alloc (.cells a.cells.toArray 24)) := (Below.refl _ _).alloc (Nat.le_refl _) _
 have X := Blk.new w 24 a.cells
 have GR := Hh (fun V => groups_any a hip V)
 have RO := Hh (fun V => row_any a.ip V)
 have hok := rowP_zeros a.ip
 have BM := Hh (fun h => bareT_map (ip := a.ip) h)
 have BA := Hh (fun h1 h2 => bareT_all (ip := a.ip) h1 h2)
 have BT := Hh (fun h1 h2 => bareT_two (ip := a.ip) h1 h2)
 obtain ⟨R, hR⟩ : ∃ R, Hid (bareT a.ip = R) := ⟨_, Hh rfl⟩
 rw [hR.out] at BM BA BT ⊢
 have MN := Hh (fun h => mapG_no (ip := a.ip) h)
 have MY := Hh (fun h => mapG_yes (ip := a.ip) h)
 obtain ⟨P, hP⟩ : ∃ P, Hid (rowP (zerosG a.ip) = P) := ⟨_, Hh rfl⟩
 rw [hP.out] at RO hok BA BT MY
 obtain ⟨b, n⟩ := P
 go_enter func124, ntmps124
 go_wp2_with (refine at_op (.load 24 (.tmp 1)) rfl ?_; go_must (refine wpList_ldB rfl _ _ rfl w.heap.size 0 rfl X 18 (by omega) _ underlying24 rfl adrInfo a.cells (tk0 (by omega)) ?_))
 refine (GR.out _).mono ?_
 rintro _ w1 ⟨rfl, b1⟩
 have X1 := X.below b1 X.lt
 have H1 := below_then HW HW.size b1
 obtain ⟨G, hG⟩ : ∃ G, Hid (grpsC a.ip = G) := ⟨_, Hh rfl⟩
 have hGl : G.length = 8 := by rw [← hG.out]; exact grpsC_len _
 have hG1 : ∀ v ∈ G, v.oneCell' = true := by rw [← hG.out]; exact grpsC_one _
 have g5 : G[5]? = some (.int .i64 (grp a.ip 5 : Int)) := by rw [← hG.out]; exact grpsC_at _ (by decide)
 rw [hG.out] at RO ⊢
 obtain ⟨Z8, hZ8⟩ : ∃ Z8 : List Value, Hid ([zI, zI, zI, zI, zI, zI, zI, zI] = Z8) := ⟨_, Hh rfl⟩
 have hZl : Z8.length = 8 := by rw [← hZ8.out]; rfl
 have Y0 := Blk.new w1 269 Z8
 have k0 : Below w1.heap.size w1 (w1.alloc (.cells Z8.toArray 269)) := (Below.refl _ _).alloc (Nat.le_refl _) _
 have hZc : Hid ((.cells #[.int .i64 0, .int .i64 0, .int .i64 0, .int .i64 0, .int .i64 0, .int .i64 0, .int .i64 0, .int .i64 0] 269 : Obj) = .cells Z8.toArray 269) := Hh (by rw [← hZ8.out]; rfl)
 clear GR b1 X
 go_wp2_with (refine at_op (.store 269 (.tmp 3) (.tmp 7)) rfl ?_; go_must (rw [hZc.out]; refine wpList_stB rfl _ _ _ rfl w1.heap.size 0 rfl G rfl Y0 (by omega) (by rw [hGl]; exact i8Info) hG1 ?_))
 intro w2 B2 g2 sw
 clear sw
 have BG : Blk w2 w1.heap.size 269 G := blkAll (M := Z8) (n := 8) (by simpa [hGl] using B2) (by omega)
 have k2 := below_grown k0 g2 k0.size (Nat.le_refl _)
 have X2 := X1.below k2 X1.lt
 have H2 := below_then H1 H1.size k2
 obtain ⟨gg, hgg⟩ : ∃ gg, Hid (w1.heap.size = gg) := ⟨_, Hh rfl⟩
 rw [hgg.out] at BG ⊢
 clear B2 g2 k0 Y0 X1 H1 k2 hZc
 go_wp2_with (refine at_op (.load 269 (.tmp 3)) rfl ?_; go_must (refine wpList_ldB rfl _ _ rfl gg 0 rfl BG 8 (by omega) _ underlying269 rfl i8Info G (tk0 (by omega)) ?_))
 refine (RO.out _).mono ?_
 rintro _ w3 ⟨rfl, b3⟩
 have BG3 := BG.below b3 BG.lt
 have X3 := X2.below b3 X2.lt
 have H3 := below_then H2 H2.size b3
 clear RO BG X2 H2 b3
 go_upto_region 3 with fail
 go_cut [23] (fun v wx => v = .bool (mapG a.ip) ∧ wx = w3)
 case first =>
  have d5 := BG3.cell_ 5 g5
  by_cases h5 : grp a.ip 5 = 65535
  case neg =>
   have hM := Hh (MN.out h5)
   have h5' : ((grp a.ip 5 : Int) == 65535) = false := by simp; omega
   clear MN MY h5
   go_wp2_with fail
   go_meet
   case rel => exact ⟨by rw [hM.out], rfl⟩
  have hM := Hh (MY.out h5)
  rw [h5] at d5
  clear MN MY h5
  by_cases hb : b = 0
  case neg =>
   have hb' : ((b : Int) == 0) = false := by simp; omega
   have hM2 : Hid (mapG a.ip = false) := Hh (by rw [hM.out, decide_eq_false hb, Bool.false_and])
   clear hM hb
   go_wp2_with fail
   go_meet
   case rel => exact ⟨by rw [hM2.out], rfl⟩
  have hb' : ((b : Int) == 0) = true := by simp; omega
  by_cases hn : n = 5
  case neg =>
   have hn' : ((n : Int) == 5) = false := by simp; omega
   have hM2 : Hid (mapG a.ip = false) := Hh (by rw [hM.out, decide_eq_false hn, Bool.and_false])
   clear hM hb hn
   go_wp2_with fail
   go_meet
   case rel => exact ⟨by rw [hM2.out], rfl⟩
  have hn' : ((n : Int) == 5) = true := by simp; omega
  have hM2 : Hid (mapG a.ip = true) := Hh (by rw [hM.out, decide_eq_true hn, decide_eq_true hb]; rfl)
  clear hM hb hn
  go_wp2_with fail
  go_meet
  case rel => exact ⟨by rw [hM2.out], rfl⟩
 obtain ⟨rfl, hw⟩ := hcut
 subst hw
 obtain ⟨w3, rfl⟩ : ∃ w3, w3 = wc := ⟨_, rfl⟩
 clear MN MY g5
 have HT3 := Hh (hT.below H3)
 cases hm : mapG a.ip with
 | true =>
  have hRm := Hh (BM.out hm)
  have d12 := X3.cell_ _ (adr_ip (a := a) (i := 12) (by omega))
  have d13 := X3.cell_ _ (adr_ip (a := a) (i := 13) (by omega))
  have d14 := X3.cell_ _ (adr_ip (a := a) (i := 14) (by omega))
  have d15 := X3.cell_ _ (adr_ip (a := a) (i := 15) (by omega))
  have QO := Hh (fun V => quadOf_any (a.ip.getD 12 0) (a.ip.getD 13 0) (a.ip.getD 14 0) (a.ip.getD 15 0) V)
  have QT := Hh (fun V (hV : Below w3.heap.size w3 V) => quadText_any (quadA (a.ip.getD 12 0) (a.ip.getD 13 0) (a.ip.getD 14 0) (a.ip.getD 15 0)) rfl V (HT3.out.below hV))
  have hq : quadA4 (quadA (a.ip.getD 12 0) (a.ip.getD 13 0) (a.ip.getD 14 0) (a.ip.getD 15 0)).ip 0 = quadA4 a.ip 12 := rfl
  rw [hq] at QT
  have hq4 : (quadA4 a.ip 12).length ≤ 100 := by
   have l0 := itoa_len (ipN a.ip 12) (by omega) (by have := ipN_lt a.ip 12; omega)
   have l1 := itoa_len (ipN a.ip 13) (by omega) (by have := ipN_lt a.ip 13; omega)
   have l2 := itoa_len (ipN a.ip 14) (by omega) (by have := ipN_lt a.ip 14; omega)
   have l3 := itoa_len (ipN a.ip 15) (by omega) (by have := ipN_lt a.ip 15; omega)
   show (quadT (ipN a.ip 12) (ipN a.ip 13) (ipN a.ip 14) (ipN a.ip 15)).length ≤ 100
   unfold quadT
   simp only [List.length_append, List.length_cons]
   omega
  generalize quadA4 a.ip 12 = q at *
  generalize (quadA (a.ip.getD 12 0) (a.ip.getD 13 0) (a.ip.getD 14 0) (a.ip.getD 15 0)).cells = qc at *
  unfold ipN at d12 d13 d14 d15
  clear BM BA BT hm hq HT3
  generalize a.ip.getD 12 0 = y0 at *
  generalize a.ip.getD 13 0 = y1 at *
  generalize a.ip.getD 14 0 = y2 at *
  generalize a.ip.getD 15 0 = y3 at *
  go_wp2_with fail
  refine (QO.out _).mono ?_
  rintro _ w4 ⟨rfl, b4⟩
  have H4 := below_then H3 H3.size b4
  go_wp2_with fail
  refine (QT.out _ b4).mono ?_
  rintro _ w5 ⟨rfl, b5⟩
  have H5 := below_then H4 H4.size b5
  clear QO QT b4 b5 H4 d12 d13 d14 d15 BG3 X3 H3
  go_wp2_with fail
  go_ret
  exact RetB.mk (by rw [hRm.out]; rfl) H5
 | false =>
  have hmf : ¬ mapG a.ip = true := by rw [hm]; exact Bool.false_ne_true
  have hNl := natsG_len a.ip
  have hGN : Blk w3 gg 269 (grpsC a.ip) := by rw [hG.out]; exact BG3
  by_cases hn2 : n < 2
  case pos =>
   have hn2' : (n : Int) < 2 := by omega
   have hRm := BA.out hmf hn2
   have JA := joined_any (some ⟨gg, 0, none⟩) 8 (natsG a.ip) w3 HT3.out (nats_at hGN 0 (natsG a.ip) (fun i hi => ⟨by omega, by rw [natsG_at a.ip (by omega), Nat.zero_add]⟩)) (by omega) (natsG_lt a.ip)
   rw [natsG_hex, ← hRm, hNl] at JA
   have JA := Hh JA
   have RS := sl8_a gg
   clear BM BA BT hm hmf hn2 hRm HT3 hGN
   go_wp2_with fail
   refine JA.out.mono ?_
   rintro _ w4 ⟨rfl, b4⟩
   have H4 := below_then H3 H3.size b4
   clear JA
   go_wp2_with fail
   go_ret
   exact RetB.mk rfl H4
  have hn2' : ¬ (n : Int) < 2 := by omega
  have hRm := Hh (BT.out hmf hn2)
  have hb8 : b ≤ 8 := by omega
  have hm1 : ((natsG a.ip).take b).map hexN = (hexG a.ip).take b := by rw [List.map_take, natsG_hex]
  have hm2 : ((natsG a.ip).drop (b + n)).map hexN = (hexG a.ip).drop (b + n) := by rw [List.map_drop, natsG_hex]
  have l1 : ((natsG a.ip).take b).length = b := by rw [List.length_take]; omega
  have l2 : ((natsG a.ip).drop (b + n)).length = 8 - (b + n) := by rw [List.length_drop]; omega
  have J1 := Hh (fun V (hV : Below w3.heap.size w3 V) => by
   have := joined_any (some ⟨gg, 0, none⟩) 8 ((natsG a.ip).take b) V (HT3.out.below hV) (nats_at (hGN.below hV hGN.lt) 0 _ (fun i hi => ⟨by omega, by rw [List.getElem_take, natsG_at a.ip (by omega), Nat.zero_add]⟩)) (by omega) (fun n hn => natsG_lt a.ip n (List.mem_of_mem_take hn))
   rw [hm1, l1] at this
   exact this)
  have J2 := Hh (fun V (hV : Below w3.heap.size w3 V) => by
   have := joined_any (some ⟨gg, if 8 = b + n then 0 else b + n, none⟩) (8 - (b + n)) ((natsG a.ip).drop (b + n)) V (HT3.out.below hV) (nats_at (hGN.below hV hGN.lt) _ _ (fun i hi => by
    rw [if_neg (by omega)]
    exact ⟨by omega, by rw [List.getElem_drop, natsG_at a.ip (by omega)]⟩)) (by omega) (fun n hn => natsG_lt a.ip n (List.mem_of_mem_drop hn))
   rw [hm2, l2] at this
   exact this)
  have k1 : (joinC 58 ((hexG a.ip).take b)).length ≤ 40 := by
   have := hexs_len ((hexG a.ip).take b) (fun l hl => by obtain ⟨i, _, rfl⟩ := List.mem_map.1 (List.mem_of_mem_take hl); exact hexN_len _)
   rw [← hm1, List.length_map, l1] at this
   rw [← hm1]; omega
  have k2 : (joinC 58 ((hexG a.ip).drop (b + n))).length ≤ 40 := by
   have := hexs_len ((hexG a.ip).drop (b + n)) (fun l hl => by obtain ⟨i, _, rfl⟩ := List.mem_map.1 (List.mem_of_mem_drop hl); exact hexN_len _)
   rw [← hm2, List.length_map, l2] at this
   rw [← hm2]; omega
  have RS1 := sl8_h gg b hb8
  have RS2 : ∀ V : World, (Instr.sliceAt 269 (.pointer (some ⟨gg, 0, none⟩)) (some (.int .i64 ((b : Int) + (n : Int)))) none none).run prog V = .ok (.slice (some ⟨gg, if 8 = b + n then 0 else b + n, none⟩) (8 - (b + n)) (8 - (b + n))) V := fun V => by
   have := sl8_l gg (b + n) hok V
   rwa [Int.natCast_add] at this
  generalize joinC 58 ((hexG a.ip).take b) = q1 at *
  generalize joinC 58 ((hexG a.ip).drop (b + n)) = q2 at *
  obtain ⟨oo, hoo⟩ : ∃ oo, (if 8 = b + n then 0 else b + n) = oo := ⟨_, rfl⟩
  rw [hoo] at J2 RS2
  clear BM BA BT hm hmf HT3 hGN hm1 hm2 l1 l2 hn2 hoo
  go_wp2_with fail
  refine wp_region_held_drew (S := fun V => Below w3.heap.size w3 V) (by kernel_rfl) (Below.refl _ _).drew (fun hS => ?_)
  refine held_seq hS 6 [0,1,4,5,6,7] rfl (by kernel_rfl) (fun _ _ _ _ _ h => h) rfl rfl ?_
  (refine ⟨_, (.int .i64 (b : Int)), rfl, .inl ⟨rfl, fun V hV => rfl⟩, ?_⟩; simp only [Act.put, lsA, lsB, lsC])
  (refine ⟨_, (.slice (some ⟨gg, 0, none⟩) b 8), rfl, .inl ⟨rfl, fun V hV => (by go_simp)⟩, ?_⟩; simp only [Act.put, lsA, lsB, lsC])
  (refine ⟨_, (.int .i64 (b : Int)), rfl, .inl ⟨rfl, fun V hV => rfl⟩, ?_⟩; simp only [Act.put, lsA, lsB, lsC])
  (refine ⟨_, (.int .i64 (n : Int)), rfl, .inl ⟨rfl, fun V hV => rfl⟩, ?_⟩; simp only [Act.put, lsA, lsB, lsC])
  (refine ⟨_, (.int .i64 ((b + n : Nat) : Int)), rfl, .inl ⟨rfl, fun V hV => (by go_simp; exact IntWalk.i64_in _ (by omega))⟩, ?_⟩; simp only [Act.put, lsA, lsB, lsC])
  (refine ⟨_, (.slice (some ⟨gg, oo, none⟩) (8 - (b + n)) (8 - (b + n))), rfl, .inl ⟨rfl, fun V hV => (by go_simp)⟩, ?_⟩; simp only [Act.put, lsA, lsB, lsC])
  simp only [SeqC]
  refine held_call 2 (some 45) 177 #[.slice (some ⟨gg, 0, none⟩) b 8] (by kernel_rfl) rfl rfl (by kernel_rfl) (by go_simp) (J1.out _ hS) ?_
  rintro _ w4 ⟨rfl, b4⟩
  have hS4 := below_then hS hS.size b4
  refine ⟨_, rfl, hS4, ?_⟩
  clear hS b4 J1
  have hS := hS4
  clear hS4
  simp only [Act.put, lsA, lsB, lsC]
  refine held_seq hS 1 [3] rfl (by kernel_rfl) (fun _ _ _ _ _ h => h) rfl rfl ?_
  (refine ⟨_, (.string (bs (q1 ++ [58, 58]))), rfl, .inl ⟨rfl, fun V hV => (by go_simp; omega)⟩, ?_⟩; simp only [Act.put, lsA, lsB, lsC])
  simp only [SeqC]
  refine held_call 8 (some 51) 177 #[.slice (some ⟨gg, oo, none⟩) (8 - (b + n)) (8 - (b + n))] (by kernel_rfl) rfl rfl (by kernel_rfl) (by go_simp) (J2.out _ hS) ?_
  rintro _ w5 ⟨rfl, b5⟩
  have hS5 := below_then hS hS.size b5
  refine ⟨_, rfl, hS5, ?_⟩
  clear hS b5 J2
  have hS := hS5
  clear hS5
  simp only [Act.put, lsA, lsB, lsC]
  refine held_seq hS 2 [9, 10] rfl (by kernel_rfl) (fun _ _ _ _ _ h => h) rfl rfl ?_
  (refine ⟨_, (.string (bs (q1 ++ [58, 58] ++ q2))), rfl, .inl ⟨rfl, fun V hV => (by go_simp; omega)⟩, ?_⟩; simp only [Act.put, lsA, lsB, lsC])
  (refine ⟨_, (.string (bs (q1 ++ [58, 58] ++ q2))), rfl, .inl ⟨rfl, fun V hV => rfl⟩, ?_⟩; simp only [Act.put, lsA, lsB, lsC])
  simp only [SeqC]
  refine wpAnyH_done (by kernel_rfl) ?_ _
  have H5 := below_then H3 H3.size hS
  go_wp2_with fail
  go_ret
  exact RetB.mk (by rw [hRm.out]; rfl) H5
theorem bareT_len (a : List UInt8) : (bareT a).length ≤ 200 := by
 have hh : ∀ l ∈ hexG a, l.length ≤ 4 := fun l hl => by obtain ⟨i, _, rfl⟩ := List.mem_map.1 hl; exact hexN_len _
 by_cases h : mapG a = true
 ·
  rw [bareT_map h]
  have l0 := itoa_len (ipN a 12) (by omega) (by have := ipN_lt a 12; omega)
  have l1 := itoa_len (ipN a 13) (by omega) (by have := ipN_lt a 13; omega)
  have l2 := itoa_len (ipN a 14) (by omega) (by have := ipN_lt a 14; omega)
  have l3 := itoa_len (ipN a 15) (by omega) (by have := ipN_lt a 15; omega)
  show ([58, 58, 102, 102, 102, 102, 58] ++ quadT (ipN a 12) (ipN a 13) (ipN a 14) (ipN a 15)).length ≤ 200
  unfold quadT
  simp only [List.length_append, List.length_cons, List.length_nil]
  omega
 ·
  by_cases h2 : (rowP (zerosG a)).2 < 2
  ·
   rw [bareT_all h h2]
   have := hexs_len (hexG a) hh
   rw [hexG_len] at this
   omega
  ·
   rw [bareT_two h h2]
   have k1 := hexs_len ((hexG a).take (rowP (zerosG a)).1) (fun l hl => hh l (List.mem_of_mem_take hl))
   have k2 := hexs_len ((hexG a).drop ((rowP (zerosG a)).1 + (rowP (zerosG a)).2)) (fun l hl => hh l (List.mem_of_mem_drop hl))
   rw [List.length_take, hexG_len] at k1
   rw [List.length_drop, hexG_len] at k2
   simp only [List.length_append, List.length_cons, List.length_nil]
   omega
set_option maxHeartbeats 2000000 in
theorem colonText_any (a : Adr) (hip : a.ip.length = 16) (hz : a.zone ≤ 9223372036854775807) (w : World) (hT : Tb w) : Calls prog 73 #[.agg a.cells.toArray] w (RetB (.string (bs (colonT a))) w) := by
 have hcl := a.cells_len hip
 have HW : Below w.heap.size w (w.alloc (.cells a.cells.toArray 24)) := (Below.refl _ _).alloc (Nat.le_refl _) _
 have X := Blk.new w 24 a.cells
 have BR := Hh (fun V (hV : Below w.heap.size w V) => cbare_any a hip V (hT.below hV))
 have DG := Hh (fun V (hV : Below w.heap.size w V) (h : 0 < a.zone) => digits_any a.zone (by omega) hz V (hT.below hV))
 have L17 : a.cells[17]? = some (.int .i64 a.zone) := by
  show (octs a.ip ++ [Value.int .i64 a.zone])[16]? = _
  rw [List.getElem?_append_right (by rw [octs_length]; omega), octs_length, hip]
  rfl
 have hl := bareT_len a.ip
 have hil : 0 < a.zone → (Lib.itoa a.zone).length ≤ 21 := fun h => itoa_len a.zone (by omega) hz
 obtain ⟨R, hR⟩ : ∃ R, Hid (colonT a = R) := ⟨_, Hh rfl⟩
 have HR : Hid (R = bareT a.ip ++ (if 0 < a.zone then 37 :: Lib.itoa a.zone else [])) := Hh hR.out.symm
 rw [hR.out]
 clear hR hT
 generalize bareT a.ip = q at *
 generalize Lib.itoa a.zone = zt at *
 generalize a.zone = z at *
 generalize a.cells = ac at *
 have d17 := X.cell_ 17 L17
 by_cases hp : 0 < z
 case neg =>
  have hR2 := HR.out
  rw [if_neg hp, List.append_nil] at hR2
  subst hR2
  clear DG hil HR
  have hp' : ¬ (0 : Int) < z := hp
  clear hp
  go_enter func73, ntmps73
  go_wp2_with (refine at_op (.load 24 (.tmp 1)) rfl ?_; go_must (refine wpList_ldB rfl _ _ rfl w.heap.size 0 rfl X 18 (by omega) _ underlying24 rfl adrInfo ac (tk0 (by omega)) ?_))
  refine (BR.out _ HW).mono ?_
  rintro _ w1 ⟨rfl, b1⟩
  have H1 := below_then HW HW.size b1
  clear BR X d17 HW b1
  go_wp2_with fail
  go_ret
  exact RetB.mk rfl H1
 have hR2 := HR.out
 rw [if_pos hp] at hR2
 have HR2 := Hh hR2
 have hl2 := hil hp
 have DGp := Hh (fun V hV => DG.out V hV hp)
 have LA : Hid (∀ V, Below (w.alloc (.cells ac.toArray 24)).heap.size (w.alloc (.cells ac.toArray 24)) V → (Instr.loadAt 24 (.pointer (some ⟨w.heap.size, 0, none⟩))).run prog V = .ok (.agg ac.toArray) V) := Hh (fun V hV => (X.below hV X.lt).loads 24 0 18 (by omega) _ underlying24 rfl adrInfo _ (tk0 (by omega)))
 have LZ : Hid (∀ V, Below (w.alloc (.cells ac.toArray 24)).heap.size (w.alloc (.cells ac.toArray 24)) V → (Instr.loadAt 3 (.pointer (some ⟨w.heap.size, 17, none⟩))).run prog V = .ok (.int .i64 z) V) := Hh (fun V hV => run_load1 underlying3 rfl ((X.below hV X.lt).cell_ 17 L17))
 clear HR hil DG hR2
 go_enter func73, ntmps73
 go_wp2_with fail
 obtain ⟨W, hW⟩ : ∃ W, Hid (w.alloc (.cells ac.toArray 24) = W) := ⟨_, Hh rfl⟩
 rw [hW.out] at X HW LA LZ ⊢
 refine wp_region_held_drew (S := fun V => Below W.heap.size W V) (by kernel_rfl) (Below.refl _ _).drew (fun hS => ?_)
 refine held_seq hS 3 [0,3,4] rfl (by kernel_rfl) (fun _ _ _ _ _ h => h) rfl rfl ?_
 (refine ⟨_, _, rfl, .inl ⟨rfl, fun V hV => (exec_ld 24 (.tmp 1) ⟨w.heap.size, 0, none⟩ rfl rfl (LA.out V hV))⟩, ?_⟩; simp only [Act.put, lsA, lsB, lsC])
 (refine ⟨_, (.pointer (some ⟨w.heap.size, 17, none⟩)), rfl, .inl ⟨rfl, fun V hV => rfl⟩, ?_⟩; simp only [Act.put, lsA, lsB, lsC])
 (refine ⟨_, _, rfl, .inl ⟨rfl, fun V hV => (exec_ld 3 (.tmp 9) ⟨w.heap.size, 17, none⟩ rfl rfl (LZ.out V hV))⟩, ?_⟩; simp only [Act.put, lsA, lsB, lsC])
 simp only [SeqC]
 refine held_call 1 (some 7) 124 #[.agg ac.toArray] (by kernel_rfl) rfl rfl (by kernel_rfl) (by go_simp) (BR.out _ (below_then HW HW.size hS)) ?_
 rintro _ w4 ⟨rfl, b4⟩
 have hS4 := below_then hS hS.size b4
 refine ⟨_, rfl, hS4, ?_⟩
 clear hS b4 BR
 have hS := hS4
 clear hS4
 simp only [Act.put, lsA, lsB, lsC]
 refine held_seq hS 1 [2] rfl (by kernel_rfl) (fun _ _ _ _ _ h => h) rfl rfl ?_
 (refine ⟨_, (.string (bs (q ++ [37]))), rfl, .inl ⟨rfl, fun V hV => (by go_simp; omega)⟩, ?_⟩; simp only [Act.put, lsA, lsB, lsC])
 simp only [SeqC]
 refine held_call 5 (some 11) 71 #[.int .i64 z] (by kernel_rfl) rfl rfl (by kernel_rfl) (by go_simp) (DGp.out _ (below_then HW HW.size hS)) ?_
 rintro _ w5 ⟨rfl, b5⟩
 have hS5 := below_then hS hS.size b5
 refine ⟨_, rfl, hS5, ?_⟩
 clear hS b5 DGp
 have hS := hS5
 clear hS5
 simp only [Act.put, lsA, lsB, lsC]
 refine held_seq hS 2 [6, 7] rfl (by kernel_rfl) (fun _ _ _ _ _ h => h) rfl rfl ?_
 (refine ⟨_, (.string (bs (q ++ [37] ++ zt))), rfl, .inl ⟨rfl, fun V hV => (by go_simp; omega)⟩, ?_⟩; simp only [Act.put, lsA, lsB, lsC])
 (refine ⟨_, (.string (bs (q ++ [37] ++ zt))), rfl, .inl ⟨rfl, fun V hV => rfl⟩, ?_⟩; simp only [Act.put, lsA, lsB, lsC])
 simp only [SeqC]
 refine wpAnyH_done (by kernel_rfl) ?_ _
 have H5 := below_then HW HW.size hS
 clear LA LZ X d17 HW hS
 go_wp2_with fail
 go_ret
 exact RetB.mk (by rw [HR2.out, List.append_assoc]; rfl) H5
theorem adrText_any (a : Adr) (hip : a.ip.length = 16) (hz : a.zone ≤ 9223372036854775807) (w : World) (hT : Tb w) : Calls prog 24 #[.agg a.cells.toArray] w (RetB (.string (bs (adrT a))) w) := by
 have hcl := a.cells_len hip
 have HW : Below w.heap.size w (w.alloc (.cells a.cells.toArray 24)) := (Below.refl _ _).alloc (Nat.le_refl _) _
 have X := Blk.new w 24 a.cells
 have QT := Hh (fun V (hV : Below w.heap.size w V) => quadText_any a hip V (hT.below hV))
 have CT := Hh (fun V (hV : Below w.heap.size w V) => colonText_any a hip hz V (hT.below hV))
 have L0 : a.cells[0]? = some (.int .i64 a.fam) := rfl
 obtain ⟨R, hR⟩ : ∃ R, Hid (adrT a = R) := ⟨_, Hh rfl⟩
 have HR : Hid (R = if a.fam = 4 then quadA4 a.ip 0 else if a.fam = 6 then colonT a else []) := Hh hR.out.symm
 rw [hR.out]
 clear hR hT
 generalize quadA4 a.ip 0 = q at *
 generalize colonT a = c at *
 generalize a.fam = f at *
 generalize a.cells = ac at *
 have d0 := X.cell_ 0 L0
 by_cases h4 : f = 4
 case pos =>
  subst h4
  have hR2 := HR.out
  rw [if_pos rfl] at hR2
  subst hR2
  clear HR CT
  go_enter func24, ntmps24
  go_wp2_with (refine at_op (.load 24 (.tmp 1)) rfl ?_; go_must (refine wpList_ldB rfl _ _ rfl w.heap.size 0 rfl X 18 (by omega) _ underlying24 rfl adrInfo ac (tk0 (by omega)) ?_))
  refine (QT.out _ HW).mono ?_
  rintro _ w1 ⟨rfl, b1⟩
  have H1 := below_then HW HW.size b1
  go_wp2_with fail
  go_ret
  exact RetB.mk rfl H1
 have h4' : (f == 4) = false := by simpa using h4
 by_cases h6 : f = 6
 case pos =>
  subst h6
  have hR2 := HR.out
  rw [if_neg (by decide), if_pos rfl] at hR2
  subst hR2
  clear HR QT h4
  go_enter func24, ntmps24
  go_wp2_with (refine at_op (.load 24 (.tmp 1)) rfl ?_; go_must (refine wpList_ldB rfl _ _ rfl w.heap.size 0 rfl X 18 (by omega) _ underlying24 rfl adrInfo ac (tk0 (by omega)) ?_))
  refine (CT.out _ HW).mono ?_
  rintro _ w1 ⟨rfl, b1⟩
  have H1 := below_then HW HW.size b1
  go_wp2_with fail
  go_ret
  exact RetB.mk rfl H1
 have h6' : (f == 6) = false := by simpa using h6
 have hR2 := HR.out
 rw [if_neg h4, if_neg h6] at hR2
 subst hR2
 clear HR QT CT h4 h6
 go_enter func24, ntmps24
 go_wp2_with fail
 go_ret
 exact RetB.mk rfl HW
end Go.Proofs.YteimenplbanooaaGreatDoor

/-
  Layer 24, the laws' own: AskBuilds.
-/
import Derived.Test.YtlmgdogblbigpaaLaw24
import Derived.Test.YtlmgdogblbigpaaLaw14c
namespace Go.Proofs.Ytlmgdogblbigpaa
open Go.RowKit
set_option maxRecDepth 100000
set_option linter.unusedVariables false
set_option linter.unusedSimpArgs false

set_option maxHeartbeats 4000000 in
theorem refAsk_no (A : Option Addr) (c : Nat) (q : Qn) (id : Int) (w : World) (hA : NmR w A c q.name) :
    Calls Try.prog 48 #[.agg #[.slice A q.name.length c, .int .i64 q.ty, .int .i64 q.cl], .int .i64 id, .bool false] w (RefAsk (askM q id false) w) := by
  have AI := Lib.hid (fun (w' : World) (b : Below w.heap.size w w') (gq : Nat) hq => @askIs w' 0 gq 0 A c q id false hq (fun h => by cases h) (hA.below b))
  clear hA
  generalize askM q id false = M at *
  generalize q.ty = ty at *
  generalize q.cl = cl at *
  generalize q.name.length = nl at *
  have B6 := Blk.new' (w.alloc (.cells #[.slice A nl c, .int .i64 ty, .int .i64 cl] 61)) 52 msgZ (w.heap.size + 1) (by simp)
  go_enter Try.func48, Try.ntmps48
  go_wp2_with (refine at_op (.store 52 (.tmp 6) (.tmp 20)) rfl ?_; go_must (refine wpList_stB rfl 52 (.tmp 6) (.tmp 20) rfl (w.heap.size + 1) 0 rfl (msgC (askH id) (.slice (some ⟨w.heap.size + 1 + 1, 0, none⟩) 1 1) nilS nilS nilS) rfl ((B6.alloc _).alloc _) (by rw [msgC_len, msgZ_len]; omega) (by rw [msgC_len]; exact msgInfo) (msgC_one _ rfl rfl rfl rfl) ?_))
  intro w5 B5 g5 s5
  have kk : ∀ o1 o2 o3 o4, Below w.heap.size w ((((w.alloc o1).alloc o2).alloc o3).alloc o4) := fun o1 o2 o3 o4 => ((((Below.refl _ _).alloc (Nat.le_refl _) _).alloc (by simp) _).alloc (by simp; omega) _).alloc (by simp; omega) _
  have b5 := below_grown (kk _ _ _ _) g5 (by simp; omega) (by omega)
  have Bq : Blk w5 (w.heap.size + 1 + 1) 61 [.slice A nl c, .int .i64 ty, .int .i64 cl] := Blk.grown ((Blk.new' _ 61 [.slice A nl c, .int .i64 ty, .int .i64 cl] _ (by simp)).alloc _) g5 (by simp)
  clear kk g5 B6
  go_wp2_with fail
  refine ret_cell rfl (w.heap.size + 1) rfl B5 _ Try.underlying52 rfl msgInfo rfl ?_
  exact ⟨_, _, _, _, _, _, _, _, _, rfl, b5, AI.out w5 b5 _ Bq⟩
theorem refAsk_all (A : Option Addr) (c : Nat) (q : Qn) (id : Int) (edns : Bool) (w : World) (hA : NmR w A c q.name) :
    Calls Try.prog 48 #[.agg #[.slice A q.name.length c, .int .i64 q.ty, .int .i64 q.cl], .int .i64 id, .bool edns] w (RefAsk (askM q id edns) w) := by
  cases edns
  · exact refAsk_no A c q id w hA
  · exact refAsk_any A c q id w hA
theorem refBuild_any (A : Option Addr) (c : Nat) (q : Qn) (id : Int) (edns : Bool) (w : World) (hA : NmR w A c q.name) :
    Calls Try.prog 56 #[.agg #[.slice A q.name.length c, .int .i64 q.ty, .int .i64 q.cl], .int .i64 id, .bool edns] w (RetB (.tuple #[.string (bs (encM (askM q id edns) false).1), .int .i64 (encM (askM q id edns) false).2]) w) := by
  have kb : Below w.heap.size w (w.alloc (.cells #[.slice A q.name.length c, .int .i64 q.ty, .int .i64 q.cl] 61)) := (Below.refl _ _).alloc (Nat.le_refl _) _
  have MS := Lib.hid (refAsk_all A c q id edns _ (hA.below kb))
  have h1 : (askM q id edns).qs.length ≤ 100 := by simp [askM]
  have h2 : (askM q id edns).rrs.length ≤ 200 := by cases edns <;> simp [askM, Msg.rrs]
  clear hA
  generalize askM q id edns = M at *
  generalize q.ty = ty at *
  generalize q.cl = cl at *
  generalize q.name.length = nl at *
  go_enter Try.func56, Try.ntmps56
  go_wp2_with fail
  refine MS.out.mono ?_
  rintro _ w1 ⟨cs, Aq, Aa, Au, Ae, cq, ca, cu, ce, rfl, b1, hM⟩
  have EN := Lib.hid (refmencode_any cs M false Aq Aa Au Ae cq ca cu ce w1 hM h1 h2)
  have b2 := below_then kb kb.size b1
  generalize (encM M false).1 = o1 at *
  generalize (encM M false).2 = o2 at *
  clear hM b1 MS
  go_wp2_with fail
  refine EN.out.mono ?_
  rintro _ w2 ⟨rfl, b3⟩
  have b4 := below_then b2 b2.size b3
  clear EN
  go_wp2_with fail
  go_ret2
  exact RetB.mk rfl b4
/-- The plain law of AskBuilds. -/
theorem ask_plain (q : Qn) (id : Int) (edns : Bool) : (encM (askM q id edns) false).2 ≠ 0 ∨ ((encM (askM q id edns) false).2 = 0 ∧ (encM (askM q id edns) false).1.length ≤ 65535 ∧ decM (encM (askM q id edns) false).1 = .ok (askM q id edns)) := by
  have hw : ∀ r ∈ (askM q id edns).rrs, r.wf := by
    intro r hr
    cases edns with
    | false => simp [askM, Msg.rrs] at hr
    | true =>
      have : r = optR := by simpa [askM, Msg.rrs] using hr
      subst this
      exact ⟨rfl, rfl⟩
  rcases back_plain _ hw with ⟨h1, h2, h3, h4, h5, h6⟩ | ⟨h1, _⟩ | ⟨h1, _⟩
  · exact .inr ⟨h1, h4, h5⟩
  · exact .inl h1
  · exact .inl h1
theorem MsgOwn.c0 {w : World} {cs : List Value} {m : Msg} (h : MsgOwn w cs m) : cs[0]? = some (.int .i64 m.hd.id) ∧ cs[1]? = some (.bool m.hd.qr) := by obtain ⟨vq, va, vu, ve, rfl, _⟩ := h; exact ⟨rfl, rfl⟩
set_option maxHeartbeats 8000000 in
theorem askBuilds_any (A : Option Addr) (c : Nat) (q : Qn) (id : Int) (edns : Bool) (w : World) (hN : NmR w A c q.name) :
    Calls Try.prog 17 #[.agg (qC (.slice A q.name.length c) q).toArray, .int .i64 id, .bool edns] w (RetB (.bool true) w) := by
  show Calls Try.prog 17 #[.agg #[.slice A q.name.length c, .int .i64 q.ty, .int .i64 q.cl], .int .i64 id, .bool edns] w (RetB (.bool true) w)
  have kb : Below w.heap.size w (w.alloc (.cells #[.slice A q.name.length c, .int .i64 q.ty, .int .i64 q.cl] 61)) := (Below.refl _ _).alloc (Nat.le_refl _) _
  have B3 := Blk.new w 61 [.slice A q.name.length c, .int .i64 q.ty, .int .i64 q.cl]
  have FW := Lib.hid (fun w' (b : Below w.heap.size w w') => fewN_any A c q.name w' (hN.below b))
  have hls := lsum_ge q.name
  by_cases hf : lsum q.name ≤ 400
  case neg =>
    rw [decide_eq_false hf] at FW
    clear hls hN hf B3
    generalize q.ty = ty at *
    generalize q.cl = cl at *
    generalize q.name.length = nl at *
    go_enter Try.func17, Try.ntmps17
    go_wp2_with fail
    refine (FW.out _ kb).mono ?_
    rintro _ w1 ⟨rfl, rfl⟩
    go_wp2_with fail
    refine (works24_any _).mono ?_
    rintro _ w2 ⟨rfl, b2⟩
    have HB := below_then kb kb.size b2
    clear b2
    go_wp2_with fail
    go_ret
    exact RetB.mk rfl HB
  rw [decide_eq_true hf] at FW
  have hn : q.name.length ≤ 100000 := by omega
  have BA := Lib.hid (fun w' (b : Below w.heap.size w w') => build_any A c q id edns w' (hN.below b) hn)
  have RB := Lib.hid (fun w' (b : Below w.heap.size w w') => refBuild_any A c q id edns w' (hN.below b))
  have AM := Lib.hid (fun w' (b : Below w.heap.size w w') => askMessage_any A c q id edns w' (hN.below b) hn)
  have RA := Lib.hid (fun w' (b : Below w.heap.size w w') => refAsk_all A c q id edns w' (hN.below b))
  have AP := Lib.hid (ask_plain q id edns)
  have hid : (askM q id edns).hd.id = id := rfl
  have hqr : (askM q id edns).hd.qr = false := rfl
  clear hN hn hls hf
  generalize askM q id edns = M at *
  generalize encM M false = o at *
  obtain ⟨s, x⟩ := o
  simp only at BA RB AP
  have HID := Lib.hid hid
  have HQR := Lib.hid hqr
  clear hid hqr
  generalize q.ty = ty at *
  generalize q.cl = cl at *
  generalize q.name.length = nl at *
  go_enter Try.func17, Try.ntmps17
  go_wp2_with fail
  refine (FW.out _ kb).mono ?_
  rintro _ w1 ⟨rfl, rfl⟩
  clear FW
  go_wp2_with (refine at_op (.load 61 (.tmp 3)) rfl ?_; go_must (refine wpList_ldB rfl 61 (.tmp 3) rfl w.heap.size 0 rfl B3 3 (by simp) _ Try.underlying61 rfl qInfo [.slice A nl c, .int .i64 ty, .int .i64 cl] rfl ?_))
  refine (BA.out _ kb).mono ?_
  rintro _ w2 ⟨rfl, b2⟩
  have K2 := below_then kb kb.size b2
  have Q2 := B3.below b2 B3.lt
  clear b2 kb B3 BA
  go_wp2_with (refine at_op (.load 61 (.tmp 3)) rfl ?_; go_must (refine wpList_ldB rfl 61 (.tmp 3) rfl w.heap.size 0 rfl Q2 3 (by simp) _ Try.underlying61 rfl qInfo [.slice A nl c, .int .i64 ty, .int .i64 cl] rfl ?_))
  refine (RB.out _ K2).mono ?_
  rintro _ w3 ⟨rfl, b3⟩
  have K3 := below_then K2 K2.size b3
  have Q3 := Q2.below b3 Q2.lt
  clear b3 K2 Q2 RB
  go_wp2_with (refine at_op (.load 61 (.tmp 3)) rfl ?_; go_must (refine wpList_ldB rfl 61 (.tmp 3) rfl w.heap.size 0 rfl Q3 3 (by simp) _ Try.underlying61 rfl qInfo [.slice A nl c, .int .i64 ty, .int .i64 cl] rfl ?_))
  refine (AM.out _ K3).mono ?_
  rintro _ w4 ⟨cs, Aq, Aa, Au, Ae, cq, ca, cu, ce, rfl, b4, hM⟩
  have hM4 := hM w4 (Above.refl _ _)
  have hcl : cs.length = 14 := by rw [hM4.hcs]; exact msgC_len _ _ _ _ _
  have hc1 : Hid (∀ v ∈ cs, v.oneCell' = true) := Lib.hid (by rw [hM4.hcs]; exact msgC_one _ rfl rfl rfl rfl)
  have K4 := below_then K3 K3.size b4
  have Q4 := Q3.below b4 Q3.lt
  clear hM b4 K3 Q3 AM
  go_wp2_with (refine at_op (.store 52 (.tmp 11) (.tmp 36)) rfl ?_; go_must (refine wpList_stB rfl 52 (.tmp 11) (.tmp 36) rfl w4.heap.size 0 rfl cs rfl (Blk.new' _ _ msgZ _ rfl) (by rw [hcl, msgZ_len]; omega) (by rw [hcl]; exact msgInfo) hc1.out ?_))
  intro w5 B5 g5 _
  rw [List.drop_of_length_le (by rw [msgZ_len]; omega), List.append_nil] at B5
  have k5 : Below w4.heap.size w4 w5 := below_grown ((Below.refl _ _).alloc (Nat.le_refl _) _) g5 (by simp) (Nat.le_refl _)
  have K5 := below_then K4 K4.size k5
  have Q5 := Q4.below k5 Q4.lt
  have hM5 := hM4.below k5
  have hgm : w.heap.size < w4.heap.size := Q4.lt
  clear g5 k5 hM4 K4 Q4 hc1
  generalize w4.heap.size = gm at *
  have SA := Lib.hid (fun w' (b : Below w5.heap.size w5 w') ds Bq Ba Bu Be dq da du de (h : MsgIs w' ds M Bq Ba Bu Be dq da du de) => same14_any cs ds M M Aq Aa Au Ae Bq Ba Bu Be cq ca cu ce dq da du de w' (hM5.below b) h)
  have h0 := Lib.hid (fun w' (b : Below w5.heap.size w5 w') => hM5.below b)
  clear hM5
  go_wp2_with fail
  refine wp_region_held_drew (S := fun W => Blk W gm 52 cs ∧ Blk W w.heap.size 61 [.slice A nl c, .int .i64 ty, .int .i64 cl]) (by kernel_rfl) ⟨B5.drew, Q5.drew⟩ (fun hS => ?_)
  refine held_call 0 (some 37) 46 #[] (by kernel_rfl) rfl rfl (by kernel_rfl) (by go_simp) (works24_any _) ?_
  rintro _ wa ⟨rfl, ka'⟩
  have ka : Below w5.heap.size w5 wa := below_then (w := w5.drew) (Below.refl _ _).drew (Nat.le_refl _) ka'
  have Ka := below_then K5 K5.size ka
  have Ba := B5.below ka B5.lt
  have Qa := Q5.below ka Q5.lt
  refine ⟨_, rfl, ⟨Ba, Qa⟩, ?_⟩
  clear hS ka'
  have hS : Blk wa gm 52 cs ∧ Blk wa w.heap.size 61 [.slice A nl c, .int .i64 ty, .int .i64 cl] := ⟨Ba, Qa⟩
  simp only [Act.put, List.setIfInBounds_toArray, List.set_cons_zero, List.set_cons_succ]
  (refine held_val 1 (some 38) rfl rfl (by kernel_rfl) (by kernel_rfl) (by kernel_rfl) (fun _ _ _ h => h) (by kernel_rfl) (fun W hW => rfl) hS ?_; simp only [Act.put, List.setIfInBounds_toArray, List.set_cons_zero, List.set_cons_succ])
  (refine held_val 2 (some 39) rfl rfl (by kernel_rfl) (by kernel_rfl) (by kernel_rfl) (fun _ _ _ h => h) (by kernel_rfl) (fun W hW => rfl) hS ?_; simp only [Act.put, List.setIfInBounds_toArray, List.set_cons_zero, List.set_cons_succ])
  (refine held_val 3 (some 40) rfl rfl (by kernel_rfl) (by kernel_rfl) (by kernel_rfl) (fun _ _ _ h => h) (by kernel_rfl) (fun W hW => rfl) hS ?_; simp only [Act.put, List.setIfInBounds_toArray, List.set_cons_zero, List.set_cons_succ])
  (refine held_val 4 (some 41) rfl rfl (by kernel_rfl) (by kernel_rfl) (by kernel_rfl) (fun _ _ _ h => h) (by kernel_rfl) (fun W hW => rfl) hS ?_; simp only [Act.put, List.setIfInBounds_toArray, List.set_cons_zero, List.set_cons_succ])
  refine held_val 5 (some 42) (v := .bool false) rfl rfl (by kernel_rfl) (by kernel_rfl) (by kernel_rfl) (fun _ _ _ h => h) (by kernel_rfl) (fun W hW => by go_simp) hS ?_
  simp only [Act.put, List.setIfInBounds_toArray, List.set_cons_zero, List.set_cons_succ]
  (refine held_val 6 (some 43) rfl rfl (by kernel_rfl) (by kernel_rfl) (by kernel_rfl) (fun _ _ _ h => h) (by kernel_rfl) (fun W hW => rfl) hS ?_; simp only [Act.put, List.setIfInBounds_toArray, List.set_cons_zero, List.set_cons_succ])
  (refine held_val 7 (some 44) rfl rfl (by kernel_rfl) (by kernel_rfl) (by kernel_rfl) (fun _ _ _ h => h) (by kernel_rfl) (fun W hW => rfl) hS ?_; simp only [Act.put, List.setIfInBounds_toArray, List.set_cons_zero, List.set_cons_succ])
  (refine held_val 8 (some 45) rfl rfl (by kernel_rfl) (by kernel_rfl) (by kernel_rfl) (fun _ _ _ h => h) (by kernel_rfl) (fun W hW => rfl) hS ?_; simp only [Act.put, List.setIfInBounds_toArray, List.set_cons_zero, List.set_cons_succ])
  (refine held_val 9 (some 46) rfl rfl (by kernel_rfl) (by kernel_rfl) (by kernel_rfl) (fun _ _ _ h => h) (by kernel_rfl) (fun W hW => rfl) hS ?_; simp only [Act.put, List.setIfInBounds_toArray, List.set_cons_zero, List.set_cons_succ])
  refine held_val 10 (some 47) (v := .bool false) rfl rfl (by kernel_rfl) (by kernel_rfl) (by kernel_rfl) (fun _ _ _ h => h) (by kernel_rfl) (fun W hW => by go_simp) hS ?_
  simp only [Act.put, List.setIfInBounds_toArray, List.set_cons_zero, List.set_cons_succ]
  (refine held_val 11 (some 48) rfl rfl (by kernel_rfl) (by kernel_rfl) (by kernel_rfl) (fun _ _ _ h => h) (by kernel_rfl) (fun W hW => rfl) hS ?_; simp only [Act.put, List.setIfInBounds_toArray, List.set_cons_zero, List.set_cons_succ])
  (refine held_val 12 (some 49) rfl rfl (by kernel_rfl) (by kernel_rfl) (by kernel_rfl) (fun _ _ _ h => h) (by kernel_rfl) (fun W hW => rfl) hS ?_; simp only [Act.put, List.setIfInBounds_toArray, List.set_cons_zero, List.set_cons_succ])
  refine held_ld 13 (some 50) 52 (.tmp 11) ⟨gm, 0, none⟩ rfl rfl rfl rfl (by kernel_rfl) (by kernel_rfl) (by kernel_rfl) (fun _ _ _ h => h) (by kernel_rfl) (fun W hW => hW.1.loads 52 0 14 (by omega) _ Try.underlying52 rfl msgInfo cs (by rw [List.drop_zero, List.take_of_length_le (by omega)])) hS ?_
  simp only [Act.put, List.setIfInBounds_toArray, List.set_cons_zero, List.set_cons_succ]
  refine held_ld 14 (some 51) 61 (.tmp 3) ⟨w.heap.size, 0, none⟩ rfl rfl rfl rfl (by kernel_rfl) (by kernel_rfl) (by kernel_rfl) (fun _ _ _ h => h) (by kernel_rfl) (fun W hW => hW.2.loads 61 0 3 (by simp) _ Try.underlying61 rfl qInfo [.slice A nl c, .int .i64 ty, .int .i64 cl] rfl) hS ?_
  simp only [Act.put, List.setIfInBounds_toArray, List.set_cons_zero, List.set_cons_succ]
  (refine held_val 15 (some 52) rfl rfl (by kernel_rfl) (by kernel_rfl) (by kernel_rfl) (fun _ _ _ h => h) (by kernel_rfl) (fun W hW => rfl) hS ?_; simp only [Act.put, List.setIfInBounds_toArray, List.set_cons_zero, List.set_cons_succ])
  (refine held_val 16 (some 53) rfl rfl (by kernel_rfl) (by kernel_rfl) (by kernel_rfl) (fun _ _ _ h => h) (by kernel_rfl) (fun W hW => rfl) hS ?_; simp only [Act.put, List.setIfInBounds_toArray, List.set_cons_zero, List.set_cons_succ])
  refine held_call 17 (some 54) 48 #[.agg #[.slice A nl c, .int .i64 ty, .int .i64 cl], .int .i64 id, .bool edns] (by kernel_rfl) rfl rfl (by kernel_rfl) (by go_simp) (RA.out _ Ka) ?_
  rintro _ wb ⟨ds, Bq, Ba', Bu, Be, dq, da, du, de, rfl, kb', hMb⟩
  have kb := below_then ka ka.size kb'
  have Kb := below_then Ka Ka.size kb'
  have Bmb := Ba.below kb' Ba.lt
  have Qb := Qa.below kb' Qa.lt
  have SB : Hid (Calls Try.prog 42 #[.agg cs.toArray, .agg ds.toArray] wb (RetB (.bool true) wb)) := Lib.hid (by
    have := SA.out wb kb ds Bq Ba' Bu Be dq da du de hMb
    simpa using this)
  refine ⟨_, rfl, ⟨Bmb, Qb⟩, ?_⟩
  simp only [Act.put, List.setIfInBounds_toArray, List.set_cons_zero, List.set_cons_succ]
  refine held_call 18 (some 55) 42 #[.agg cs.toArray, .agg ds.toArray] (by kernel_rfl) rfl rfl (by kernel_rfl) (by go_simp) SB.out ?_
  rintro _ wc ⟨rfl, kc'⟩
  have kc := below_then kb kb.size kc'
  have Kc := below_then Kb Kb.size kc'
  have Bmc := Bmb.below kc' Bmb.lt
  have Qc := Qb.below kc' Qb.lt
  refine ⟨_, rfl, ⟨Bmc, Qc⟩, ?_⟩
  clear hS
  have hS : Blk wc gm 52 cs ∧ Blk wc w.heap.size 61 [.slice A nl c, .int .i64 ty, .int .i64 cl] := ⟨Bmc, Qc⟩
  simp only [Act.put, List.setIfInBounds_toArray, List.set_cons_zero, List.set_cons_succ]
  (refine held_val 19 (some 56) rfl rfl (by kernel_rfl) (by kernel_rfl) (by kernel_rfl) (fun _ _ _ h => h) (by kernel_rfl) (fun W hW => rfl) hS ?_; simp only [Act.put, List.setIfInBounds_toArray, List.set_cons_zero, List.set_cons_succ])
  (refine held_val 20 (some 57) rfl rfl (by kernel_rfl) (by kernel_rfl) (by kernel_rfl) (fun _ _ _ h => h) (by kernel_rfl) (fun W hW => rfl) hS ?_; simp only [Act.put, List.setIfInBounds_toArray, List.set_cons_zero, List.set_cons_succ])
  refine wpAnyH_done (by kernel_rfl) ?_ _
  clear hS SA SB RA B5 Q5 K5 Ba Qa Ka Bmb Qb Kb kb' kc' ka kb Qc hMb
  rcases AP.out with hx | ⟨rfl, hsl, hd⟩
  · have hx' : (x != 0) = true := by simpa using hx
    clear AP hx
    go_wp2_with fail
    go_ret
    exact RetB.mk rfl Kc
  have D := Lib.hid (fun w => mdecode_good hd w (by simp only [maxLen]; omega))
  clear AP hsl hd
  go_wp2_with fail
  refine (D.out _).mono ?_
  rintro _ w6 ⟨dx, rfl, hM6, b6⟩
  have hxl := hM6.len
  have hx1 := Lib.hid hM6.one
  obtain ⟨L0, L1⟩ := hM6.c0
  rw [HID.out] at L0
  rw [HQR.out] at L1
  have K6 := below_then Kc Kc.size b6
  have k6 := below_then kc kc.size b6
  have B6 := Bmc.below b6 Bmc.lt
  clear D Kc Bmc b6 kc
  go_wp2_with (refine at_op (.store 52 (.tmp 12) (.tmp 63)) rfl ?_; go_must (refine wpList_stB rfl 52 (.tmp 12) (.tmp 63) rfl w6.heap.size 0 rfl dx rfl (Blk.new' _ _ msgZ _ rfl) (by rw [hxl, msgZ_len]; omega) (by rw [hxl]; exact msgInfo) hx1.out ?_))
  intro w7 B7 g7 _
  rw [List.drop_of_length_le (by rw [msgZ_len]; omega), List.append_nil] at B7
  have k7' : Below w6.heap.size w6 w7 := below_grown ((Below.refl _ _).alloc (Nat.le_refl _) _) g7 (by simp) (Nat.le_refl _)
  have K7 := below_then K6 K6.size k7'
  have k7 := below_then k6 k6.size k7'
  have C7 := B6.below k7' B6.lt
  have hM7 := hM6.below k7'
  have SB := Lib.hid (same_own hM7 (h0.out _ k7))
  rw [decide_eq_true rfl] at SB
  clear g7 k7' K6 k6 B6 hM6 hM7 h0 hx1 k7
  generalize w6.heap.size = gd at *
  go_wp2_with (first
    | (refine at_op (.load 52 (.tmp 12)) rfl ?_; go_must (refine wpList_ldG 52 (.tmp 12) rfl (by go_simp) gd 0 rfl B7 14 (by omega) _ Try.underlying52 rfl msgInfo dx (by rw [List.drop_zero, List.take_of_length_le (by omega)]) ?_))
    | (refine at_op (.load 52 (.tmp 11)) rfl ?_; go_must (refine wpList_ldG 52 (.tmp 11) rfl (by go_simp) gm 0 rfl C7 14 (by omega) _ Try.underlying52 rfl msgInfo cs (by rw [List.drop_zero, List.take_of_length_le (by omega)]) ?_)))
  refine SB.out.mono ?_
  rintro _ w8 ⟨rfl, b8⟩
  have K8 := below_then K7 K7.size b8
  have B8 := B7.below b8 B7.lt
  have c0 := B8.cell_ 0 L0
  have c1 := B8.cell_ 1 L1
  clear SB B7 C7 b8 K7 B8 HID HQR
  go_wp2_with fail
  go_ret
  exact RetB.mk rfl K8
end Go.Proofs.Ytlmgdogblbigpaa

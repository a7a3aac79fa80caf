/-
  Layer 24, the laws' own: works; AskOwn.
-/
import Derived.Test.YtlmgdogblbigpaaAsk3
namespace Go.Proofs.Ytlmgdogblbigpaa
open Go.RowKit
set_option maxRecDepth 100000
set_option linter.unusedVariables false
set_option linter.unusedSimpArgs false

def q24 : Qn := ⟨[[97], [98]], 1, 1⟩
theorem enc_q24 : encM (askM q24 1 false) false = ([0, 1, 1, 0, 0, 1, 0, 0, 0, 0, 0, 0, 1, 97, 1, 98, 0, 0, 1, 0, 1], 0) := by kernel_rfl
theorem nm24 (w : World) : NmR (w.alloc (.cells #[.string ⟨#[97]⟩, .string ⟨#[98]⟩] 9)) (some ⟨w.heap.size, 0, none⟩) 2 [[97], [98]] := by
  have B0 := Blk.new w 9 [.string ⟨#[97]⟩, .string ⟨#[98]⟩]
  refine ⟨fun _ => ⟨w.heap.size, 0, rfl, B0.lt, fun j hj => ?_⟩, by simp, by simp, by
    intro l hl
    simp at hl
    rcases hl with rfl | rfl <;> simp⟩
  match j, hj with
  | 0, _ => exact B0.cell_ 0 rfl
  | 1, _ => exact B0.cell_ 1 rfl
theorem works24_any (w : World) : Calls Try.prog 46 #[] w (RetB (.bool true) w) := by
  have kb : Below w.heap.size w (w.alloc (.cells #[.string ⟨#[97]⟩, .string ⟨#[98]⟩] 9)) := (Below.refl _ _).alloc (Nat.le_refl _) _
  have C := Lib.hid (build_any (some ⟨w.heap.size, 0, none⟩) 2 q24 1 false _ (nm24 w) (by decide))
  rw [enc_q24] at C
  go_enter Try.func46, Try.ntmps46
  go_wp2_with fail
  refine C.out.mono ?_
  rintro _ w1 ⟨rfl, b1⟩
  have HB := below_then kb kb.size b1
  clear C b1 kb
  go_wp2_with fail
  go_ret
  exact RetB.mk rfl HB
/-- A name with x behind its first k labels. -/
def xs (n : List (List UInt8)) (k : Nat) : List (List UInt8) := (n.take k).map (· ++ [120]) ++ n.drop k
theorem xs_len (n : List (List UInt8)) (k : Nat) : (xs n k).length = n.length := by simp [xs]; omega
theorem xs_zero (n : List (List UInt8)) : xs n 0 = n := by simp [xs]
theorem xs_at (n : List (List UInt8)) (k : Nat) (h : k < n.length) : (strs (xs n k))[k]? = some (.string (bs n[k])) := by
  have h1 : ((n.take k).map (· ++ [120])).length = k := by simp; omega
  unfold xs strs
  rw [List.getElem?_map, List.getElem?_append_right (by omega), h1, Nat.sub_self, List.getElem?_drop, Nat.add_zero, List.getElem?_eq_getElem h]
  rfl
theorem xs_step (n : List (List UInt8)) (k : Nat) (h : k < n.length) : (strs (xs n k)).set k (.string (bs (n[k] ++ [120]))) = strs (xs n (k + 1)) := by
  have h1 : ((n.take k).map (· ++ [120])).length = k := by simp; omega
  have e : n.drop k = n[k] :: n.drop (k + 1) := List.drop_eq_getElem_cons h
  unfold xs strs
  rw [e, List.map_append, List.set_append_right (h := by simp; omega), List.length_map, h1, Nat.sub_self, List.map_cons, List.set_cons_zero, List.take_succ_eq_append_getElem h]
  simp only [List.map_append, List.map_cons, List.map_nil, List.append_assoc, List.cons_append, List.nil_append]
theorem above_grown {lo g : Nat} {w0 w w' : World} (h : Above lo w0 w) (hg : w.grownBy w' (some g)) (hl : g < lo) : Above lo w0 w' :=
  h.trans ⟨hg.size, fun i h1 h2 => hg.block i h2 (by intro e; injection e with e; omega)⟩
/-- Setting one of a row's own. -/
theorem own_parts {w : World} {B g cap n : Nat} {e : TypeId} {ys : List Value} (h : w.ownsRow B e 1 (.slice (some ⟨g, 0, none⟩) n cap) n ys) : ∃ L, Blk w g e L ∧ n ≤ L.length ∧ ∀ w' k u, k < n → Blk w' g e (L.set k u) → w'.ownsRow B e 1 (.slice (some ⟨g, 0, none⟩) n cap) n (ys.set k u) := by
  rcases h.2 with ⟨h0, _⟩ | ⟨g', cap', cur, hv, hb, hh, r1, r2, r3, r4⟩
  · cases h0
  · injection hv with e1 e2 e3
    injection e1 with e1
    injection e1 with e1
    subst e1
    subst e3
    refine ⟨cur.toList, hh, by simp [r3]; omega, fun w' k u hk hb' => ⟨by rw [List.length_set]; exact h.1, .inr ⟨g, cap, (cur.toList.set k u).toArray, rfl, hb, hb', r1, r2, by simp [r3], ?_⟩⟩⟩
    rw [List.toList_toArray, List.take_set, r4]
set_option maxHeartbeats 4000000 in
theorem askOwn_any (A : Option Addr) (c : Nat) (q : Qn) (id : Int) (w : World) (hA : NmR w A c q.name) :
    Calls Try.prog 11 #[.agg #[.slice A q.name.length c, .int .i64 q.ty, .int .i64 q.cl], .int .i64 id] w (RetB (.bool true) w) := by
  have kb : Below w.heap.size w (w.alloc (.cells #[.slice A q.name.length c, .int .i64 q.ty, .int .i64 q.cl] 61)) := (Below.refl _ _).alloc (Nat.le_refl _) _
  have FW := Lib.hid (fewN_any A c q.name _ (hA.below kb))
  by_cases hf : lsum q.name ≤ 400
  case neg =>
    rw [decide_eq_false hf] at FW
    go_enter Try.func11, Try.ntmps11
    go_wp2_with fail
    refine FW.out.mono ?_
    rintro _ w1 ⟨rfl, rfl⟩
    go_wp2_with fail
    refine (works24_any _).mono ?_
    rintro _ w2 ⟨rfl, b2⟩
    have HB := below_then kb kb.size b2
    go_wp2_with fail
    go_ret
    exact RetB.mk rfl HB
  rw [decide_eq_true hf] at FW
  have hn : q.name.length ≤ 400 := Nat.le_trans (lsum_ge _) hf
  have hlab : Hid (∀ k (h : k < q.name.length), (q.name[k]).length ≤ 1000) := Lib.hid (fun k h => by
    have h1 := lsum_take q.name k h
    have h2 := lsum_take_le q.name (k + 1)
    omega)
  have hb1 := hA.2.2.1
  have hb2 := hA.2.2.2
  have RG := Lib.hid (fun w' (b : Below w.heap.size w w') => (hA.below b).range)
  have NA := Lib.hid (fun w' (b : Below w.heap.size w w') => hA.below b)
  have ON := Lib.hid (fun (w : World) (B : Nat) (A : Option Addr) (c : Nat) (ho : w.ownsRow B 9 1 (.slice A q.name.length c) q.name.length (strs q.name)) => own_nm ho hb1 hb2)
  have AM := Lib.hid (fun A c w hA => askMessage_any A c q id true w hA (by omega))
  have RA := Lib.hid (fun w' (b : Below w.heap.size w w') => refAsk_any A c q id w' (hA.below b))
  clear hA hf hb1 hb2
  generalize askM q id true = M at *
  generalize q.ty = ty at *
  generalize q.cl = cl at *
  generalize q.name = nm at *
  go_enter Try.func11, Try.ntmps11
  go_wp2_with fail
  refine FW.out.mono ?_
  rintro _ w1 ⟨rfl, rfl⟩
  clear FW
  have B2' := (Blk.new w 61 [.slice A nm.length c, .int .i64 ty, .int .i64 cl]).alloc (.cells #[.slice A nm.length c, .int .i64 ty, .int .i64 cl] 61)
  have B5' := Blk.new' (w.alloc (.cells #[.slice A nm.length c, .int .i64 ty, .int .i64 cl] 61)) 61 [.slice A nm.length c, .int .i64 ty, .int .i64 cl] (w.heap.size + 1) (by simp)
  have k2 : Below w.heap.size w ((w.alloc (.cells #[.slice A nm.length c, .int .i64 ty, .int .i64 cl] 61)).alloc (.cells #[.slice A nm.length c, .int .i64 ty, .int .i64 cl] 61)) := kb.alloc (by simp) _
  obtain ⟨w2, hw2⟩ : ∃ w2, w2 = (w.alloc (.cells #[.slice A nm.length c, .int .i64 ty, .int .i64 cl] 61)).alloc (.cells #[.slice A nm.length c, .int .i64 ty, .int .i64 cl] 61) := ⟨_, rfl⟩
  rw [← hw2] at B2' B5' k2
  have s2 : w2.heap.size = w.heap.size + 1 + 1 := by rw [hw2]; simp
  have HW := Lib.hid hw2
  clear hw2 kb
  have k3 : Below w.heap.size w (w2.alloc (.cells #[] 9)) := k2.alloc k2.size _
  go_wp2_with (at_builtin; rw [← HW.out]; go_must (refine wpList_appT _ rfl (.tmp 14) (.tmp 16) rfl w2.heap.size _ 0 [] (by simp [Act.eval, s2]) (own_empty w2 _ (Nat.le_refl _)) (by simp) A nm.length c (strs nm) rfl (RG.out _ k3) (strs_len nm) (strs_one nm) (by omega) nm.length (by omega) ?_))
  intro A1 c1 w3 o1' g1
  rw [← s2] at o1' g1
  replace s2 : w.heap.size + 2 ≤ w2.heap.size := by omega
  have o1 : w3.ownsRow w2.heap.size 9 1 (.slice A1 nm.length c1) nm.length (strs nm) := by simpa using o1'
  have e3 := own_empty w2 w2.heap.size (Nat.le_refl _)
  have q3 : Below w2.heap.size w2 (w2.alloc (.cells #[] 9)) := (Below.refl _ _).alloc (Nat.le_refl _) _
  have B2 := blk_own (B2'.below q3 B2'.lt) e3 (by decide) g1
  have B5 := blk_own (B5'.below q3 B5'.lt) e3 (by decide) g1
  have b3 : Below w.heap.size w w3 := k3.grown g1 k3.size (fun k hk => by simp [Value.ownBlock] at hk; omega)
  clear B2' B5' k2 k3 o1' g1 e3 q3 RG HW
  go_wp2_with (refine at_op (.store 24 (.tmp 18) (.tmp 17)) rfl ?_; go_must (refine wpList_stC rfl 24 (.tmp 18) (.tmp 17) rfl (w.heap.size + 1) 0 rfl (.slice A1 nm.length c1) rfl B5 (by simp) nameInfo1 rfl rfl ?_))
  intro w4 B54 g4 s4
  have B24 := B2.grown g4 (by simp)
  have o4 := own_blk o1 g4 B5 (by decide)
  have b4 := below_grown b3 g4 b3.size (by omega)
  have CM := Lib.hid (AM.out A1 c1 w4 (ON.out w4 _ A1 c1 o4))
  clear B2 B5 o1 b3 g4 AM
  go_wp2_with (refine at_op (.load 61 (.tmp 5)) rfl ?_; go_must (refine wpList_ldB rfl 61 (.tmp 5) rfl (w.heap.size + 1) 0 rfl B54 3 (by simp) _ Try.underlying61 rfl qInfo [.slice A1 nm.length c1, .int .i64 ty, .int .i64 cl] rfl ?_))
  refine CM.out.mono ?_
  rintro _ w5 ⟨cs, Aq, Aa, Au, Ae, cq, ca, cu, ce, rfl, b5', hM⟩
  have hcl : cs.length = 14 := by rw [(hM w5 (Above.refl _ _)).hcs]; exact msgC_len _ _ _ _ _
  have hc1 : Hid (∀ v ∈ cs, v.oneCell' = true) := Lib.hid (by rw [(hM w5 (Above.refl _ _)).hcs]; exact msgC_one _ rfl rfl rfl rfl)
  have HM := Lib.hid hM
  have B55 := B54.below b5' B54.lt
  have B25 := B24.below b5' B24.lt
  have o5 := own_below o4 b5'
  have b5 := below_then b4 b4.size b5'
  have hlo5 : w4.heap.size ≤ w5.heap.size := b5'.size
  have hA1 : ∀ g, A1 = some ⟨g, 0, none⟩ → g < w4.heap.size := fun g hg => by subst hg; obtain ⟨L, hL, _⟩ := own_parts o4; exact hL.lt
  clear hM CM B54 B24 o4 b4 b5'
  go_wp2_with (refine at_op (.store 52 (.tmp 6) (.tmp 21)) rfl ?_; go_must (refine wpList_stB rfl 52 (.tmp 6) (.tmp 21) rfl w5.heap.size 0 rfl cs rfl (Blk.new' _ _ msgZ _ rfl) (by rw [hcl, show msgZ.length = 14 from rfl]; omega) (by rw [hcl]; exact msgInfo) hc1.out ?_))
  intro w6 B6 g6 s6
  rw [List.drop_of_length_le (by rw [show msgZ.length = 14 from rfl]; omega), List.append_nil] at B6
  have k6 : Below w5.heap.size w5 w6 := below_grown ((Below.refl _ _).alloc (Nat.le_refl _) _) g6 (by simp) (Nat.le_refl _)
  have B56 := B55.below k6 B55.lt
  have B26 := B25.below k6 B25.lt
  have o6 := own_below o5 k6
  have b6 := below_then b5 b5.size k6
  have ab6 : Above w4.heap.size w5 w6 := Above.below k6
  clear B55 B25 o5 b5 g6 k6
  have hg6 : w4.heap.size ≤ w5.heap.size := hlo5
  generalize w5.heap.size = g6 at *
  have c0 := B56.cell_ 0 rfl
  go_wp2_with fail
  go_loopw [7] (fun iv wr => ∃ k : Nat, k ≤ nm.length ∧ iv = .int .i64 k ∧ wr.ownsRow w2.heap.size 9 1 (.slice A1 nm.length c1) nm.length (strs (xs nm k)) ∧ Above w4.heap.size w6 wr ∧ Blk wr (w.heap.size + 1) 61 [.slice A1 nm.length c1, .int .i64 ty, .int .i64 cl] ∧ Blk wr w.heap.size 61 [.slice A nm.length c, .int .i64 ty, .int .i64 cl] ∧ Below w.heap.size w wr) (fun iv _ => nm.length - (intOf iv).toNat)
  case atStart => exact ⟨0, Nat.zero_le _, rfl, by rw [xs_zero]; exact o6, Above.refl _ _, B56, B26, b6⟩
  clear c0 o6 B56 B26 b6
  obtain ⟨k, hk, rfl, oR, aR, B5r, B2r, bR⟩ := hrel
  have c0 := B5r.cell_ 0 rfl
  by_cases hlt : k < nm.length
  case pos =>
    have hlt' : (k : Int) < nm.length := by omega
    have hkl := hlab.out k hlt
    have XA := xs_at nm k hlt
    have XS := Lib.hid (xs_step nm k hlt)
    obtain ⟨g1, rfl⟩ : ∃ g, A1 = some ⟨g, 0, none⟩ := by
      rcases oR.2 with ⟨_, h0⟩ | ⟨g, cap, cur, hv, _⟩
      · omega
      · injection hv with e1; exact ⟨g, e1⟩
    obtain ⟨L, hL, hLl, hLs⟩ := own_parts oR
    have HLS := Lib.hid (fun w' u => hLs w' k u hlt)
    clear hLs
    have hg1 := hA1 g1 rfl
    have hgb : w2.heap.size ≤ g1 := own_base oR g1 rfl
    have oc := World.ownsRow.cellAt oR k (by rw [Nat.mul_one]; exact hlt)
    rw [XA] at oc
    replace HLS := Lib.hid (fun w' => HLS.out w' (.string (bs (nm[k] ++ [120]))))
    rw [XS.out] at HLS
    generalize (nm[k]'hlt) = lb at *
    clear XA XS
    go_wp2_with fail
    refine wp_region_held_drew (S := fun W => W.cell? ⟨w.heap.size + 1, 0, none⟩ = some (.slice (some ⟨g1, 0, none⟩) nm.length c1)) (by kernel_rfl) c0 (fun hS => ?_)
    (refine held_val 0 (some 29) rfl rfl (by kernel_rfl) (by kernel_rfl) (by kernel_rfl) (fun _ _ _ h => h) (by kernel_rfl) (fun W hW => rfl) hS ?_; simp only [Act.put, List.setIfInBounds_toArray, List.set_cons_zero, List.set_cons_succ])
    refine held_ld 1 (some 30) 24 (.tmp 29) ⟨w.heap.size + 1, 0, none⟩ rfl rfl rfl rfl (by kernel_rfl) (by kernel_rfl) (by kernel_rfl) (fun _ _ _ h => h) (by kernel_rfl) (fun W hW => run_load1 Try.underlying24 rfl hW) hS ?_
    simp only [Act.put, List.setIfInBounds_toArray, List.set_cons_zero, List.set_cons_succ]
    (refine held_val 2 (some 31) rfl rfl (by kernel_rfl) (by kernel_rfl) (by kernel_rfl) (fun _ _ _ h => h) (by kernel_rfl) (fun W hW => rfl) hS ?_; simp only [Act.put, List.setIfInBounds_toArray, List.set_cons_zero, List.set_cons_succ])
    (refine held_val 3 (some 32) rfl rfl (by kernel_rfl) (by kernel_rfl) (by kernel_rfl) (fun _ _ _ h => h) (by kernel_rfl) (fun W hW => rfl) hS ?_; simp only [Act.put, List.setIfInBounds_toArray, List.set_cons_zero, List.set_cons_succ])
    refine held_ld 4 (some 33) 24 (.tmp 32) ⟨w.heap.size + 1, 0, none⟩ rfl rfl rfl rfl (by kernel_rfl) (by kernel_rfl) (by kernel_rfl) (fun _ _ _ h => h) (by kernel_rfl) (fun W hW => run_load1 Try.underlying24 rfl hW) hS ?_
    simp only [Act.put, List.setIfInBounds_toArray, List.set_cons_zero, List.set_cons_succ]
    (refine held_val 5 (some 34) rfl rfl (by kernel_rfl) (by kernel_rfl) (by kernel_rfl) (fun _ _ _ h => h) (by kernel_rfl) (fun W hW => rfl) hS ?_; simp only [Act.put, List.setIfInBounds_toArray, List.set_cons_zero, List.set_cons_succ])
    refine held_val 6 (some 35) (v := .pointer (some ⟨g1, k, none⟩)) rfl rfl (by kernel_rfl) (by kernel_rfl) (by kernel_rfl) (fun _ _ _ h => h) (by kernel_rfl) (fun W hW => by go_simp) hS ?_
    simp only [Act.put, List.setIfInBounds_toArray, List.set_cons_zero, List.set_cons_succ]
    refine ord_one 7 (by kernel_rfl) ?_
    refine opw_ld 7 (some 36) 9 (.tmp 35) ⟨g1, k, none⟩ rfl rfl rfl rfl (by kernel_rfl) (run_load1 Try.underlying9 rfl oc) ?_
    refine ⟨hS, ?_⟩
    simp only [Act.put, List.setIfInBounds_toArray, List.set_cons_zero, List.set_cons_succ]
    refine held_val 8 (some 37) (v := .string (bs (lb ++ [120]))) rfl rfl (by kernel_rfl) (by kernel_rfl) (by kernel_rfl) (fun _ _ _ h => h) (by kernel_rfl) (fun W hW => by first | (go_simp; done) | (go_simp; omega)) hS ?_
    simp only [Act.put, List.setIfInBounds_toArray, List.set_cons_zero, List.set_cons_succ]
    refine held_val 9 (some 38) (v := .pointer (some ⟨g1, k, none⟩)) rfl rfl (by kernel_rfl) (by kernel_rfl) (by kernel_rfl) (fun _ _ _ h => h) (by kernel_rfl) (fun W hW => by go_simp) hS ?_
    simp only [Act.put, List.setIfInBounds_toArray, List.set_cons_zero, List.set_cons_succ]
    refine ord_one 10 (by kernel_rfl) ?_
    refine opw_stC 10 9 (.tmp 38) (.tmp 37) rfl rfl rfl (by kernel_rfl) g1 k rfl (.string (bs (lb ++ [120]))) rfl hL.drew (by omega) strInfo1 rfl rfl ?_
    intro w8 L8 g8 s8
    have o8 := HLS.out w8 L8
    have b58 := (B5r.drew).grown g8 (by simp; omega)
    have b28 := (B2r.drew).grown g8 (by simp; omega)
    have a8 : Above w4.heap.size w6 w8 := above_grown (w := wr.drew) (aR.trans (Above.below (Below.refl _ _).drew)) g8 hg1
    have bb8 : Below w.heap.size w w8 := below_grown (w := wr.drew) bR.drew g8 bR.size (by omega)
    refine ⟨b58.cell_ 0 rfl, ?_⟩
    simp only [Act.put, List.setIfInBounds_toArray, List.set_cons_zero, List.set_cons_succ]
    refine wpAnyH_done (by kernel_rfl) ?_ _
    clear hS c0 oc hL L8 g8 s8 HLS oR aR B5r B2r bR
    go_wp2_with fail
    go_roundw
    case rel => exact ⟨k + 1, by omega, by go_num, o8, a8, b58, b28, bb8⟩
    case measure => simp [intOf]; omega
  obtain rfl : k = nm.length := by omega
  have hlt' : ¬ (nm.length : Int) < nm.length := by omega
  have B6r := aR.blk B6 hg6
  have hMr := HM.out wr (ab6.trans aR)
  clear hlt hk oR
  have SA := Lib.hid (fun w' (b : Below wr.heap.size wr w') ds Bq Ba Bu Be dq da du de (h : MsgIs w' ds M Bq Ba Bu Be dq da du de) => same14_any cs ds M M Aq Aa Au Ae Bq Ba Bu Be cq ca cu ce dq da du de w' (hMr.below b) h)
  clear hMr HM
  go_wp2_with fail
  refine wp_region_held_drew (S := fun W => Blk W g6 52 cs ∧ Blk W w.heap.size 61 [.slice A nm.length c, .int .i64 ty, .int .i64 cl]) (by kernel_rfl) ⟨B6r.drew, B2r.drew⟩ (fun hS => ?_)
  refine held_call 0 (some 39) 46 #[] (by kernel_rfl) rfl rfl (by kernel_rfl) (by go_simp) (works24_any _) ?_
  rintro _ wa ⟨rfl, ka'⟩
  have ka : Below wr.heap.size wr wa := below_then (w := wr.drew) (Below.refl _ _).drew (Nat.le_refl _) ka'
  have ba := below_then bR bR.size ka
  have Bma := B6r.below ka B6r.lt
  have Bqa := B2r.below ka B2r.lt
  refine ⟨_, rfl, ⟨Bma, Bqa⟩, ?_⟩
  clear hS ka'
  have hS : Blk wa g6 52 cs ∧ Blk wa w.heap.size 61 [.slice A nm.length c, .int .i64 ty, .int .i64 cl] := ⟨Bma, Bqa⟩
  simp only [Act.put, List.setIfInBounds_toArray, List.set_cons_zero, List.set_cons_succ]
  (refine held_val 1 (some 40) rfl rfl (by kernel_rfl) (by kernel_rfl) (by kernel_rfl) (fun _ _ _ h => h) (by kernel_rfl) (fun W hW => rfl) hS ?_; simp only [Act.put, List.setIfInBounds_toArray, List.set_cons_zero, List.set_cons_succ])
  refine held_ld 2 (some 41) 52 (.tmp 6) ⟨g6, 0, none⟩ rfl rfl rfl rfl (by kernel_rfl) (by kernel_rfl) (by kernel_rfl) (fun _ _ _ h => h) (by kernel_rfl) (fun W hW => hW.1.loads 52 0 14 (by omega) _ Try.underlying52 rfl msgInfo cs (by rw [List.drop_zero, List.take_of_length_le (by omega)])) hS ?_
  simp only [Act.put, List.setIfInBounds_toArray, List.set_cons_zero, List.set_cons_succ]
  refine held_ld 3 (some 42) 61 (.tmp 2) ⟨w.heap.size, 0, none⟩ rfl rfl rfl rfl (by kernel_rfl) (by kernel_rfl) (by kernel_rfl) (fun _ _ _ h => h) (by kernel_rfl) (fun W hW => hW.2.loads 61 0 3 (by simp) _ Try.underlying61 rfl qInfo [.slice A nm.length c, .int .i64 ty, .int .i64 cl] rfl) hS ?_
  simp only [Act.put, List.setIfInBounds_toArray, List.set_cons_zero, List.set_cons_succ]
  (refine held_val 4 (some 43) rfl rfl (by kernel_rfl) (by kernel_rfl) (by kernel_rfl) (fun _ _ _ h => h) (by kernel_rfl) (fun W hW => rfl) hS ?_; simp only [Act.put, List.setIfInBounds_toArray, List.set_cons_zero, List.set_cons_succ])
  refine held_call 5 (some 44) 48 #[.agg #[.slice A nm.length c, .int .i64 ty, .int .i64 cl], .int .i64 id, .bool true] (by kernel_rfl) rfl rfl (by kernel_rfl) (by go_simp) (RA.out _ ba) ?_
  rintro _ wb ⟨ds, Bq, Ba, Bu, Be, dq, da, du, de, rfl, kb', hMb⟩
  have kb := below_then ka ka.size kb'
  have bb := below_then ba ba.size kb'
  have Bmb := Bma.below kb' Bma.lt
  have Bqb := Bqa.below kb' Bqa.lt
  have SB : Hid (Calls Try.prog 42 #[.agg cs.toArray, .agg ds.toArray] wb (RetB (.bool true) wb)) := Lib.hid (by
    have := SA.out wb kb ds Bq Ba Bu Be dq da du de hMb
    simpa using this)
  refine ⟨_, rfl, ⟨Bmb, Bqb⟩, ?_⟩
  simp only [Act.put, List.setIfInBounds_toArray, List.set_cons_zero, List.set_cons_succ]
  refine held_call 6 (some 45) 42 #[.agg cs.toArray, .agg ds.toArray] (by kernel_rfl) rfl rfl (by kernel_rfl) (by go_simp) SB.out ?_
  rintro _ wc ⟨rfl, kc'⟩
  have bc := below_then bb bb.size kc'
  have Bmc := Bmb.below kc' Bmb.lt
  have Bqc := Bqb.below kc' Bqb.lt
  refine ⟨_, rfl, ⟨Bmc, Bqc⟩, ?_⟩
  clear hS
  have hS : Blk wc g6 52 cs ∧ Blk wc w.heap.size 61 [.slice A nm.length c, .int .i64 ty, .int .i64 cl] := ⟨Bmc, Bqc⟩
  simp only [Act.put, List.setIfInBounds_toArray, List.set_cons_zero, List.set_cons_succ]
  (refine held_val 7 (some 46) rfl rfl (by kernel_rfl) (by kernel_rfl) (by kernel_rfl) (fun _ _ _ h => h) (by kernel_rfl) (fun W hW => rfl) hS ?_; simp only [Act.put, List.setIfInBounds_toArray, List.set_cons_zero, List.set_cons_succ])
  (refine held_val 8 (some 4) rfl rfl (by kernel_rfl) (by kernel_rfl) (by kernel_rfl) (fun _ _ _ h => h) (by kernel_rfl) (fun W hW => rfl) hS ?_; simp only [Act.put, List.setIfInBounds_toArray, List.set_cons_zero, List.set_cons_succ])
  refine wpAnyH_done (by kernel_rfl) ?_ _
  clear hS SA SB RA B6r B2r
  go_wp2_with fail
  go_ret
  exact RetB.mk rfl bc
end Go.Proofs.Ytlmgdogblbigpaa

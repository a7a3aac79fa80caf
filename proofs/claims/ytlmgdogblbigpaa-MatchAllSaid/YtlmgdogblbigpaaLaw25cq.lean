/-
  Layer 25, the laws' own: MatchCase.
-/
import Derived.Test.YtlmgdogblbigpaaHQq
import Derived.Test.YtlmgdogblbigpaaHJq
import Derived.Test.YtlmgdogblbigpaaHAq
namespace Go.Proofs.Ytlmgdogblbigpaa
open Go.RowKit
set_option maxRecDepth 100000
set_option linter.unusedVariables false
set_option linter.unusedSimpArgs false

theorem wholeG {w : World} {g n : Nat} {t : TypeId} {L M : List Value} (h : Blk w g t (L ++ M.drop n)) (hM : M.length ≤ n) : Blk w g t L := by
  rwa [List.drop_of_length_le hM, List.append_nil] at h
/-- The address of a name's text. -/
theorem exec_ixN {ba oa k n c : Nat} {o : Oper} {a : Act} (x y : Operand) (ho : o.op = .indexAddr 24 x y) (hx : a.eval x = .slice (some ⟨ba, oa, none⟩) n c) (hy : a.eval y = .int .i64 k) (hk : k < n) (w : World) : (execOp a.eval o).run Try.prog w = .ok (.value (.pointer (some ⟨ba, oa + k, none⟩))) w := by
  have h1 : (k : Int) < n := by omega
  have hr : (Instr.indexAt 24 (.slice (some ⟨ba, oa, none⟩) n c) (.int .i64 k)).run Try.prog w = .ok (.pointer (some ⟨ba, oa + k, none⟩)) w := by
    obtain ⟨i, hi, _, hsize, _⟩ := info_parts strInfo
    simp [Instr.indexAt, run_underlying Try.underlying24, asIntOf, sizeOf, typeInfo, hi, hsize, h1, Addr.add]
    rw [if_pos hk]
    by_cases h0 : k = 0
    · subst h0; simp
    · rw [if_neg h0]
  unfold execOp
  simp only [ho, hx, hy, Sem.run_bind, hr, Result.andThen_ok, Sem.run_pure]
theorem exec_bsN {w : World} {t : List UInt8} {o : Oper} {a : Act} (x : Operand) (ho : o.op = .buildSlice 24 1 #[(0, x)]) (hx : a.eval x = .string (bs t)) : (execOp a.eval o).run Try.prog w = .ok (.value (.slice (some ⟨w.heap.size, 0, none⟩) 1 1)) (w.alloc (.cells #[.string (bs t)] 9)) := by
  have hr : (Instr.buildSlice 24 1 #[(0, .string (bs t))]).run Try.prog w = .ok (.slice (some ⟨w.heap.size, 0, none⟩) 1 1) (w.alloc (.cells #[.string (bs t)] 9)) := by kernel_rfl
  unfold execOp
  simp only [ho, Sem.run_bind, Sem.run_pure, Result.andThen_ok, List.map_toArray, List.map_cons, List.map_nil, hx, hr]
theorem exec_appN {w w' : World} {v v' x : Value} {ty : TypeId} {o : Oper} {a : Act} (sl y : Operand) (ho : o.op = .call { callee := .builtin .append, args := #[sl, y], argTypes := #[24, 24] }) (hty : o.type = ty) (hs : a.eval sl = v) (hy : a.eval y = x)
    (hr : (Builtin.append_ #[24, 24] ty #[v, x]).run Try.prog w = .ok v' w') : (execOp a.eval o).run Try.prog w = .ok (.value v') w' := by
  subst hty
  unfold execOp
  simp only [ho, resolve, invoke, builtin, Sem.run_bind, Sem.run_pure, Result.andThen_ok, List.map_toArray, List.map_cons, List.map_nil, hs, hy, hr]
set_option maxHeartbeats 4000000 in
theorem matchCase_any (cs : List Value) (y : Qy) (A : Option Addr) (c : Nat) (e : Ev) (w : World) (h1 : QyIs w cs y A c) (hip : e.fr.ip.length = 16) (hs : e.data.length ≤ maxLen) :
    Calls Try.prog 10 #[.agg cs.toArray, .agg (evC e).toArray] w (RetB (.bool true) w) := by
  have hcl : cs.length = 23 := by rw [h1.hcs]; exact qyC_len h1.ip
  have hel := evC_len hip
  have L20 : cs[20]? = some (.slice A y.q.name.length c) := by rw [h1.hcs]; exact qyC_at h1.ip 2
  have E21 : (evC e)[21]? = some (.string (bs e.data)) := evC_at hip 2
  have FW := Lib.hid (fun w' (b : Below w.heap.size w w') => fewN_any A c y.q.name w' (h1.nm.below b))
  have TO := Lib.hid (fun w' (b : Below w.heap.size w w') => to_any cs y A c w' (h1.below b))
  have PK := Lib.hid (fun w' (b : Below w.heap.size w w') => packet_any cs y A c e w' (h1.below b) hip hs)
  have H1 := Lib.hid h1
  have HIP := Lib.hid hip
  have HDS := Lib.hid hs
  clear h1 hip hs
  generalize hE : evC e = es at *
  have B1 : Blk ((w.alloc (.cells cs.toArray 63)).alloc (.cells es.toArray 70)) w.heap.size 63 cs := (Blk.new w 63 cs).alloc _
  have B2 : Blk ((w.alloc (.cells cs.toArray 63)).alloc (.cells es.toArray 70)) (w.heap.size + 1) 70 es := Blk.new' _ 70 es _ (by simp)
  have HB : Below w.heap.size w ((w.alloc (.cells cs.toArray 63)).alloc (.cells es.toArray 70)) := ((Below.refl _ _).alloc (Nat.le_refl _) _).alloc (by simp) _
  have HE := Lib.hid hE
  clear hE
  go_enter Try.func10, Try.ntmps10
  go_wp2_with fail
  refine (works25_any _).mono ?_
  rintro _ w1 ⟨rfl, b1⟩
  have C1 := B1.below b1 B1.lt
  have C2 := B2.below b1 B2.lt
  have HB1 := below_then HB HB.size b1
  have a20 := C1.cell_ 20 L20
  have a21 := C2.cell_ 21 E21
  clear B1 B2 HB b1
  by_cases hd : 3000 < e.data.length
  case pos =>
    have hd' : (3000 : Int) < e.data.length := by omega
    clear hd FW TO PK
    generalize e.data = dt at *
    generalize y.q.name.length = nl at *
    go_wp2_with fail
    refine (works25_any _).mono ?_
    rintro _ w2 ⟨rfl, b2⟩
    have HB2 := below_then HB1 HB1.size b2
    clear b2
    go_wp2_with fail
    go_ret
    exact RetB.mk rfl HB2
  have hd' : ¬ (3000 : Int) < e.data.length := by omega
  clear hd
  by_cases hf : lsum y.q.name ≤ 400
  case neg =>
    rw [decide_eq_false hf] at FW
    clear hf TO PK
    generalize e.data = dt at *
    generalize y.q.name.length = nl at *
    go_wp2_with fail
    refine (FW.out _ HB1).mono ?_
    rintro _ w2 ⟨rfl, rfl⟩
    go_wp2_with fail
    refine (works25_any _).mono ?_
    rintro _ w2 ⟨rfl, b2⟩
    have HB2 := below_then HB1 HB1.size b2
    clear b2
    go_wp2_with fail
    go_ret
    exact RetB.mk rfl HB2
  rw [decide_eq_true hf] at FW
  have HLS := Lib.hid hf
  clear hf
  generalize y.q.name.length = nl at *
  go_wp2_with fail
  refine (FW.out _ HB1).mono ?_
  rintro _ w2 ⟨rfl, rfl⟩
  clear FW a20 a21
  obtain ⟨pp, hpp⟩ : ∃ pp, Hid (packP y e = pp) := ⟨_, Lib.hid rfl⟩
  rw [hpp.out] at PK
  have KS : Hid (∀ V V', (Blk V w.heap.size 63 cs ∧ Blk V (w.heap.size + 1) 70 es ∧ Below w.heap.size w V) → Below V.heap.size V V' → (Blk V' w.heap.size 63 cs ∧ Blk V' (w.heap.size + 1) 70 es ∧ Below w.heap.size w V')) := Lib.hid (fun V V' h b => ⟨h.1.below b h.1.lt, h.2.1.below b h.2.1.lt, below_then h.2.2 h.2.2.size b⟩)
  go_upto_region 4 with fail
  go_cut [5, 6] (fun v5 v6 wx => ∃ g ds, v5 = .pointer (some ⟨g, 0, none⟩) ∧ v6 = .bool pp.2 ∧ Blk wx g 52 ds ∧ MsgOwn wx ds pp.1 ∧ Below w.heap.size w wx ∧ Blk wx w.heap.size 63 cs ∧ Blk wx (w.heap.size + 1) 70 es ∧ w.heap.size + 2 ≤ g)
  case first =>
    refine wp_region_held_drew (S := fun V => Blk V w.heap.size 63 cs ∧ Blk V (w.heap.size + 1) 70 es ∧ Below w.heap.size w V) (by kernel_rfl) ⟨C1.drew, C2.drew, HB1.drew⟩ (fun hS => ?_)
    refine held_ld 0 (some 28) 63 (.tmp 2) ⟨w.heap.size, 0, none⟩ rfl rfl rfl rfl (by kernel_rfl) (by kernel_rfl) (by kernel_rfl) (fun _ _ _ h => h) (by kernel_rfl) (fun V hV => hV.1.loads 63 0 23 (by omega) _ Try.underlying63 rfl qrInfo cs (by rw [List.drop_zero, List.take_of_length_le (by omega)])) hS ?_
    simp only [Act.put, List.setIfInBounds_toArray, List.set_cons_zero, List.set_cons_succ]
    refine held_ld 2 (some 30) 70 (.tmp 3) ⟨w.heap.size + 1, 0, none⟩ rfl rfl rfl rfl (by kernel_rfl) (by kernel_rfl) (by kernel_rfl) (fun _ _ _ h => h) (by kernel_rfl) (fun V hV => hV.2.1.loads 70 0 22 (by omega) _ Try.underlying70 rfl evInfo es (by rw [List.drop_zero, List.take_of_length_le (by omega)])) hS ?_
    simp only [Act.put, List.setIfInBounds_toArray, List.set_cons_zero, List.set_cons_succ]
    refine ord_two 1 7 (by kernel_rfl) ?_ ?_
    · refine opw_call 1 (some 29) 36 #[.agg cs.toArray] rfl rfl (by kernel_rfl) (by go_simp) (TO.out _ hS.2.2) ?_
      rintro _ w2 ⟨rfl, b2⟩
      have hS2 := KS.out _ _ hS b2
      refine ⟨_, rfl, hS2, ?_⟩
      clear hS b2
      have hS := hS2
      clear hS2
      simp only [Act.put, List.setIfInBounds_toArray, List.set_cons_zero, List.set_cons_succ]
      refine ord_two 3 7 (by kernel_rfl) ?_ ?_
      · refine opw_call 3 (some 31) 38 #[.agg cs.toArray, .agg es.toArray] rfl rfl (by kernel_rfl) (by go_simp) (PK.out _ hS.2.2) ?_
        rintro _ w3 ⟨ds, rfl, hM, b3⟩
        have hdl := hM.len
        have hd1 := Lib.hid hM.one
        have hS3 := KS.out _ _ hS b3
        refine ⟨_, rfl, hS3, ?_⟩
        clear hS b3
        have hS := hS3
        clear hS3
        simp only [Act.put, List.setIfInBounds_toArray, List.set_cons_zero, List.set_cons_succ]
        (refine held_val 4 (some 27) rfl rfl (by kernel_rfl) (by kernel_rfl) (by kernel_rfl) (fun _ _ _ h => h) (by kernel_rfl) (fun W hW => rfl) hS ?_; simp only [Act.put, List.setIfInBounds_toArray, List.set_cons_zero, List.set_cons_succ])
        (refine held_val 5 (some 32) rfl rfl (by kernel_rfl) (by kernel_rfl) (by kernel_rfl) (fun _ _ _ h => h) (by kernel_rfl) (fun W hW => rfl) hS ?_; simp only [Act.put, List.setIfInBounds_toArray, List.set_cons_zero, List.set_cons_succ])
        (refine held_val 6 (some 33) rfl rfl (by kernel_rfl) (by kernel_rfl) (by kernel_rfl) (fun _ _ _ h => h) (by kernel_rfl) (fun W hW => rfl) hS ?_; simp only [Act.put, List.setIfInBounds_toArray, List.set_cons_zero, List.set_cons_succ])
        have kn : Below w3.heap.size w3 (w3.alloc (.cells msgZ.toArray 52)) := (Below.refl _ _).alloc (Nat.le_refl _) _
        have hS4 := KS.out _ _ hS kn
        have hM4 := hM.below kn
        have Bz := Blk.new w3 52 msgZ
        have hz : w.heap.size + 2 ≤ w3.heap.size := by have := hS.2.1.lt; omega
        refine held_run 7 (some 5) (by kernel_rfl) rfl rfl (by kernel_rfl) (v := .pointer (some ⟨w3.heap.size, 0, none⟩)) (w' := w3.alloc (.cells msgZ.toArray 52)) (by kernel_rfl) hS4 ?_
        simp only [Act.put, List.setIfInBounds_toArray, List.set_cons_zero, List.set_cons_succ]
        clear hS hM kn
        have hS := hS4
        clear hS4
        generalize w3.alloc (.cells msgZ.toArray 52) = wz at *
        generalize w3.heap.size = gz at *
        refine held_stB 8 none 52 (.tmp 5) (.tmp 32) (by kernel_rfl) rfl rfl rfl (by kernel_rfl) gz 0 rfl ds rfl Bz (by have := msgZ_len; omega) (by rw [hdl]; exact msgInfo) hd1.out ?_
        intro w8 B8 g8 zs
        clear zs
        replace B8 : Blk w8 gz 52 ds := whole14 B8 (by have := msgZ_len; omega)
        have hM8 := hM4.blk g8 Bz
        have hS8 : Blk w8 w.heap.size 63 cs ∧ Blk w8 (w.heap.size + 1) 70 es ∧ Below w.heap.size w w8 := ⟨hS.1.grown g8 (by simp; omega), hS.2.1.grown g8 (by simp; omega), below_grown hS.2.2 g8 hS.2.2.size (by omega)⟩
        clear hM4 Bz g8
        refine ⟨hS8, ?_⟩
        clear hS
        have hS := hS8
        clear hS8
        simp only [Act.put, List.setIfInBounds_toArray, List.set_cons_zero, List.set_cons_succ]
        (refine held_val 9 (some 6) rfl rfl (by kernel_rfl) (by kernel_rfl) (by kernel_rfl) (fun _ _ _ h => h) (by kernel_rfl) (fun W hW => rfl) hS ?_; simp only [Act.put, List.setIfInBounds_toArray, List.set_cons_zero, List.set_cons_succ])
        refine wpAnyH_done (by kernel_rfl) ?_ _
        go_wp2_with fail
        go_meet
        case rel => exact ⟨gz, ds, rfl, rfl, B8, hM8, hS.2.2, hS.1, hS.2.1, hz⟩
      · have kn : Below w2.heap.size w2 (w2.alloc (.cells msgZ.toArray 52)) := (Below.refl _ _).alloc (Nat.le_refl _) _
        have hS4 := KS.out _ _ hS kn
        have Bn := Blk.new w2 52 msgZ
        have hz : w.heap.size + 2 ≤ w2.heap.size := by have := hS.2.1.lt; omega
        refine opw_run 7 (some 5) (v := .pointer (some ⟨w2.heap.size, 0, none⟩)) (w' := w2.alloc (.cells msgZ.toArray 52)) rfl rfl (by kernel_rfl) (by kernel_rfl) ?_
        refine ⟨hS4, ?_⟩
        clear hS kn
        have hS := hS4
        clear hS4
        simp only [Act.put, List.setIfInBounds_toArray, List.set_cons_zero, List.set_cons_succ]
        generalize w2.alloc (.cells msgZ.toArray 52) = wy at *
        generalize w2.heap.size = gz at *
        refine held_call 3 (some 31) 38 #[.agg cs.toArray, .agg es.toArray] (by kernel_rfl) rfl rfl (by kernel_rfl) (by go_simp) (PK.out _ hS.2.2) ?_
        rintro _ w3 ⟨ds, rfl, hM4, b3⟩
        have hdl := hM4.len
        have hd1 := Lib.hid hM4.one
        have hS3 := KS.out _ _ hS b3
        have Bz := Bn.below b3 Bn.lt
        refine ⟨_, rfl, hS3, ?_⟩
        clear hS b3 Bn
        have hS := hS3
        clear hS3
        simp only [Act.put, List.setIfInBounds_toArray, List.set_cons_zero, List.set_cons_succ]
        (refine held_val 4 (some 27) rfl rfl (by kernel_rfl) (by kernel_rfl) (by kernel_rfl) (fun _ _ _ h => h) (by kernel_rfl) (fun W hW => rfl) hS ?_; simp only [Act.put, List.setIfInBounds_toArray, List.set_cons_zero, List.set_cons_succ])
        (refine held_val 5 (some 32) rfl rfl (by kernel_rfl) (by kernel_rfl) (by kernel_rfl) (fun _ _ _ h => h) (by kernel_rfl) (fun W hW => rfl) hS ?_; simp only [Act.put, List.setIfInBounds_toArray, List.set_cons_zero, List.set_cons_succ])
        (refine held_val 6 (some 33) rfl rfl (by kernel_rfl) (by kernel_rfl) (by kernel_rfl) (fun _ _ _ h => h) (by kernel_rfl) (fun W hW => rfl) hS ?_; simp only [Act.put, List.setIfInBounds_toArray, List.set_cons_zero, List.set_cons_succ])
        refine held_stB 8 none 52 (.tmp 5) (.tmp 32) (by kernel_rfl) rfl rfl rfl (by kernel_rfl) gz 0 rfl ds rfl Bz (by have := msgZ_len; omega) (by rw [hdl]; exact msgInfo) hd1.out ?_
        intro w8 B8 g8 zs
        clear zs
        replace B8 : Blk w8 gz 52 ds := whole14 B8 (by have := msgZ_len; omega)
        have hM8 := hM4.blk g8 Bz
        have hS8 : Blk w8 w.heap.size 63 cs ∧ Blk w8 (w.heap.size + 1) 70 es ∧ Below w.heap.size w w8 := ⟨hS.1.grown g8 (by simp; omega), hS.2.1.grown g8 (by simp; omega), below_grown hS.2.2 g8 hS.2.2.size (by omega)⟩
        clear hM4 Bz g8
        refine ⟨hS8, ?_⟩
        clear hS
        have hS := hS8
        clear hS8
        simp only [Act.put, List.setIfInBounds_toArray, List.set_cons_zero, List.set_cons_succ]
        (refine held_val 9 (some 6) rfl rfl (by kernel_rfl) (by kernel_rfl) (by kernel_rfl) (fun _ _ _ h => h) (by kernel_rfl) (fun W hW => rfl) hS ?_; simp only [Act.put, List.setIfInBounds_toArray, List.set_cons_zero, List.set_cons_succ])
        refine wpAnyH_done (by kernel_rfl) ?_ _
        go_wp2_with fail
        go_meet
        case rel => exact ⟨gz, ds, rfl, rfl, B8, hM8, hS.2.2, hS.1, hS.2.1, hz⟩
    · have kn : Below w1.drew.heap.size w1.drew (w1.drew.alloc (.cells msgZ.toArray 52)) := (Below.refl _ _).alloc (Nat.le_refl _) _
      have hS4 := KS.out _ _ hS kn
      have Bn := Blk.new w1.drew 52 msgZ
      have hz : w.heap.size + 2 ≤ w1.drew.heap.size := by have := hS.2.1.lt; omega
      refine opw_run 7 (some 5) (v := .pointer (some ⟨w1.drew.heap.size, 0, none⟩)) (w' := w1.drew.alloc (.cells msgZ.toArray 52)) rfl rfl (by kernel_rfl) (by kernel_rfl) ?_
      refine ⟨hS4, ?_⟩
      clear hS kn
      have hS := hS4
      clear hS4
      simp only [Act.put, List.setIfInBounds_toArray, List.set_cons_zero, List.set_cons_succ]
      generalize w1.drew.alloc (.cells msgZ.toArray 52) = wy at *
      generalize w1.drew.heap.size = gz at *
      refine held_call 1 (some 29) 36 #[.agg cs.toArray] (by kernel_rfl) rfl rfl (by kernel_rfl) (by go_simp) (TO.out _ hS.2.2) ?_
      rintro _ w2 ⟨rfl, b2⟩
      have hS2 := KS.out _ _ hS b2
      have Bn2 := Bn.below b2 Bn.lt
      refine ⟨_, rfl, hS2, ?_⟩
      clear hS b2 Bn
      have hS := hS2
      clear hS2
      simp only [Act.put, List.setIfInBounds_toArray, List.set_cons_zero, List.set_cons_succ]
      refine held_call 3 (some 31) 38 #[.agg cs.toArray, .agg es.toArray] (by kernel_rfl) rfl rfl (by kernel_rfl) (by go_simp) (PK.out _ hS.2.2) ?_
      rintro _ w3 ⟨ds, rfl, hM4, b3⟩
      have hdl := hM4.len
      have hd1 := Lib.hid hM4.one
      have hS3 := KS.out _ _ hS b3
      have Bz := Bn2.below b3 Bn2.lt
      refine ⟨_, rfl, hS3, ?_⟩
      clear hS b3 Bn2
      have hS := hS3
      clear hS3
      simp only [Act.put, List.setIfInBounds_toArray, List.set_cons_zero, List.set_cons_succ]
      (refine held_val 4 (some 27) rfl rfl (by kernel_rfl) (by kernel_rfl) (by kernel_rfl) (fun _ _ _ h => h) (by kernel_rfl) (fun W hW => rfl) hS ?_; simp only [Act.put, List.setIfInBounds_toArray, List.set_cons_zero, List.set_cons_succ])
      (refine held_val 5 (some 32) rfl rfl (by kernel_rfl) (by kernel_rfl) (by kernel_rfl) (fun _ _ _ h => h) (by kernel_rfl) (fun W hW => rfl) hS ?_; simp only [Act.put, List.setIfInBounds_toArray, List.set_cons_zero, List.set_cons_succ])
      (refine held_val 6 (some 33) rfl rfl (by kernel_rfl) (by kernel_rfl) (by kernel_rfl) (fun _ _ _ h => h) (by kernel_rfl) (fun W hW => rfl) hS ?_; simp only [Act.put, List.setIfInBounds_toArray, List.set_cons_zero, List.set_cons_succ])
      refine held_stB 8 none 52 (.tmp 5) (.tmp 32) (by kernel_rfl) rfl rfl rfl (by kernel_rfl) gz 0 rfl ds rfl Bz (by have := msgZ_len; omega) (by rw [hdl]; exact msgInfo) hd1.out ?_
      intro w8 B8 g8 zs
      clear zs
      replace B8 : Blk w8 gz 52 ds := whole14 B8 (by have := msgZ_len; omega)
      have hM8 := hM4.blk g8 Bz
      have hS8 : Blk w8 w.heap.size 63 cs ∧ Blk w8 (w.heap.size + 1) 70 es ∧ Below w.heap.size w w8 := ⟨hS.1.grown g8 (by simp; omega), hS.2.1.grown g8 (by simp; omega), below_grown hS.2.2 g8 hS.2.2.size (by omega)⟩
      clear hM4 Bz g8
      refine ⟨hS8, ?_⟩
      clear hS
      have hS := hS8
      clear hS8
      simp only [Act.put, List.setIfInBounds_toArray, List.set_cons_zero, List.set_cons_succ]
      (refine held_val 9 (some 6) rfl rfl (by kernel_rfl) (by kernel_rfl) (by kernel_rfl) (fun _ _ _ h => h) (by kernel_rfl) (fun W hW => rfl) hS ?_; simp only [Act.put, List.setIfInBounds_toArray, List.set_cons_zero, List.set_cons_succ])
      refine wpAnyH_done (by kernel_rfl) ?_ _
      go_wp2_with fail
      go_meet
      case rel => exact ⟨gz, ds, rfl, rfl, B8, hM8, hS.2.2, hS.1, hS.2.1, hz⟩
  obtain ⟨g5, ds, rfl, rfl, B5, hM5, HB5, C15, C25, hz⟩ := hcut
  clear C1 C2 HB1
  go_wp2_with (refine at_op (.load 63 (.tmp 2)) rfl ?_; go_must (refine wpList_ldB rfl 63 (.tmp 2) rfl w.heap.size 0 rfl C15 23 (by omega) _ Try.underlying63 rfl qrInfo cs (by rw [List.drop_zero, List.take_of_length_le (by omega)]) ?_))
  refine (TO.out _ HB5).mono ?_
  rintro _ w3 ⟨rfl, b3⟩
  have C16 := C15.below b3 C15.lt
  have C26 := C25.below b3 C25.lt
  have B6 := B5.below b3 B5.lt
  have hM6 := hM5.below b3
  have HB6 := below_then HB5 HB5.size b3
  have hc1 : Hid (∀ v ∈ cs, v.oneCell' = true) := Lib.hid (by rw [H1.out.hcs]; exact qyC_one rfl)
  clear b3 B5 hM5 HB5 C15 C25 TO
  go_wp2_with (refine at_op (.store 66 (.tmp 7) (.tmp 35)) rfl ?_; go_must (refine wpList_stB rfl 66 (.tmp 7) (.tmp 35) rfl w3.heap.size 0 rfl cs rfl (Blk.new' _ _ qyZ _ rfl) (by rw [hcl, qyZ_len]; omega) (by rw [hcl]; exact qyInfo) hc1.out ?_))
  intro w4 B7 g4 _
  replace B7 : Blk w4 w3.heap.size 66 cs := wholeG B7 (by have := qyZ_len; omega)
  have k4 : Below w3.heap.size w3 w4 := below_grown ((Below.refl _ _).alloc (Nat.le_refl _) _) g4 (by simp) (Nat.le_refl _)
  clear g4
  go_wp2_with (refine at_op (.store 24 (.tmp 37) (.const (.slice none 0 0))) rfl ?_; go_must (refine wpList_stC rfl 24 (.tmp 37) (.const (.slice none 0 0)) rfl w3.heap.size 20 rfl (.slice none 0 0) rfl B7 (by rw [hcl]; decide) nameInfo1 rfl rfl ?_))
  intro w5 B8 g8 _
  have k5 : Below w3.heap.size w3 w5 := below_grown k4 g8 k4.size (Nat.le_refl _)
  clear g8 k4 B7
  have LN20 : cs[20]? = some (.slice A y.q.name.length c) := by rw [H1.out.hcs]; exact qyC_at H1.out.ip 2
  have NM := Lib.hid H1.out.nm
  have hll : y.q.name.length ≤ 400 := Nat.le_trans (lsum_ge _) HLS.out
  obtain ⟨N, hN⟩ : ∃ N, Hid (y.q.name = N) := ⟨_, Lib.hid rfl⟩
  rw [hN.out] at NM LN20 hll
  clear L20
  go_wp2_with fail
  go_loopw [8] (fun iv wr => ∃ (k : Nat) (v : Value), k ≤ N.length ∧ iv = .int .i64 k ∧ Blk wr w3.heap.size 66 (cs.set 20 v) ∧ wr.ownsRow w3.heap.size 9 1 v k ((lowN (N.take k)).map fun t => Value.string (bs t)) ∧ Below w3.heap.size w3 wr) (fun iv _ => N.length - (intOf iv).toNat)
  case atStart => exact ⟨0, _, Nat.zero_le _, rfl, B8, World.ownsRow_nil _ _ _ _, k5⟩
  clear B8 k5
  obtain ⟨k, v, hk, rfl, B9, own9, HB9⟩ := hrel
  obtain ⟨A9, c9, hv9⟩ := own_form own9
  subst hv9
  have C19 := C16.below HB9 C16.lt
  have q20 := C19.cell_ 20 LN20
  clear C19
  by_cases hlt : k < N.length
  case pos =>
    have hlt' : (k : Int) < N.length := by omega
    obtain ⟨ba, oa, hA, la, xa⟩ := NM.out.1 (by omega)
    have LS := Lib.hid (fun V => refLow1_any N[k] V (NM.out.2.2.2 _ (List.getElem_mem hlt)))
    have XS : Hid (∀ V, Below w3.heap.size w3 V → V.cell? ⟨ba, oa + k, none⟩ = some (.string (bs N[k]))) := Lib.hid (fun V hV => ((HB6.trans (hV.mono HB6.size)).cell (p := ⟨ba, oa + k, none⟩) la).trans (xa k hlt))
    have HX : Hid (lowN (N.take (k + 1)) = lowN (N.take k) ++ [lowT N[k]]) := Lib.hid (by rw [List.take_succ_eq_append_getElem hlt]; simp only [lowN, List.map_append, List.map_cons, List.map_nil])
    rw [hA] at LN20 q20
    clear xa
    generalize N[k] = tk at *
    go_wp2_with fail
    refine wp_region_held_drew (S := fun V => Below w3.heap.size w3 V) (by kernel_rfl) HB9.drew (fun hS => ?_)
    refine held_val 0 (some 46) (v := .pointer (some ⟨w3.heap.size, 20, none⟩)) rfl rfl (by kernel_rfl) (by kernel_rfl) (by kernel_rfl) (fun _ _ _ h => h) (by kernel_rfl) (fun W hW => rfl) hS ?_
    simp only [Act.put, List.setIfInBounds_toArray, List.set_cons_zero, List.set_cons_succ]
    refine held_val 1 (some 47) (v := .pointer (some ⟨w3.heap.size, 20, none⟩)) rfl rfl (by kernel_rfl) (by kernel_rfl) (by kernel_rfl) (fun _ _ _ h => h) (by kernel_rfl) (fun W hW => rfl) hS ?_
    simp only [Act.put, List.setIfInBounds_toArray, List.set_cons_zero, List.set_cons_succ]
    refine held_val 3 (some 49) (v := .pointer (some ⟨w.heap.size, 20, none⟩)) rfl rfl (by kernel_rfl) (by kernel_rfl) (by kernel_rfl) (fun _ _ _ h => h) (by kernel_rfl) (fun W hW => rfl) hS ?_
    simp only [Act.put, List.setIfInBounds_toArray, List.set_cons_zero, List.set_cons_succ]
    refine held_val 4 (some 50) (v := .pointer (some ⟨w.heap.size, 20, none⟩)) rfl rfl (by kernel_rfl) (by kernel_rfl) (by kernel_rfl) (fun _ _ _ h => h) (by kernel_rfl) (fun W hW => rfl) hS ?_
    simp only [Act.put, List.setIfInBounds_toArray, List.set_cons_zero, List.set_cons_succ]
    refine held_ld 5 (some 51) 24 (.tmp 50) ⟨w.heap.size, 20, none⟩ rfl rfl rfl rfl (by kernel_rfl) (by kernel_rfl) (by kernel_rfl) (fun _ _ _ h => h) (by kernel_rfl) (fun V hV => run_load1 Try.underlying24 rfl ((C16.below hV C16.lt).cell_ 20 LN20)) hS ?_
    simp only [Act.put, List.setIfInBounds_toArray, List.set_cons_zero, List.set_cons_succ]
    (refine held_val 6 (some 52) rfl rfl (by kernel_rfl) (by kernel_rfl) (by kernel_rfl) (fun _ _ _ h => h) (by kernel_rfl) (fun W hW => rfl) hS ?_; simp only [Act.put, List.setIfInBounds_toArray, List.set_cons_zero, List.set_cons_succ])
    refine held_val 7 (some 53) (v := .pointer (some ⟨ba, oa + k, none⟩)) rfl rfl (by kernel_rfl) (by kernel_rfl) (by kernel_rfl) (fun _ _ _ h => h) (by kernel_rfl) (fun W hW => exec_ixN (.tmp 51) (.tmp 52) rfl rfl rfl hlt W) hS ?_
    simp only [Act.put, List.setIfInBounds_toArray, List.set_cons_zero, List.set_cons_succ]
    refine held_ld 8 (some 54) 9 (.tmp 53) ⟨ba, oa + k, none⟩ rfl rfl rfl rfl (by kernel_rfl) (by kernel_rfl) (by kernel_rfl) (fun _ _ _ h => h) (by kernel_rfl) (fun V hV => run_load1 Try.underlying9 rfl (XS.out V hV)) hS ?_
    simp only [Act.put, List.setIfInBounds_toArray, List.set_cons_zero, List.set_cons_succ]
    have B9d := B9.drew
    have own9d := own_below own9 (Below.refl _ _).drew
    refine ord_two 2 9 (by kernel_rfl) ?_ ?_
    · refine opw_ld 2 (some 48) 24 (.tmp 47) ⟨w3.heap.size, 20, none⟩ rfl rfl rfl rfl (by kernel_rfl) (run_load1 Try.underlying24 rfl (Blk.cell_ B9d 20 (by rw [List.getElem?_set_self (by rw [hcl]; decide)]))) ?_
      refine ⟨hS, ?_⟩
      simp only [Act.put, List.setIfInBounds_toArray, List.set_cons_zero, List.set_cons_succ]
      refine ord_one 9 (by kernel_rfl) ?_
      refine opw_call 9 (some 55) 45 #[.string (bs tk)] rfl rfl (by kernel_rfl) (by go_simp) (LS.out _) ?_
      rintro _ w6 ⟨rfl, b6⟩
      have hS6 : Below w3.heap.size w3 w6 := below_then hS hS.size b6
      have B10 := B9d.below b6 B9d.lt
      have own10 := own_below own9d b6
      refine ⟨_, rfl, hS6, ?_⟩
      clear hS b6
      have hS := hS6
      clear hS6
      simp only [Act.put, List.setIfInBounds_toArray, List.set_cons_zero, List.set_cons_succ]
      refine ord_one 10 (by kernel_rfl) ?_
      refine opw_run 10 (some 56) rfl rfl (by kernel_rfl) (exec_bsN (.tmp 55) rfl rfl) ?_
      have kn : Below w6.heap.size w6 (w6.alloc (.cells #[.string (bs (lowT tk))] 9)) := (Below.refl _ _).alloc (Nat.le_refl _) _
      have hS7 := below_then hS hS.size kn
      have B11 := B10.below kn B10.lt
      have own11 := own_below own10 kn
      refine ⟨hS7, ?_⟩
      clear hS kn
      have hS := hS7
      clear hS7
      simp only [Act.put, List.setIfInBounds_toArray, List.set_cons_zero, List.set_cons_succ]
      obtain ⟨v12, w12, hr, own12, g12⟩ := run_appT _ 24 w3.heap.size _ k _ own11 hS.size (some ⟨w6.heap.size, 0, none⟩) 1 1 [.string (bs (lowT tk))] (fun _ => ⟨_, 0, rfl, (Blk.new w6 9 [.string (bs (lowT tk))]).range 0 1 (by simp)⟩) rfl (one_cell1 rfl) (by omega)
      refine ord_one 11 (by kernel_rfl) ?_
      refine opw_run 11 (some 57) rfl rfl (by kernel_rfl) (exec_appN (.tmp 48) (.tmp 56) rfl rfl rfl rfl hr) ?_
      have hS8 := below_own hS hS.size own11 g12
      have B12 := blk_own B11 own11 (by decide) g12
      refine ⟨hS8, ?_⟩
      clear hS
      have hS := hS8
      clear hS8
      simp only [Act.put, List.setIfInBounds_toArray, List.set_cons_zero, List.set_cons_succ]
      obtain ⟨A12, c12, hv12⟩ := own_form own12
      subst hv12
      refine held_val 12 (some 58) (v := .pointer (some ⟨w3.heap.size, 20, none⟩)) rfl rfl (by kernel_rfl) (by kernel_rfl) (by kernel_rfl) (fun _ _ _ h => h) (by kernel_rfl) (fun W hW => rfl) hS ?_
      simp only [Act.put, List.setIfInBounds_toArray, List.set_cons_zero, List.set_cons_succ]
      refine held_val 13 (some 59) (v := .pointer (some ⟨w3.heap.size, 20, none⟩)) rfl rfl (by kernel_rfl) (by kernel_rfl) (by kernel_rfl) (fun _ _ _ h => h) (by kernel_rfl) (fun W hW => rfl) hS ?_
      simp only [Act.put, List.setIfInBounds_toArray, List.set_cons_zero, List.set_cons_succ]
      refine ord_one 14 (by kernel_rfl) ?_
      refine opw_stC 14 24 (.tmp 59) (.tmp 57) rfl rfl rfl (by kernel_rfl) w3.heap.size 20 rfl (.slice A12 (k + 1) c12) rfl B12 (by rw [List.length_set, hcl]; decide) nameInfo1 rfl rfl ?_
      intro w13 B13 g13 _
      rw [List.set_set] at B13
      have own13 : w13.ownsRow w3.heap.size 9 1 (.slice A12 (k + 1) c12) (k + 1) ((lowN (N.take (k + 1))).map fun t => Value.string (bs t)) := by
        have h := own_blk own12 g13 B12 (by decide)
        rw [HX.out, List.map_append]; exact h
      have HB13 : Below w3.heap.size w3 w13 := below_grown hS g13 hS.size (Nat.le_refl _)
      refine ⟨HB13, ?_⟩
      simp only [Act.put, List.setIfInBounds_toArray, List.set_cons_zero, List.set_cons_succ]
      refine wpAnyH_done (by kernel_rfl) ?_ _
      clear own12 g12 B12 hr hS g13 own11 B11
      go_wp2_with fail
      go_roundw
      case rel => exact ⟨k + 1, _, by omega, by go_num, B13, own13, HB13⟩
      case measure => simp [intOf]; omega
    · refine opw_call 9 (some 55) 45 #[.string (bs tk)] rfl rfl (by kernel_rfl) (by go_simp) (LS.out _) ?_
      rintro _ w6 ⟨rfl, b6⟩
      have hS6 : Below w3.heap.size w3 w6 := below_then hS hS.size b6
      have B10 := B9d.below b6 B9d.lt
      have own10 := own_below own9d b6
      refine ⟨_, rfl, hS6, ?_⟩
      clear hS b6
      have hS := hS6
      clear hS6
      simp only [Act.put, List.setIfInBounds_toArray, List.set_cons_zero, List.set_cons_succ]
      refine ord_two 2 10 (by kernel_rfl) ?_ ?_
      · refine opw_ld 2 (some 48) 24 (.tmp 47) ⟨w3.heap.size, 20, none⟩ rfl rfl rfl rfl (by kernel_rfl) (run_load1 Try.underlying24 rfl (Blk.cell_ B10 20 (by rw [List.getElem?_set_self (by rw [hcl]; decide)]))) ?_
        refine ⟨hS, ?_⟩
        simp only [Act.put, List.setIfInBounds_toArray, List.set_cons_zero, List.set_cons_succ]
        refine ord_one 10 (by kernel_rfl) ?_
        refine opw_run 10 (some 56) rfl rfl (by kernel_rfl) (exec_bsN (.tmp 55) rfl rfl) ?_
        have kn : Below w6.heap.size w6 (w6.alloc (.cells #[.string (bs (lowT tk))] 9)) := (Below.refl _ _).alloc (Nat.le_refl _) _
        have hS7 := below_then hS hS.size kn
        have B11 := B10.below kn B10.lt
        have own11 := own_below own10 kn
        refine ⟨hS7, ?_⟩
        clear hS kn
        have hS := hS7
        clear hS7
        simp only [Act.put, List.setIfInBounds_toArray, List.set_cons_zero, List.set_cons_succ]
        obtain ⟨v12, w12, hr, own12, g12⟩ := run_appT _ 24 w3.heap.size _ k _ own11 hS.size (some ⟨w6.heap.size, 0, none⟩) 1 1 [.string (bs (lowT tk))] (fun _ => ⟨_, 0, rfl, (Blk.new w6 9 [.string (bs (lowT tk))]).range 0 1 (by simp)⟩) rfl (one_cell1 rfl) (by omega)
        refine ord_one 11 (by kernel_rfl) ?_
        refine opw_run 11 (some 57) rfl rfl (by kernel_rfl) (exec_appN (.tmp 48) (.tmp 56) rfl rfl rfl rfl hr) ?_
        have hS8 := below_own hS hS.size own11 g12
        have B12 := blk_own B11 own11 (by decide) g12
        refine ⟨hS8, ?_⟩
        clear hS
        have hS := hS8
        clear hS8
        simp only [Act.put, List.setIfInBounds_toArray, List.set_cons_zero, List.set_cons_succ]
        obtain ⟨A12, c12, hv12⟩ := own_form own12
        subst hv12
        refine held_val 12 (some 58) (v := .pointer (some ⟨w3.heap.size, 20, none⟩)) rfl rfl (by kernel_rfl) (by kernel_rfl) (by kernel_rfl) (fun _ _ _ h => h) (by kernel_rfl) (fun W hW => rfl) hS ?_
        simp only [Act.put, List.setIfInBounds_toArray, List.set_cons_zero, List.set_cons_succ]
        refine held_val 13 (some 59) (v := .pointer (some ⟨w3.heap.size, 20, none⟩)) rfl rfl (by kernel_rfl) (by kernel_rfl) (by kernel_rfl) (fun _ _ _ h => h) (by kernel_rfl) (fun W hW => rfl) hS ?_
        simp only [Act.put, List.setIfInBounds_toArray, List.set_cons_zero, List.set_cons_succ]
        refine ord_one 14 (by kernel_rfl) ?_
        refine opw_stC 14 24 (.tmp 59) (.tmp 57) rfl rfl rfl (by kernel_rfl) w3.heap.size 20 rfl (.slice A12 (k + 1) c12) rfl B12 (by rw [List.length_set, hcl]; decide) nameInfo1 rfl rfl ?_
        intro w13 B13 g13 _
        rw [List.set_set] at B13
        have own13 : w13.ownsRow w3.heap.size 9 1 (.slice A12 (k + 1) c12) (k + 1) ((lowN (N.take (k + 1))).map fun t => Value.string (bs t)) := by
          have h := own_blk own12 g13 B12 (by decide)
          rw [HX.out, List.map_append]; exact h
        have HB13 : Below w3.heap.size w3 w13 := below_grown hS g13 hS.size (Nat.le_refl _)
        refine ⟨HB13, ?_⟩
        simp only [Act.put, List.setIfInBounds_toArray, List.set_cons_zero, List.set_cons_succ]
        refine wpAnyH_done (by kernel_rfl) ?_ _
        clear own12 g12 B12 hr hS g13 own11 B11
        go_wp2_with fail
        go_roundw
        case rel => exact ⟨k + 1, _, by omega, by go_num, B13, own13, HB13⟩
        case measure => simp [intOf]; omega
      · refine opw_run 10 (some 56) rfl rfl (by kernel_rfl) (exec_bsN (.tmp 55) rfl rfl) ?_
        have kn : Below w6.heap.size w6 (w6.alloc (.cells #[.string (bs (lowT tk))] 9)) := (Below.refl _ _).alloc (Nat.le_refl _) _
        have hS7 := below_then hS hS.size kn
        have B11 := B10.below kn B10.lt
        have own11 := own_below own10 kn
        refine ⟨hS7, ?_⟩
        clear hS kn
        have hS := hS7
        clear hS7
        simp only [Act.put, List.setIfInBounds_toArray, List.set_cons_zero, List.set_cons_succ]
        refine ord_one 2 (by kernel_rfl) ?_
        refine opw_ld 2 (some 48) 24 (.tmp 47) ⟨w3.heap.size, 20, none⟩ rfl rfl rfl rfl (by kernel_rfl) (run_load1 Try.underlying24 rfl (Blk.cell_ B11 20 (by rw [List.getElem?_set_self (by rw [hcl]; decide)]))) ?_
        refine ⟨hS, ?_⟩
        simp only [Act.put, List.setIfInBounds_toArray, List.set_cons_zero, List.set_cons_succ]
        obtain ⟨v12, w12, hr, own12, g12⟩ := run_appT _ 24 w3.heap.size _ k _ own11 hS.size (some ⟨w6.heap.size, 0, none⟩) 1 1 [.string (bs (lowT tk))] (fun _ => ⟨_, 0, rfl, (Blk.new w6 9 [.string (bs (lowT tk))]).range 0 1 (by simp)⟩) rfl (one_cell1 rfl) (by omega)
        refine ord_one 11 (by kernel_rfl) ?_
        refine opw_run 11 (some 57) rfl rfl (by kernel_rfl) (exec_appN (.tmp 48) (.tmp 56) rfl rfl rfl rfl hr) ?_
        have hS8 := below_own hS hS.size own11 g12
        have B12 := blk_own B11 own11 (by decide) g12
        refine ⟨hS8, ?_⟩
        clear hS
        have hS := hS8
        clear hS8
        simp only [Act.put, List.setIfInBounds_toArray, List.set_cons_zero, List.set_cons_succ]
        obtain ⟨A12, c12, hv12⟩ := own_form own12
        subst hv12
        refine held_val 12 (some 58) (v := .pointer (some ⟨w3.heap.size, 20, none⟩)) rfl rfl (by kernel_rfl) (by kernel_rfl) (by kernel_rfl) (fun _ _ _ h => h) (by kernel_rfl) (fun W hW => rfl) hS ?_
        simp only [Act.put, List.setIfInBounds_toArray, List.set_cons_zero, List.set_cons_succ]
        refine held_val 13 (some 59) (v := .pointer (some ⟨w3.heap.size, 20, none⟩)) rfl rfl (by kernel_rfl) (by kernel_rfl) (by kernel_rfl) (fun _ _ _ h => h) (by kernel_rfl) (fun W hW => rfl) hS ?_
        simp only [Act.put, List.setIfInBounds_toArray, List.set_cons_zero, List.set_cons_succ]
        refine ord_one 14 (by kernel_rfl) ?_
        refine opw_stC 14 24 (.tmp 59) (.tmp 57) rfl rfl rfl (by kernel_rfl) w3.heap.size 20 rfl (.slice A12 (k + 1) c12) rfl B12 (by rw [List.length_set, hcl]; decide) nameInfo1 rfl rfl ?_
        intro w13 B13 g13 _
        rw [List.set_set] at B13
        have own13 : w13.ownsRow w3.heap.size 9 1 (.slice A12 (k + 1) c12) (k + 1) ((lowN (N.take (k + 1))).map fun t => Value.string (bs t)) := by
          have h := own_blk own12 g13 B12 (by decide)
          rw [HX.out, List.map_append]; exact h
        have HB13 : Below w3.heap.size w3 w13 := below_grown hS g13 hS.size (Nat.le_refl _)
        refine ⟨HB13, ?_⟩
        simp only [Act.put, List.setIfInBounds_toArray, List.set_cons_zero, List.set_cons_succ]
        refine wpAnyH_done (by kernel_rfl) ?_ _
        clear own12 g12 B12 hr hS g13 own11 B11
        go_wp2_with fail
        go_roundw
        case rel => exact ⟨k + 1, _, by omega, by go_num, B13, own13, HB13⟩
        case measure => simp [intOf]; omega
  obtain rfl : k = N.length := by omega
  have hlt' : ¬ (N.length : Int) < N.length := by omega
  have ht : N.take N.length = N := List.take_of_length_le (Nat.le_refl _)
  rw [ht] at own9
  have hb2 : Txts wr (.slice A9 N.length c9) (lowN N) := by unfold Txts; rw [lowN_len]; exact ⟨own9.1, own9.2.imp id (fun ⟨g, cap, cur, h1, _, h3⟩ => ⟨g, cap, cur, h1, Nat.zero_le _, h3⟩)⟩
  obtain ⟨_, _, e1, r1, r2⟩ := hb2.form
  injection e1 with e11 e12 e13
  subst e11 e13
  have NL : NmR wr A9 c9 (lowN N) := ⟨r1, r2, by rw [lowN_len]; omega, fun l hl => by
    obtain ⟨l', h', rfl⟩ := List.mem_map.1 hl
    rw [lowT_len]; exact NM.out.2.2.2 _ h'⟩
  have QL : Hid (QyIs wr (cs.set 20 (.slice A9 N.length c9)) y.low A9 c9) := Lib.hid (by
    have := hN.out
    subst this
    exact H1.out.low NL)
  have HBw : Below w.heap.size w wr := HB6.trans (HB9.mono HB6.size)
  have PK2 : Hid (∀ w', Below wr.heap.size wr w' → Calls Try.prog 38 #[.agg (cs.set 20 (.slice A9 N.length c9)).toArray, .agg es.toArray] w' (FrRet pp w')) := Lib.hid (fun w' b => by
    have := packet_any _ y.low A9 c9 e w' (QL.out.below b) HIP.out HDS.out
    rw [packP_low, hpp.out, HE.out] at this
    exact this)
  have C2w := C26.below HB9 C26.lt
  have B6w := B6.below HB9 B6.lt
  have hM6w := hM6.below HB9
  have hsl : (cs.set 20 (.slice A9 N.length c9)).length = 23 := by simp [hcl]
  clear ht own9 hb2 e12 r1 r2 NL QL C16 C26 B6 hM6 HB6 HB9 LN20 NM hN
  generalize cs.set 20 (.slice A9 N.length c9) = xs at *
  go_wp2_with (first
    | (refine at_op (.load 66 (.tmp 7)) rfl ?_; go_must (refine wpList_ldB rfl 66 (.tmp 7) rfl w3.heap.size 0 rfl B9 23 (by omega) _ Try.underlying66 rfl qyInfo xs (by rw [List.drop_zero, List.take_of_length_le (by omega)]) ?_))
    | (refine at_op (.load 70 (.tmp 3)) rfl ?_; go_must (refine wpList_ldB rfl 70 (.tmp 3) rfl (w.heap.size + 1) 0 rfl C2w 22 (by omega) _ Try.underlying70 rfl evInfo es (by rw [List.drop_zero, List.take_of_length_le (by omega)]) ?_)))
  refine (PK2.out _ (Below.refl _ _)).mono ?_
  rintro _ w8 ⟨es2, rfl, hM8, b8⟩
  have hel8 := hM8.len
  have ho8 := Lib.hid hM8.one
  have B8w := B6w.below b8 B6w.lt
  have hM6v := hM6w.below b8
  have HB8 := below_then HBw HBw.size b8
  clear PK2 B9 C2w B6w hM6w b8 HBw
  go_wp2_with (refine at_op (.store 52 (.tmp 9) (.tmp 64)) rfl ?_; go_must (refine wpList_stB rfl 52 (.tmp 9) (.tmp 64) rfl w8.heap.size 0 rfl es2 rfl (Blk.new' _ _ msgZ _ rfl) (by rw [hel8, msgZ_len]; omega) (by rw [hel8]; exact msgInfo) ho8.out ?_))
  intro w9 Bz g9 _
  replace Bz : Blk w9 w8.heap.size 52 es2 := wholeG Bz (by have := msgZ_len; omega)
  have k9 : Below w8.heap.size w8 w9 := below_grown ((Below.refl _ _).alloc (Nat.le_refl _) _) g9 (by simp) (Nat.le_refl _)
  have B9w := B8w.below k9 B8w.lt
  have hMa := hM6v.below k9
  have hMb := hM8.below k9
  have HB9 := below_then HB8 HB8.size k9
  have hdl := hMa.len
  have SMc : Hid (Calls Try.prog 42 #[.agg ds.toArray, .agg es2.toArray] w9 (RetB (.bool true) w9)) := Lib.hid (by
    have := same_owns hMa hMb
    rwa [decide_eq_true rfl] at this)
  clear g9 k9 hM6v hM8 B8w HB8 hMa hMb ho8
  generalize w8.heap.size = g9 at *
  generalize pp.2 = pb at *
  cases pb <;> (
    go_wp2_with (first
      | (refine at_op (.load 52 (.tmp 5)) rfl ?_; go_must (refine wpList_ldG 52 (.tmp 5) rfl (by go_simp) g5 0 rfl B9w 14 (by omega) _ Try.underlying52 rfl msgInfo ds (by rw [List.drop_zero, List.take_of_length_le (by omega)]) ?_))
      | (refine at_op (.load 52 (.tmp 9)) rfl ?_; go_must (refine wpList_ldG 52 (.tmp 9) rfl (by go_simp) g9 0 rfl Bz 14 (by omega) _ Try.underlying52 rfl msgInfo es2 (by rw [List.drop_zero, List.take_of_length_le (by omega)]) ?_)))
    refine SMc.out.mono ?_
    rintro _ w10 ⟨rfl, b10⟩
    have HB10 := below_then HB9 HB9.size b10
    clear b10 SMc B9w Bz HB9
    go_wp2_with fail
    go_ret
    exact RetB.mk rfl HB10)
end Go.Proofs.Ytlmgdogblbigpaa

/-
  Layer 47, the reference: Outs.
-/
import Derived.Test.YtkcbffldncmbcaaGreatDoorTy19q
namespace Go.Proofs.YtkcbffldncmbcaaGreatDoor
open _root_.Go.Proofs.Tryz
open Go.RowKit
set_option maxRecDepth 100000
set_option linter.unusedVariables false
set_option linter.unusedSimpArgs false
theorem run_bt5 (a b c d e : ByteArray) (w : World) : (Instr.buildSlice 41 5 #[(0, .string a), (1, .string b), (2, .string c), (3, .string d), (4, .string e)]).run prog w = .ok (.slice (some ⟨w.heap.size, 0, none⟩) 5 5) (w.alloc (.cells #[.string a, .string b, .string c, .string d, .string e] 9)) := by kernel_rfl
theorem exec_bt5 {a b c d e : ByteArray} {w : World} {o : Oper} {ac : Act} (x0 x1 x2 x3 x4 : Operand) (ho : o.op = .buildSlice 41 5 #[(0, x0), (1, x1), (2, x2), (3, x3), (4, x4)]) (h0 : ac.eval x0 = .string a) (h1 : ac.eval x1 = .string b) (h2 : ac.eval x2 = .string c) (h3 : ac.eval x3 = .string d) (h4 : ac.eval x4 = .string e) : (execOp ac.eval o).run prog w = .ok (.value (.slice (some ⟨w.heap.size, 0, none⟩) 5 5)) (w.alloc (.cells #[.string a, .string b, .string c, .string d, .string e] 9)) := by
 unfold execOp
 simp only [ho, Sem.run_bind, Sem.run_pure, Result.andThen_ok, List.map_toArray, List.map_cons, List.map_nil, h0, h1, h2, h3, h4, run_bt5]
section
variable {P : Program} {ops : Array Oper} {Q : Exit → Act → World → Prop} {S : World → Prop} {o : Oper} {a : Act} {w : World}
theorem op_run {K : Act → World → Prop} (i : Nat) (d : Option Tmp) (hi : ops[i]? = some o) (hd : o.dst = d) (hw : Region.wanted o (yielded ops a.tmps) = true) {v : Value} {w' : World} (he : (execOp a.eval o).run P w = .ok (.value v) w') (h : K (a.put d v) w') : wpOp P ops Q i K a w := by
 subst hd
 unfold wpOp
 simp only [hi, hw, if_true]
 left
 unfold Oper.wp
 rw [he]
 exact h
theorem op_call {K : Act → World → Prop} (i : Nat) (d : Option Tmp) (f : FuncId) (vs : Array Value) (hi : ops[i]? = some o) (hd : o.dst = d) (hw : Region.wanted o (yielded ops a.tmps) = true) (he : (execOp a.eval o).run P w = .ok (.enter f vs) w)
  {R : Ending → World → Prop} (hc : Calls P f vs w R) (h : ∀ e w', R e w' → ∃ v, e = .returned v ∧ K (a.put d v) w') : wpOp P ops Q i K a w := by
 subst hd
 unfold wpOp
 simp only [hi, hw, if_true]
 left
 unfold Oper.wp
 rw [he]
 refine hc.mono ?_
 intro e w' hr
 obtain ⟨v, rfl, hk⟩ := h e w' hr
 exact hk
theorem held_two {fuel : Nat} {listed : Array Bool} (i j : Nat) (hr : Region.ready .any ops listed = [i, j]) (h1 : wpOp P ops Q i (fun a' w' => S w' ∧ wpAnyH P .any ops Q S fuel (listed.setIfInBounds i true) a' w') a w) (h2 : wpOp P ops Q j (fun a' w' => S w' ∧ wpAnyH P .any ops Q S fuel (listed.setIfInBounds j true) a' w') a w) : wpAnyH P .any ops Q S (fuel + 1) listed a w := by
 refine wpAnyH_all hr (by simp) fun k hk => ?_
 rcases List.mem_cons.1 hk with rfl | hk
 ·
  exact h1
 ·
  rw [List.mem_singleton] at hk
  subst hk
  exact h2
end
def nmS (m : Nat) : List UInt8 := ([[], [115, 101, 110, 100, 32], [100, 105, 97, 108, 32], [119, 114, 105, 116, 101, 32], [104, 97, 110, 103, 32]] : List (List UInt8)).getD m []
def nm5 : List Value := [.string (bs []), .string (bs [115, 101, 110, 100, 32]), .string (bs [100, 105, 97, 108, 32]), .string (bs [119, 114, 105, 116, 101, 32]), .string (bs [104, 97, 110, 103, 32])]
theorem nm5_at {m : Nat} (h : m < 5) : nm5[m]? = some (.string (bs (nmS m))) := by
 match m, h with
 | 0, _ | 1, _ | 2, _ | 3, _ | 4, _ => rfl
 | j + 5, h => omega
theorem nmS_len (m : Nat) : (nmS m).length ≤ 10 := by
 unfold nmS
 rw [List.getD_eq_getElem?_getD]
 match m with
 | 0 | 1 | 2 | 3 | 4 => decide
 | j + 5 => simp
theorem outT_s {o : Ou} {m : Nat} (h : o.kind = m) (h1 : m = 1 ∨ m = 3) : outT o = nmS m ++ adrT o.to_ ++ [32] ++ Lib.itoa o.port ++ [32] ++ hexT o.data ++ [10] := by
 rcases h1 with rfl | rfl
 ·
  rw [outT_1 h]; simp [joinC, nmS]
 ·
  rw [outT_3 h]; simp [joinC, nmS]
theorem outT_d {o : Ou} {m : Nat} (h : o.kind = m) (h1 : m = 2 ∨ m = 4) : outT o = nmS m ++ adrT o.to_ ++ [32] ++ Lib.itoa o.port ++ [10] := by
 rcases h1 with rfl | rfl
 ·
  rw [outT_2 h]; simp [joinC, nmS]
 ·
  rw [outT_4 h]; simp [joinC, nmS]
set_option maxHeartbeats 8000000 in
theorem routs_any (l : List Ou) (A : Option Addr) (c : Nat) (w : World) (hL : LIn w 21 OuB A l) (hl : l.length ≤ 100) : Calls prog 10 #[.slice A l.length c] w (RetB (.string (bs (l.flatMap outT))) w) := by
 have LL : Hid (∀ k, ((l.take k).flatMap outT).length ≤ 42000 * l.length) := Hh (fun k => fm_take outT 42000 l (outs_len hL) k)
 have HLL := Hh hL
 clear hL
 go_enter func10, ntmps10
 go_wp2_with fail
 go_loopw [3, 4] (fun sv iv wr => ∃ k : Nat, k ≤ l.length ∧ iv = .int .i64 k ∧ sv = .string (bs ((l.take k).flatMap outT)) ∧ Below w.heap.size w wr) (fun _ iv _ => l.length - (intOf iv).toNat)
 case atStart => exact ⟨0, Nat.zero_le _, rfl, rfl, Below.refl _ _⟩
 obtain ⟨k, hk, rfl, rfl, S⟩ := hrel
 have hql : ((l.take k).flatMap outT).length ≤ 4200000 := by
  have := LL.out k
  omega
 by_cases hlt : k < l.length
 case pos =>
  have hlt' : (k : Int) < l.length := by omega
  obtain ⟨ba, oa, hAi, la, xa⟩ := HLL.out (by omega)
  subst hAi
  obtain ⟨cs, hcs, hci⟩ := xa k hlt
  have hcs1 := range_below hcs S la
  have HX : Hid ((l.take (k + 1)).flatMap outT = (l.take k).flatMap outT ++ outT l[k]) := Hh (fm_next outT hlt)
  generalize l[k] = x at *
  generalize (l.take k).flatMap outT = P at *
  have hcl : cs.length = 21 := by rw [hci.1]; exact ouC_len hci.2.1
  have hone : ∀ v ∈ cs, v.oneCell' = true := by rw [hci.1]; exact ouC1 x
  clear xa hcs LL
  have Zq := Blk.new wr 33 ouZ
  have kn0 : Below wr.heap.size wr (wr.alloc (.cells ouZ.toArray 33)) := (Below.refl _ _).alloc (Nat.le_refl _) _
  go_wp2_with (first
   | (refine at_op (.load 33 (.tmp 14)) rfl ?_; go_must (refine wpList_ldR rfl 33 (.tmp 14) rfl ba (oa + k * 21) rfl cs hcs1 _ underlying33 rfl (by rw [hcl]; exact ouInfo21) ?_))
   | (refine at_op (.store 33 (.tmp 5) (.tmp 15)) rfl ?_; go_must (refine wpList_stB rfl _ _ _ rfl wr.heap.size 0 rfl cs rfl Zq (by rw [hcl]; decide) (by rw [hcl]; exact ouInfo21) hone ?_)))
  intro w1 B1 g1 sw
  clear sw
  have hzl : ouZ.length = 21 := rfl
  have X1 := blkAll B1 (by omega)
  have kn : Below wr.heap.size wr w1 := below_grown kn0 g1 (by simp) (Nat.le_refl _)
  have S1 := below_then S S.size kn
  have L0 : cs[0]? = some (.int .i64 x.kind) := by rw [hci.1]; rfl
  have LA : (cs.drop 1).take 18 = x.to_.cells := by rw [hci.1]; exact ouC_ad hci.2.1
  have L19 : cs[19]? = some (.int .i64 x.port) := by rw [hci.1]; exact ouC_at hci.2.1 0
  have L20 : cs[20]? = some (.string (bs x.data)) := by rw [hci.1]; exact ouC_at hci.2.1 1
  have l1 := adrT_len x.to_ hci.2.2.1
  have l2 := itoa_len x.port hci.2.2.2.1.1 hci.2.2.2.1.2
  have l3 := hexT_len x.data
  have ld := hci.2.2.2.2
  have AT := Hh (fun V => ref09Text_any x.to_ hci.2.1 hci.2.2.1.2 V)
  have DG := Hh (fun V => rdigZ_any x.port hci.2.2.2.1.1 hci.2.2.2.1.2 V)
  have HE := Hh (fun V => rhex44_any x.data (by omega) V)
  obtain ⟨gq, hgq⟩ : ∃ gq, Hid (wr.heap.size = gq) := ⟨_, Hh rfl⟩
  rw [hgq.out] at X1 ⊢
  have d0 := X1.cell_ 0 L0
  clear B1 g1 Zq kn S hcs1 hci hone hgq kn0 HLL
  by_cases hin : 1 ≤ x.kind ∧ x.kind ≤ 4
  case neg =>
   have HO : Hid (outT x = []) := Hh (outT_0 (by omega) (by omega) (by omega) (by omega))
   have HX2 : Hid ((l.take (k + 1)).flatMap outT = P) := Hh (by rw [HX.out, HO.out, List.append_nil])
   clear AT DG HE HX HO LA L19 L20 L0
   by_cases h1 : x.kind < 1
   case pos =>
    clear hin
    go_wp2_with fail
    go_roundw
    case rel => exact ⟨k + 1, by omega, by go_num, by rw [HX2.out], S1⟩
    case measure => simp [intOf]; omega
   have h4 : (4 : Int) < x.kind := by omega
   clear hin
   go_wp2_with fail
   go_roundw
   case rel => exact ⟨k + 1, by omega, by go_num, by rw [HX2.out], S1⟩
   case measure => simp [intOf]; omega
  obtain ⟨m, hm⟩ : ∃ m : Nat, x.kind = m := ⟨x.kind.toNat, by omega⟩
  have hm1 : 1 ≤ m := by omega
  have hm5 : m < 5 := by omega
  have HOs := Hh (outT_s hm)
  have HOd := Hh (outT_d hm)
  rw [hm] at L0 d0
  clear hin hm
  have hkl : ¬ (m : Int) < 1 := by omega
  have hkg : ¬ (4 : Int) < m := by omega
  have hm5' : (m : Int) < 5 := by omega
  have N5 := Hh (nm5_at hm5)
  have ln := nmS_len m
  generalize hta : adrT x.to_ = ta at *
  generalize hex : hexT x.data = th at *
  generalize htp : Lib.itoa x.port = tp at *
  generalize outT x = tz at *
  generalize nmS m = nm at *
  go_upto_region 7 with fail
  go_cut [3] (fun v wx => v = .string (bs (P ++ nm ++ ta ++ [32] ++ tp)) ∧ Below w.heap.size w wx ∧ Blk wx gq 33 cs)
  case first =>
   clear HOs HOd HX HE d0
   refine wp_region_held_drew (S := fun V => Below w.heap.size w V ∧ Blk V gq 33 cs) (by kernel_rfl) ⟨S1.drew, X1⟩ (fun hS => ?_)
   refine held_seq hS 7 [0,2,3,7,8,12,13] rfl (by kernel_rfl) (fun _ _ _ _ _ h => h) rfl rfl ?_
   (refine ⟨_, (.string (bs P)), rfl, .inl ⟨rfl, fun V hV => rfl⟩, ?_⟩; simp only [Act.put, lsA, lsB, lsC])
   (refine ⟨_, (.pointer (some ⟨gq, 0, none⟩)), rfl, .inl ⟨rfl, fun V hV => rfl⟩, ?_⟩; simp only [Act.put, lsA, lsB, lsC])
   (refine ⟨_, _, rfl, .inl ⟨rfl, fun V hV => (exec_ld 3 (.tmp 26) ⟨gq, 0, none⟩ rfl rfl (run_load1 underlying3 rfl (hV.2.cell_ 0 L0)))⟩, ?_⟩; simp only [Act.put, lsA, lsB, lsC])
   (refine ⟨_, (.pointer (some ⟨gq, 1, none⟩)), rfl, .inl ⟨rfl, fun V hV => rfl⟩, ?_⟩; simp only [Act.put, lsA, lsB, lsC])
   (refine ⟨_, _, rfl, .inl ⟨rfl, fun V hV => (exec_ld 31 (.tmp 31) ⟨gq, 1, none⟩ rfl rfl (hV.2.loads 31 1 18 (by omega) _ underlying31 rfl adrInfo x.to_.cells LA))⟩, ?_⟩; simp only [Act.put, lsA, lsB, lsC])
   (refine ⟨_, (.pointer (some ⟨gq, 19, none⟩)), rfl, .inl ⟨rfl, fun V hV => rfl⟩, ?_⟩; simp only [Act.put, lsA, lsB, lsC])
   (refine ⟨_, _, rfl, .inl ⟨rfl, fun V hV => (exec_ld 3 (.tmp 36) ⟨gq, 19, none⟩ rfl rfl (run_load1 underlying3 rfl (hV.2.cell_ 19 L19)))⟩, ?_⟩; simp only [Act.put, lsA, lsB, lsC])
   simp only [SeqC]
   clear S1 X1 L0 LA L19 L20
   obtain ⟨W0, hW0⟩ : ∃ W0, Hid (w1.drew = W0) := ⟨_, Hh rfl⟩
   rw [hW0.out] at hS ⊢
   clear hW0
   refine held_two 1 9 (by kernel_rfl) ?_ ?_
   ·
    have NB := Blk.new W0 9 nm5
    have hS2 : Below w.heap.size w (W0.alloc (.cells nm5.toArray 9)) ∧ Blk (W0.alloc (.cells nm5.toArray 9)) gq 33 cs := ⟨below_then hS.1 hS.1.size ((Below.refl _ _).alloc (Nat.le_refl _) _), hS.2.below ((Below.refl _ _).alloc (Nat.le_refl _) _) hS.2.lt⟩
    refine op_run 1 (some 25) rfl rfl (by kernel_rfl) (exec_bt5 (.const (.string ⟨#[]⟩)) (.const (.string ⟨#[115, 101, 110, 100, 32]⟩)) (.const (.string ⟨#[100, 105, 97, 108, 32]⟩)) (.const (.string ⟨#[119, 114, 105, 116, 101, 32]⟩)) (.const (.string ⟨#[104, 97, 110, 103, 32]⟩)) rfl rfl rfl rfl rfl rfl) ⟨hS2, ?_⟩
    simp only [Act.put, lsA, lsB, lsC]
    clear hS
    have hS := hS2
    clear hS2
    generalize W0.heap.size = g1 at NB ⊢
    obtain ⟨V1, hV⟩ : ∃ V1, Hid (W0.alloc (.cells nm5.toArray 9) = V1) := ⟨_, Hh rfl⟩
    have hV3 : W0.alloc (.cells #[.string ⟨#[]⟩, .string ⟨#[115, 101, 110, 100, 32]⟩, .string ⟨#[100, 105, 97, 108, 32]⟩, .string ⟨#[119, 114, 105, 116, 101, 32]⟩, .string ⟨#[104, 97, 110, 103, 32]⟩] 9) = V1 := hV.out
    rw [hV.out] at NB hS
    rw [hV3]
    clear hV hV3
    refine held_seq hS 1 [4] rfl (by kernel_rfl) (fun _ _ _ _ _ h => h) rfl rfl ?_
    (refine ⟨_, (.pointer (some ⟨g1, m, none⟩)), rfl, .inl ⟨rfl, fun V hV => (by go_simp)⟩, ?_⟩; simp only [Act.put, lsA, lsB, lsC])
    simp only [SeqC]
    refine held_two 5 9 (by kernel_rfl) ?_ ?_
    ·
     refine op_run 5 (some 29) rfl rfl (by kernel_rfl) (exec_ld 9 (.tmp 28) ⟨g1, m, none⟩ rfl rfl (run_load1 underlying9 rfl (NB.cell_ m N5.out))) ⟨hS, ?_⟩
     simp only [Act.put, lsA, lsB, lsC]
     refine held_seq hS 1 [6] rfl (by kernel_rfl) (fun _ _ _ _ _ h => h) rfl rfl ?_
     (refine ⟨_, (.string (bs (P ++ nm))), rfl, .inl ⟨rfl, fun V hV => (by go_simp; omega)⟩, ?_⟩; simp only [Act.put, lsA, lsB, lsC])
     simp only [SeqC]
     refine held_call 9 (some 33) 30 #[.agg x.to_.cells.toArray] (by kernel_rfl) rfl rfl (by kernel_rfl) (by go_simp) (AT.out _) ?_
     rintro _ V2 ⟨rfl, b1⟩
     have hS2 : Below w.heap.size w V2 ∧ Blk V2 gq 33 cs := ⟨below_then hS.1 hS.1.size b1, hS.2.below b1 hS.2.lt⟩
     have NB2 := NB.below b1 NB.lt
     clear NB
     have NB := NB2
     clear NB2
     clear hS b1
     have hS := hS2
     clear hS2
     refine ⟨_, rfl, hS, ?_⟩
     simp only [Act.put, lsA, lsB, lsC]
     refine held_seq hS 2 [10,11] rfl (by kernel_rfl) (fun _ _ _ _ _ h => h) rfl rfl ?_
     (refine ⟨_, (.string (bs (P ++ nm ++ ta))), rfl, .inl ⟨rfl, fun V hV => (by go_simp; omega)⟩, ?_⟩; simp only [Act.put, lsA, lsB, lsC])
     (refine ⟨_, (.string (bs (P ++ nm ++ ta ++ [32]))), rfl, .inl ⟨rfl, fun V hV => (by go_simp; omega)⟩, ?_⟩; simp only [Act.put, lsA, lsB, lsC])
     simp only [SeqC]
     refine held_call 14 (some 38) 31 #[.int .i64 x.port] (by kernel_rfl) rfl rfl (by kernel_rfl) (by go_simp) (DG.out _) ?_
     rintro _ _ ⟨rfl, rfl⟩
     refine ⟨_, rfl, hS, ?_⟩
     simp only [Act.put, lsA, lsB, lsC]
     refine held_seq hS 2 [15,16] rfl (by kernel_rfl) (fun _ _ _ _ _ h => h) rfl rfl ?_
     (refine ⟨_, (.string (bs (P ++ nm ++ ta ++ [32] ++ tp))), rfl, .inl ⟨rfl, fun V hV => (by go_simp; omega)⟩, ?_⟩; simp only [Act.put, lsA, lsB, lsC])
     (refine ⟨_, (.string (bs (P ++ nm ++ ta ++ [32] ++ tp))), rfl, .inl ⟨rfl, fun V hV => rfl⟩, ?_⟩; simp only [Act.put, lsA, lsB, lsC])
     simp only [SeqC]
     refine wpAnyH_done (by kernel_rfl) ?_ _
     go_wp2_with fail
     go_meet
     case rel => exact ⟨by simp, hS⟩
    ·
     refine op_call 9 (some 33) 30 #[.agg x.to_.cells.toArray] rfl rfl (by kernel_rfl) (by go_simp) (AT.out _) ?_
     rintro _ V3 ⟨rfl, b1⟩
     have hS2 : Below w.heap.size w V3 ∧ Blk V3 gq 33 cs := ⟨below_then hS.1 hS.1.size b1, hS.2.below b1 hS.2.lt⟩
     have NB2 := NB.below b1 NB.lt
     clear NB
     have NB := NB2
     clear NB2
     clear hS b1
     have hS := hS2
     clear hS2
     refine ⟨_, rfl, hS, ?_⟩
     simp only [Act.put, lsA, lsB, lsC]
     refine held_two 5 14 (by kernel_rfl) ?_ ?_
     ·
      refine op_run 5 (some 29) rfl rfl (by kernel_rfl) (exec_ld 9 (.tmp 28) ⟨g1, m, none⟩ rfl rfl (run_load1 underlying9 rfl (NB.cell_ m N5.out))) ⟨hS, ?_⟩
      simp only [Act.put, lsA, lsB, lsC]
      refine held_seq hS 1 [6] rfl (by kernel_rfl) (fun _ _ _ _ _ h => h) rfl rfl ?_
      (refine ⟨_, (.string (bs (P ++ nm))), rfl, .inl ⟨rfl, fun V hV => (by go_simp; omega)⟩, ?_⟩; simp only [Act.put, lsA, lsB, lsC])
      simp only [SeqC]
      refine held_seq hS 2 [10,11] rfl (by kernel_rfl) (fun _ _ _ _ _ h => h) rfl rfl ?_
      (refine ⟨_, (.string (bs (P ++ nm ++ ta))), rfl, .inl ⟨rfl, fun V hV => (by go_simp; omega)⟩, ?_⟩; simp only [Act.put, lsA, lsB, lsC])
      (refine ⟨_, (.string (bs (P ++ nm ++ ta ++ [32]))), rfl, .inl ⟨rfl, fun V hV => (by go_simp; omega)⟩, ?_⟩; simp only [Act.put, lsA, lsB, lsC])
      simp only [SeqC]
      refine held_call 14 (some 38) 31 #[.int .i64 x.port] (by kernel_rfl) rfl rfl (by kernel_rfl) (by go_simp) (DG.out _) ?_
      rintro _ _ ⟨rfl, rfl⟩
      refine ⟨_, rfl, hS, ?_⟩
      simp only [Act.put, lsA, lsB, lsC]
      refine held_seq hS 2 [15,16] rfl (by kernel_rfl) (fun _ _ _ _ _ h => h) rfl rfl ?_
      (refine ⟨_, (.string (bs (P ++ nm ++ ta ++ [32] ++ tp))), rfl, .inl ⟨rfl, fun V hV => (by go_simp; omega)⟩, ?_⟩; simp only [Act.put, lsA, lsB, lsC])
      (refine ⟨_, (.string (bs (P ++ nm ++ ta ++ [32] ++ tp))), rfl, .inl ⟨rfl, fun V hV => rfl⟩, ?_⟩; simp only [Act.put, lsA, lsB, lsC])
      simp only [SeqC]
      refine wpAnyH_done (by kernel_rfl) ?_ _
      go_wp2_with fail
      go_meet
      case rel => exact ⟨by simp, hS⟩
     ·
      refine op_call 14 (some 38) 31 #[.int .i64 x.port] rfl rfl (by kernel_rfl) (by go_simp) (DG.out _) ?_
      rintro _ _ ⟨rfl, rfl⟩
      refine ⟨_, rfl, hS, ?_⟩
      simp only [Act.put, lsA, lsB, lsC]
      refine held_run 5 (some 29) (by kernel_rfl) rfl rfl (by kernel_rfl) (exec_ld 9 (.tmp 28) ⟨g1, m, none⟩ rfl rfl (run_load1 underlying9 rfl (NB.cell_ m N5.out))) hS ?_
      simp only [Act.put, lsA, lsB, lsC]
      refine held_seq hS 1 [6] rfl (by kernel_rfl) (fun _ _ _ _ _ h => h) rfl rfl ?_
      (refine ⟨_, (.string (bs (P ++ nm))), rfl, .inl ⟨rfl, fun V hV => (by go_simp; omega)⟩, ?_⟩; simp only [Act.put, lsA, lsB, lsC])
      simp only [SeqC]
      refine held_seq hS 2 [10,11] rfl (by kernel_rfl) (fun _ _ _ _ _ h => h) rfl rfl ?_
      (refine ⟨_, (.string (bs (P ++ nm ++ ta))), rfl, .inl ⟨rfl, fun V hV => (by go_simp; omega)⟩, ?_⟩; simp only [Act.put, lsA, lsB, lsC])
      (refine ⟨_, (.string (bs (P ++ nm ++ ta ++ [32]))), rfl, .inl ⟨rfl, fun V hV => (by go_simp; omega)⟩, ?_⟩; simp only [Act.put, lsA, lsB, lsC])
      simp only [SeqC]
      refine held_seq hS 2 [15,16] rfl (by kernel_rfl) (fun _ _ _ _ _ h => h) rfl rfl ?_
      (refine ⟨_, (.string (bs (P ++ nm ++ ta ++ [32] ++ tp))), rfl, .inl ⟨rfl, fun V hV => (by go_simp; omega)⟩, ?_⟩; simp only [Act.put, lsA, lsB, lsC])
      (refine ⟨_, (.string (bs (P ++ nm ++ ta ++ [32] ++ tp))), rfl, .inl ⟨rfl, fun V hV => rfl⟩, ?_⟩; simp only [Act.put, lsA, lsB, lsC])
      simp only [SeqC]
      refine wpAnyH_done (by kernel_rfl) ?_ _
      go_wp2_with fail
      go_meet
      case rel => exact ⟨by simp, hS⟩
   ·
    refine op_call 9 (some 33) 30 #[.agg x.to_.cells.toArray] rfl rfl (by kernel_rfl) (by go_simp) (AT.out _) ?_
    rintro _ V4 ⟨rfl, b1⟩
    have hS2 : Below w.heap.size w V4 ∧ Blk V4 gq 33 cs := ⟨below_then hS.1 hS.1.size b1, hS.2.below b1 hS.2.lt⟩
    clear hS b1
    have hS := hS2
    clear hS2
    refine ⟨_, rfl, hS, ?_⟩
    simp only [Act.put, lsA, lsB, lsC]
    refine held_two 1 14 (by kernel_rfl) ?_ ?_
    ·
     have NB := Blk.new V4 9 nm5
     have hS2 : Below w.heap.size w (V4.alloc (.cells nm5.toArray 9)) ∧ Blk (V4.alloc (.cells nm5.toArray 9)) gq 33 cs := ⟨below_then hS.1 hS.1.size ((Below.refl _ _).alloc (Nat.le_refl _) _), hS.2.below ((Below.refl _ _).alloc (Nat.le_refl _) _) hS.2.lt⟩
     refine op_run 1 (some 25) rfl rfl (by kernel_rfl) (exec_bt5 (.const (.string ⟨#[]⟩)) (.const (.string ⟨#[115, 101, 110, 100, 32]⟩)) (.const (.string ⟨#[100, 105, 97, 108, 32]⟩)) (.const (.string ⟨#[119, 114, 105, 116, 101, 32]⟩)) (.const (.string ⟨#[104, 97, 110, 103, 32]⟩)) rfl rfl rfl rfl rfl rfl) ⟨hS2, ?_⟩
     simp only [Act.put, lsA, lsB, lsC]
     clear hS
     have hS := hS2
     clear hS2
     generalize V4.heap.size = g5 at NB ⊢
     obtain ⟨V5, hV⟩ : ∃ V5, Hid (V4.alloc (.cells nm5.toArray 9) = V5) := ⟨_, Hh rfl⟩
     have hV3 : V4.alloc (.cells #[.string ⟨#[]⟩, .string ⟨#[115, 101, 110, 100, 32]⟩, .string ⟨#[100, 105, 97, 108, 32]⟩, .string ⟨#[119, 114, 105, 116, 101, 32]⟩, .string ⟨#[104, 97, 110, 103, 32]⟩] 9) = V5 := hV.out
     rw [hV.out] at NB hS
     rw [hV3]
     clear hV hV3
     refine held_seq hS 1 [4] rfl (by kernel_rfl) (fun _ _ _ _ _ h => h) rfl rfl ?_
     (refine ⟨_, (.pointer (some ⟨g5, m, none⟩)), rfl, .inl ⟨rfl, fun V hV => (by go_simp)⟩, ?_⟩; simp only [Act.put, lsA, lsB, lsC])
     simp only [SeqC]
     refine held_two 5 14 (by kernel_rfl) ?_ ?_
     ·
      refine op_run 5 (some 29) rfl rfl (by kernel_rfl) (exec_ld 9 (.tmp 28) ⟨g5, m, none⟩ rfl rfl (run_load1 underlying9 rfl (NB.cell_ m N5.out))) ⟨hS, ?_⟩
      simp only [Act.put, lsA, lsB, lsC]
      refine held_seq hS 1 [6] rfl (by kernel_rfl) (fun _ _ _ _ _ h => h) rfl rfl ?_
      (refine ⟨_, (.string (bs (P ++ nm))), rfl, .inl ⟨rfl, fun V hV => (by go_simp; omega)⟩, ?_⟩; simp only [Act.put, lsA, lsB, lsC])
      simp only [SeqC]
      refine held_seq hS 2 [10,11] rfl (by kernel_rfl) (fun _ _ _ _ _ h => h) rfl rfl ?_
      (refine ⟨_, (.string (bs (P ++ nm ++ ta))), rfl, .inl ⟨rfl, fun V hV => (by go_simp; omega)⟩, ?_⟩; simp only [Act.put, lsA, lsB, lsC])
      (refine ⟨_, (.string (bs (P ++ nm ++ ta ++ [32]))), rfl, .inl ⟨rfl, fun V hV => (by go_simp; omega)⟩, ?_⟩; simp only [Act.put, lsA, lsB, lsC])
      simp only [SeqC]
      refine held_call 14 (some 38) 31 #[.int .i64 x.port] (by kernel_rfl) rfl rfl (by kernel_rfl) (by go_simp) (DG.out _) ?_
      rintro _ _ ⟨rfl, rfl⟩
      refine ⟨_, rfl, hS, ?_⟩
      simp only [Act.put, lsA, lsB, lsC]
      refine held_seq hS 2 [15,16] rfl (by kernel_rfl) (fun _ _ _ _ _ h => h) rfl rfl ?_
      (refine ⟨_, (.string (bs (P ++ nm ++ ta ++ [32] ++ tp))), rfl, .inl ⟨rfl, fun V hV => (by go_simp; omega)⟩, ?_⟩; simp only [Act.put, lsA, lsB, lsC])
      (refine ⟨_, (.string (bs (P ++ nm ++ ta ++ [32] ++ tp))), rfl, .inl ⟨rfl, fun V hV => rfl⟩, ?_⟩; simp only [Act.put, lsA, lsB, lsC])
      simp only [SeqC]
      refine wpAnyH_done (by kernel_rfl) ?_ _
      go_wp2_with fail
      go_meet
      case rel => exact ⟨by simp, hS⟩
     ·
      refine op_call 14 (some 38) 31 #[.int .i64 x.port] rfl rfl (by kernel_rfl) (by go_simp) (DG.out _) ?_
      rintro _ _ ⟨rfl, rfl⟩
      refine ⟨_, rfl, hS, ?_⟩
      simp only [Act.put, lsA, lsB, lsC]
      refine held_run 5 (some 29) (by kernel_rfl) rfl rfl (by kernel_rfl) (exec_ld 9 (.tmp 28) ⟨g5, m, none⟩ rfl rfl (run_load1 underlying9 rfl (NB.cell_ m N5.out))) hS ?_
      simp only [Act.put, lsA, lsB, lsC]
      refine held_seq hS 1 [6] rfl (by kernel_rfl) (fun _ _ _ _ _ h => h) rfl rfl ?_
      (refine ⟨_, (.string (bs (P ++ nm))), rfl, .inl ⟨rfl, fun V hV => (by go_simp; omega)⟩, ?_⟩; simp only [Act.put, lsA, lsB, lsC])
      simp only [SeqC]
      refine held_seq hS 2 [10,11] rfl (by kernel_rfl) (fun _ _ _ _ _ h => h) rfl rfl ?_
      (refine ⟨_, (.string (bs (P ++ nm ++ ta))), rfl, .inl ⟨rfl, fun V hV => (by go_simp; omega)⟩, ?_⟩; simp only [Act.put, lsA, lsB, lsC])
      (refine ⟨_, (.string (bs (P ++ nm ++ ta ++ [32]))), rfl, .inl ⟨rfl, fun V hV => (by go_simp; omega)⟩, ?_⟩; simp only [Act.put, lsA, lsB, lsC])
      simp only [SeqC]
      refine held_seq hS 2 [15,16] rfl (by kernel_rfl) (fun _ _ _ _ _ h => h) rfl rfl ?_
      (refine ⟨_, (.string (bs (P ++ nm ++ ta ++ [32] ++ tp))), rfl, .inl ⟨rfl, fun V hV => (by go_simp; omega)⟩, ?_⟩; simp only [Act.put, lsA, lsB, lsC])
      (refine ⟨_, (.string (bs (P ++ nm ++ ta ++ [32] ++ tp))), rfl, .inl ⟨rfl, fun V hV => rfl⟩, ?_⟩; simp only [Act.put, lsA, lsB, lsC])
      simp only [SeqC]
      refine wpAnyH_done (by kernel_rfl) ?_ _
      go_wp2_with fail
      go_meet
      case rel => exact ⟨by simp, hS⟩
    ·
     refine op_call 14 (some 38) 31 #[.int .i64 x.port] rfl rfl (by kernel_rfl) (by go_simp) (DG.out _) ?_
     rintro _ _ ⟨rfl, rfl⟩
     refine ⟨_, rfl, hS, ?_⟩
     simp only [Act.put, lsA, lsB, lsC]
     have NB := Blk.new V4 9 nm5
     have hS2 : Below w.heap.size w (V4.alloc (.cells nm5.toArray 9)) ∧ Blk (V4.alloc (.cells nm5.toArray 9)) gq 33 cs := ⟨below_then hS.1 hS.1.size ((Below.refl _ _).alloc (Nat.le_refl _) _), hS.2.below ((Below.refl _ _).alloc (Nat.le_refl _) _) hS.2.lt⟩
     refine held_run 1 (some 25) (by kernel_rfl) rfl rfl (by kernel_rfl) (exec_bt5 (.const (.string ⟨#[]⟩)) (.const (.string ⟨#[115, 101, 110, 100, 32]⟩)) (.const (.string ⟨#[100, 105, 97, 108, 32]⟩)) (.const (.string ⟨#[119, 114, 105, 116, 101, 32]⟩)) (.const (.string ⟨#[104, 97, 110, 103, 32]⟩)) rfl rfl rfl rfl rfl rfl) hS2 ?_
     simp only [Act.put, lsA, lsB, lsC]
     clear hS
     have hS := hS2
     clear hS2
     generalize V4.heap.size = g6 at NB ⊢
     obtain ⟨V6, hV⟩ : ∃ V6, Hid (V4.alloc (.cells nm5.toArray 9) = V6) := ⟨_, Hh rfl⟩
     have hV3 : V4.alloc (.cells #[.string ⟨#[]⟩, .string ⟨#[115, 101, 110, 100, 32]⟩, .string ⟨#[100, 105, 97, 108, 32]⟩, .string ⟨#[119, 114, 105, 116, 101, 32]⟩, .string ⟨#[104, 97, 110, 103, 32]⟩] 9) = V6 := hV.out
     rw [hV.out] at NB hS
     rw [hV3]
     clear hV hV3
     refine held_seq hS 1 [4] rfl (by kernel_rfl) (fun _ _ _ _ _ h => h) rfl rfl ?_
     (refine ⟨_, (.pointer (some ⟨g6, m, none⟩)), rfl, .inl ⟨rfl, fun V hV => (by go_simp)⟩, ?_⟩; simp only [Act.put, lsA, lsB, lsC])
     simp only [SeqC]
     refine held_run 5 (some 29) (by kernel_rfl) rfl rfl (by kernel_rfl) (exec_ld 9 (.tmp 28) ⟨g6, m, none⟩ rfl rfl (run_load1 underlying9 rfl (NB.cell_ m N5.out))) hS ?_
     simp only [Act.put, lsA, lsB, lsC]
     refine held_seq hS 1 [6] rfl (by kernel_rfl) (fun _ _ _ _ _ h => h) rfl rfl ?_
     (refine ⟨_, (.string (bs (P ++ nm))), rfl, .inl ⟨rfl, fun V hV => (by go_simp; omega)⟩, ?_⟩; simp only [Act.put, lsA, lsB, lsC])
     simp only [SeqC]
     refine held_seq hS 2 [10,11] rfl (by kernel_rfl) (fun _ _ _ _ _ h => h) rfl rfl ?_
     (refine ⟨_, (.string (bs (P ++ nm ++ ta))), rfl, .inl ⟨rfl, fun V hV => (by go_simp; omega)⟩, ?_⟩; simp only [Act.put, lsA, lsB, lsC])
     (refine ⟨_, (.string (bs (P ++ nm ++ ta ++ [32]))), rfl, .inl ⟨rfl, fun V hV => (by go_simp; omega)⟩, ?_⟩; simp only [Act.put, lsA, lsB, lsC])
     simp only [SeqC]
     refine held_seq hS 2 [15,16] rfl (by kernel_rfl) (fun _ _ _ _ _ h => h) rfl rfl ?_
     (refine ⟨_, (.string (bs (P ++ nm ++ ta ++ [32] ++ tp))), rfl, .inl ⟨rfl, fun V hV => (by go_simp; omega)⟩, ?_⟩; simp only [Act.put, lsA, lsB, lsC])
     (refine ⟨_, (.string (bs (P ++ nm ++ ta ++ [32] ++ tp))), rfl, .inl ⟨rfl, fun V hV => rfl⟩, ?_⟩; simp only [Act.put, lsA, lsB, lsC])
     simp only [SeqC]
     refine wpAnyH_done (by kernel_rfl) ?_ _
     go_wp2_with fail
     go_meet
     case rel => exact ⟨by simp, hS⟩
  obtain ⟨rfl, S, X⟩ := hcut
  have d0 := X.cell_ 0 L0
  have d20 := X.cell_ 20 L20
  clear S1 X1 AT DG N5
  have hsp : (P ++ nm ++ ta ++ [32] ++ tp).length ≤ 4300000 := by
   simp only [List.length_append, List.length_cons, List.length_nil]; omega
  by_cases h13 : m = 1 ∨ m = 3
  case pos =>
   have HX2 : Hid ((l.take (k + 1)).flatMap outT = P ++ nm ++ ta ++ [32] ++ tp ++ [32] ++ th ++ [10]) := Hh (by rw [HX.out, HOs.out h13]; simp)
   clear HX HOs HOd
   generalize P ++ nm ++ ta ++ [32] ++ tp = q at *
   rcases h13 with rfl | rfl
   ·
    go_wp2_with fail
    refine (HE.out _).mono ?_
    rintro _ V3 ⟨rfl, b1⟩
    have S3 := below_then S S.size b1
    clear HE S b1 d20 d0 X
    have S := S3
    clear S3
    go_wp2_with fail
    go_roundw
    case rel => exact ⟨k + 1, by omega, by go_num, by rw [HX2.out]; try simp, S⟩
    case measure => simp [intOf]; omega
   ·
    go_wp2_with fail
    refine (HE.out _).mono ?_
    rintro _ V3 ⟨rfl, b1⟩
    have S3 := below_then S S.size b1
    clear HE S b1 d20 d0 X
    have S := S3
    clear S3
    go_wp2_with fail
    go_roundw
    case rel => exact ⟨k + 1, by omega, by go_num, by rw [HX2.out]; try simp, S⟩
    case measure => simp [intOf]; omega
  have h24 : m = 2 ∨ m = 4 := by omega
  have HX2 : Hid ((l.take (k + 1)).flatMap outT = P ++ nm ++ ta ++ [32] ++ tp ++ [10]) := Hh (by rw [HX.out, HOd.out h24]; simp)
  clear HX HOs HOd HE h13
  generalize P ++ nm ++ ta ++ [32] ++ tp = q at *
  rcases h24 with rfl | rfl
  ·
   go_wp2_with fail
   go_roundw
   case rel => exact ⟨k + 1, by omega, by go_num, by rw [HX2.out]; try simp, S⟩
   case measure => simp [intOf]; omega
  ·
   go_wp2_with fail
   go_roundw
   case rel => exact ⟨k + 1, by omega, by go_num, by rw [HX2.out]; try simp, S⟩
   case measure => simp [intOf]; omega
 obtain rfl : k = l.length := by omega
 have hlt' : ¬ (l.length : Int) < l.length := by omega
 rw [List.take_of_length_le (Nat.le_refl _)]
 clear LL HLL hlt hql
 generalize l.flatMap outT = R at *
 go_wp2_with fail
 go_ret
 exact RetB.mk rfl S
end Go.Proofs.YtkcbffldncmbcaaGreatDoor

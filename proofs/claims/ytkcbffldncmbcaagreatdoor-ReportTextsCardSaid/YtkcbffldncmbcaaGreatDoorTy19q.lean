/-
  Layer 47: what was done, in lines: report.Outs.
-/
import Derived.Test.YtkcbffldncmbcaaGreatDoorTy18q
import Derived.Test.YtkcbffldncmbcaaGreatDoorHXq
namespace Go.Proofs.YtkcbffldncmbcaaGreatDoor
open _root_.Go.Proofs.Tryz
open Go.RowKit
set_option maxRecDepth 100000
set_option linter.unusedVariables false
set_option linter.unusedSimpArgs false
def OuB (cs : List Value) (o : Ou) : Prop := cs = ouC o ∧ o.to_.ip.length = 16 ∧ I64 o.to_.zone ∧ I64 o.port ∧ o.data.length ≤ 20000
def outL (o : Ou) : List (List UInt8) :=
 if o.kind = 1 then [[115, 101, 110, 100], adrT o.to_, Lib.itoa o.port, hexT o.data]
 else if o.kind = 2 then [[100, 105, 97, 108], adrT o.to_, Lib.itoa o.port]
 else if o.kind = 3 then [[119, 114, 105, 116, 101], adrT o.to_, Lib.itoa o.port, hexT o.data]
 else if o.kind = 4 then [[104, 97, 110, 103], adrT o.to_, Lib.itoa o.port]
 else []
def outT (o : Ou) : List UInt8 := if outL o = [] then [] else joinC 32 (outL o) ++ [10]
theorem hexT_len (l : List UInt8) : (hexT l).length ≤ 2 * l.length + 1 := by
 unfold hexT
 split
 ·
  simp
 ·
  rw [hexL_len]; omega
theorem outT_1 {o : Ou} (h : o.kind = 1) : outT o = joinC 32 [[115, 101, 110, 100], adrT o.to_, Lib.itoa o.port, hexT o.data] ++ [10] := by simp [outT, outL, h]
theorem outT_2 {o : Ou} (h : o.kind = 2) : outT o = joinC 32 [[100, 105, 97, 108], adrT o.to_, Lib.itoa o.port] ++ [10] := by simp [outT, outL, h]
theorem outT_3 {o : Ou} (h : o.kind = 3) : outT o = joinC 32 [[119, 114, 105, 116, 101], adrT o.to_, Lib.itoa o.port, hexT o.data] ++ [10] := by simp [outT, outL, h]
theorem outT_4 {o : Ou} (h : o.kind = 4) : outT o = joinC 32 [[104, 97, 110, 103], adrT o.to_, Lib.itoa o.port] ++ [10] := by simp [outT, outL, h]
theorem outT_0 {o : Ou} (h1 : o.kind ≠ 1) (h2 : o.kind ≠ 2) (h3 : o.kind ≠ 3) (h4 : o.kind ≠ 4) : outT o = [] := by simp [outT, outL, h1, h2, h3, h4]
theorem outT_len {o : Ou} (hz : I64 o.to_.zone) (hp : I64 o.port) (hd : o.data.length ≤ 20000) : (outT o).length ≤ 42000 := by
 have h1 := adrT_len o.to_ hz
 have h2 := itoa_len o.port hp.1 hp.2
 have h3 := hexT_len o.data
 by_cases k1 : o.kind = 1
 ·
  rw [outT_1 k1]; simp [joinC]; omega
 by_cases k2 : o.kind = 2
 ·
  rw [outT_2 k2]; simp [joinC]; omega
 by_cases k3 : o.kind = 3
 ·
  rw [outT_3 k3]; simp [joinC]; omega
 by_cases k4 : o.kind = 4
 ·
  rw [outT_4 k4]; simp [joinC]; omega
 rw [outT_0 k1 k2 k3 k4]; simp
theorem ouInfo21 : (prog.info? 33).map (·.size) = some 21 := by kernel_rfl
def ouZ : List Value := ouC ⟨0, Adr.zero, 0, []⟩
theorem ouC1 (o : Ou) : ∀ v ∈ ouC o, v.oneCell' = true := by
 intro v hv
 rcases List.mem_cons.1 hv with rfl | hv
 ·
  rfl
 rcases List.mem_append.1 hv with hv | hv
 ·
  exact o.to_.cells_one v hv
 ·
  simp at hv; rcases hv with rfl | rfl <;> rfl
theorem wstr_any (b : Nat) (q t : List UInt8) (w : World) (h : BT w b q) (hl : q.length + t.length ≤ 200000000) : Calls prog 17 #[.pointer (some ⟨b, 0, none⟩), .string (bs t)] w (fun e w' => e = .returned (.tuple #[.int .i64 t.length, .nilIface]) ∧ BT w' b (q ++ t) ∧ Below b w w' ∧ OK1 b w w') := by
 have W : Calls prog 17 #[.pointer (some ⟨b, 0, none⟩), .string (bs t)] w fun e w' => e = .returned (.tuple #[.int .i64 (bs t).size, .nilIface]) ∧ (Lib.BuilderAtF 57 5 b b (.pointer (some ⟨b, 0, none⟩)) (octs q ++ Lib.strCells (bs t)) w' ∧ Below b w w' ∧ OK1 b w w') := Any.Builder_WriteString_k Tryz.lays166 Tryz.Builder_Extra_166 b b (octs q) (bs t) w h (by rw [octs_length, bs_size]; omega) (Nat.le_of_lt h.lt)
 refine W.mono ?_
 rintro e w' ⟨rfl, h1, h2, h3⟩
 rw [strCells_bs, ← octs_app] at h1
 exact ⟨by rw [bs_size], .inr h1, h2, h3⟩
theorem wbyt_any (b : Nat) (q : List UInt8) (w : World) (h : BT w b q) (hl : q.length ≤ 200000000) : Calls prog 19 #[.pointer (some ⟨b, 0, none⟩), .int .u8 10] w (fun e w' => e = .returned .nilIface ∧ BT w' b (q ++ [10]) ∧ Below b w w' ∧ OK1 b w w') := by
 have W : Calls prog 19 #[.pointer (some ⟨b, 0, none⟩), .int .u8 10] w fun e w' => e = .returned .nilIface ∧ (Lib.BuilderAtF 57 5 b b (.pointer (some ⟨b, 0, none⟩)) (octs q ++ [.int .u8 10]) w' ∧ Below b w w' ∧ OK1 b w w') := Any.Builder_WriteByte_k Tryz.lays167 Tryz.Builder_Extra_167 b b (octs q) 10 w h (by rw [octs_length]; omega) (Nat.le_of_lt h.lt)
 refine W.mono ?_
 rintro e w' ⟨rfl, h1, h2, h3⟩
 have e : octs (q ++ [10]) = octs q ++ [.int .u8 10] := by rw [octs_app]; rfl
 rw [← e] at h1
 exact ⟨rfl, .inr h1, h2, h3⟩
theorem bstr_any (b : Nat) (q : List UInt8) (w : World) (h : BT w b q) : Calls prog 27 #[.pointer (some ⟨b, 0, none⟩)] w (fun e w' => e = .returned (.string (bs q)) ∧ Below b w w') := by
 have W : Calls prog 27 #[.pointer (some ⟨b, 0, none⟩)] w fun e w' => e = .returned (.string (bs q)) ∧ (Lib.IsBuilderF 57 5 b b (Lib.byteCells q) w' ∧ Below b w w' ∧ OK1 b w w') := Any.Builder_String_any_k Tryz.lays169 Tryz.Builder_Extra_169 b b q w h (Nat.le_of_lt h.lt)
 refine W.mono ?_
 rintro e w' ⟨rfl, _, h2, _⟩
 exact ⟨rfl, h2⟩
theorem outs_len {w : World} {A : Option Addr} {l : List Ou} (h : LIn w 21 OuB A l) : ∀ x ∈ l, (outT x).length ≤ 42000 := by
 intro x hx
 obtain ⟨i, hi, rfl⟩ := List.getElem_of_mem hx
 obtain ⟨ba, oa, _, _, xa⟩ := h (by omega)
 obtain ⟨cs, _, hc⟩ := xa i hi
 exact outT_len hc.2.2.1 hc.2.2.2.1 hc.2.2.2.2
set_option maxHeartbeats 8000000 in
theorem souts_any (l : List Ou) (A : Option Addr) (c : Nat) (w : World) (hT : Tb w) (hL : LIn w 21 OuB A l) (hl : l.length ≤ 100) : Calls prog 9 #[.slice A l.length c] w (RetB (.string (bs (l.flatMap outT))) w) := by
 have LL : Hid (∀ k, ((l.take k).flatMap outT).length ≤ 42000 * l.length) := Hh (fun k => fm_take outT 42000 l (outs_len hL) k)
 have HTb := Hh hT
 have HLL := Hh hL
 clear hT hL
 go_enter func9, ntmps9
 go_wp2_with fail
 go_loopw [10] (fun iv wr => ∃ k : Nat, k ≤ l.length ∧ iv = .int .i64 k ∧ Below w.heap.size w wr ∧ BT wr w.heap.size ((l.take k).flatMap outT)) (fun iv _ => l.length - (intOf iv).toNat)
 case atStart => exact ⟨0, Nat.zero_le _, rfl, (Below.refl _ _).alloc (Nat.le_refl _) _, BT.fresh w⟩
 obtain ⟨k, hk, rfl, S, B⟩ := hrel
 have hql : ((l.take k).flatMap outT).length ≤ 4200000 := by
  have := LL.out k
  omega
 by_cases hlt : k < l.length
 case pos =>
  have hlt' : (k : Int) < l.length := by omega
  obtain ⟨ba, oa, hAi, la, xa⟩ := HLL.out (by omega)
  subst hAi
  obtain ⟨cs, hcs, hci⟩ := xa k hlt
  have hcs1 := range_below hcs S la
  have HX : Hid ((l.take (k + 1)).flatMap outT = (l.take k).flatMap outT ++ outT l[k]) := Hh (fm_next outT hlt)
  generalize l[k] = x at *
  generalize (l.take k).flatMap outT = P at *
  have hcl : cs.length = 21 := by rw [hci.1]; exact ouC_len hci.2.1
  have hone : ∀ v ∈ cs, v.oneCell' = true := by rw [hci.1]; exact ouC1 x
  clear xa hcs LL
  have Zq := Blk.new wr 33 ouZ
  have kn0 : Below wr.heap.size wr (wr.alloc (.cells ouZ.toArray 33)) := (Below.refl _ _).alloc (Nat.le_refl _) _
  go_wp2_with (first
   | (refine at_op (.load 33 (.tmp 12)) rfl ?_; go_must (refine wpList_ldR rfl 33 (.tmp 12) rfl ba (oa + k * 21) rfl cs hcs1 _ underlying33 rfl (by rw [hcl]; exact ouInfo21) ?_))
   | (refine at_op (.store 33 (.tmp 5) (.tmp 13)) rfl ?_; go_must (refine wpList_stB rfl _ _ _ rfl wr.heap.size 0 rfl cs rfl Zq (by rw [hcl]; decide) (by rw [hcl]; exact ouInfo21) hone ?_)))
  intro w1 B1 g1 sw
  clear sw
  have hzl : ouZ.length = 21 := rfl
  have X1 := blkAll B1 (by omega)
  have kn : Below wr.heap.size wr w1 := below_grown kn0 g1 (by simp) (Nat.le_refl _)
  have S1 := below_then S S.size kn
  have T1 := B.below kn
  have L0 : cs[0]? = some (.int .i64 x.kind) := by rw [hci.1]; rfl
  have LA : (cs.drop 1).take 18 = x.to_.cells := by rw [hci.1]; exact ouC_ad hci.2.1
  have L19 : cs[19]? = some (.int .i64 x.port) := by rw [hci.1]; exact ouC_at hci.2.1 0
  have L20 : cs[20]? = some (.string (bs x.data)) := by rw [hci.1]; exact ouC_at hci.2.1 1
  have l1 := adrT_len x.to_ hci.2.2.1
  have l2 := itoa_len x.port hci.2.2.2.1.1 hci.2.2.2.1.2
  have l3 := hexT_len x.data
  have ld := hci.2.2.2.2
  have AT := Hh (fun V (hV : Below w.heap.size w V) => adrText_any x.to_ hci.2.1 hci.2.2.1.2 V (HTb.out.below hV))
  have DG := Hh (fun V (hV : Below w.heap.size w V) => digits_any x.port hci.2.2.2.1.1 hci.2.2.2.1.2 V (HTb.out.below hV))
  have HE := Hh (fun V => shex_any x.data (by omega) V)
  obtain ⟨gq, hgq⟩ : ∃ gq, Hid (wr.heap.size = gq) := ⟨_, Hh rfl⟩
  rw [hgq.out] at X1 ⊢
  clear B1 g1 Zq kn S B hcs1 hci hone hgq kn0
  go_wp2_with fail
  refine wp_region_held_drew (S := fun V => Below w.heap.size w V ∧ Blk V gq 33 cs) (by kernel_rfl) ⟨S1.drew, X1⟩ (fun hS => ?_)
  refine held_seq hS 4 [0,1,3,4] rfl (by kernel_rfl) (fun _ _ _ _ _ h => h) rfl rfl ?_
  (refine ⟨_, (.pointer (some ⟨gq, 1, none⟩)), rfl, .inl ⟨rfl, fun V hV => rfl⟩, ?_⟩; simp only [Act.put, lsA, lsB, lsC])
  (refine ⟨_, _, rfl, .inl ⟨rfl, fun V hV => (exec_ld 31 (.tmp 14) ⟨gq, 1, none⟩ rfl rfl (hV.2.loads 31 1 18 (by omega) _ underlying31 rfl adrInfo x.to_.cells LA))⟩, ?_⟩; simp only [Act.put, lsA, lsB, lsC])
  (refine ⟨_, (.pointer (some ⟨gq, 19, none⟩)), rfl, .inl ⟨rfl, fun V hV => rfl⟩, ?_⟩; simp only [Act.put, lsA, lsB, lsC])
  (refine ⟨_, _, rfl, .inl ⟨rfl, fun V hV => (exec_ld 3 (.tmp 17) ⟨gq, 19, none⟩ rfl rfl (run_load1 underlying3 rfl (hV.2.cell_ 19 L19)))⟩, ?_⟩; simp only [Act.put, lsA, lsB, lsC])
  simp only [SeqC]
  have T1 : BT w1.drew w.heap.size P := T1
  clear LA L19 X1 S1
  refine held_call 2 (some 16) 23 #[.agg x.to_.cells.toArray] (by kernel_rfl) rfl rfl (by kernel_rfl) (by go_simp) (AT.out _ hS.1) ?_
  rintro _ V1 ⟨rfl, b1⟩
  have hS1 : Below w.heap.size w V1 ∧ Blk V1 gq 33 cs := ⟨below_then hS.1 hS.1.size b1, hS.2.below b1 hS.2.lt⟩
  have T2 := T1.below b1
  clear hS T1 b1 AT
  refine ⟨_, rfl, hS1, ?_⟩
  simp only [Act.put, lsA, lsB, lsC]
  refine held_call 5 (some 19) 24 #[.int .i64 x.port] (by kernel_rfl) rfl rfl (by kernel_rfl) (by go_simp) (DG.out _ hS1.1) ?_
  rintro _ V2 ⟨rfl, b1⟩
  have hS : Below w.heap.size w V2 ∧ Blk V2 gq 33 cs := ⟨below_then hS1.1 hS1.1.size b1, hS1.2.below b1 hS1.2.lt⟩
  have T := T2.below b1
  clear hS1 T2 b1 DG
  refine ⟨_, rfl, hS, ?_⟩
  simp only [Act.put, lsA, lsB, lsC]
  refine held_seq hS 2 [6,7] rfl (by kernel_rfl) (fun _ _ _ _ _ h => h) rfl rfl ?_
  (refine ⟨_, (.string (bs (adrT x.to_))), rfl, .inl ⟨rfl, fun V hV => rfl⟩, ?_⟩; simp only [Act.put, lsA, lsB, lsC])
  (refine ⟨_, (.string (bs (Lib.itoa x.port))), rfl, .inl ⟨rfl, fun V hV => rfl⟩, ?_⟩; simp only [Act.put, lsA, lsB, lsC])
  simp only [SeqC]
  refine wpAnyH_done (by kernel_rfl) ?_ _
  have S := hS.1
  have d0 := hS.2.cell_ 0 L0
  have d20 := hS.2.cell_ 20 L20
  have O1 := Hh (outT_1 (o := x))
  have O2 := Hh (outT_2 (o := x))
  have O3 := Hh (outT_3 (o := x))
  have O4 := Hh (outT_4 (o := x))
  have O0 := Hh (outT_0 (o := x))
  clear hS L0 L20 HLL
  generalize adrT x.to_ = ta at *
  generalize Lib.itoa x.port = tp at *
  generalize hexT x.data = th at *
  generalize outT x = tz at *
  generalize x.kind = kd at *
  by_cases h1 : kd = 1
  case pos =>
   have HO := Hh (O1.out h1)
   subst h1
   clear O1 O2 O3 O4 O0
   go_wp2_with fail
   refine (HE.out _).mono ?_
   rintro _ V3 ⟨rfl, b1⟩
   have S3 := below_then S S.size b1
   have T3 := T.below b1
   clear HE S T b1 d0 d20
   have kn : Below V3.heap.size V3 (V3.alloc (.cells #[.string (bs [115, 101, 110, 100]), .string (bs ta), .string (bs tp), .string (bs th)] 9)) := (Below.refl _ _).alloc (Nat.le_refl _) _
   have NB := Blk.new V3 9 [.string (bs [115, 101, 110, 100]), .string (bs ta), .string (bs tp), .string (bs th)]
   have S4 := below_then S3 S3.size kn
   have T4 := T3.below kn
   have JN := Hh (join_any 32 ⟨V3.heap.size, 0, none⟩ 4 [[115, 101, 110, 100], ta, tp, th] _ (fun i hi => by show World.cell? _ ⟨V3.heap.size, 0 + i, none⟩ = _; rw [Nat.zero_add]; exact NB.cell_ i (by
    have hi4 : i < 4 := hi
    match i, hi4 with
    | 0, _ | 1, _ | 2, _ | 3, _ => rfl)) rfl NB.lt (Nat.le_refl 4) (show 4 ≤ 100000 by decide) (by simp [joinC]; omega))
   have lj : (joinC 32 [[115, 101, 110, 100], ta, tp, th]).length ≤ 42000 := by simp [joinC]; omega
   clear NB S3 T3 kn
   generalize joinC 32 [[115, 101, 110, 100], ta, tp, th] = tj at *
   go_wp2_with fail
   refine JN.out.mono ?_
   rintro _ V5 ⟨rfl, b1⟩
   have S5 := below_then S4 S4.size b1
   have T5 := T4.below b1
   have WS := Hh (wstr_any w.heap.size P tj V5 T5 (by omega))
   clear JN S4 T4 b1 T5
   go_wp2_with fail
   refine WS.out.mono ?_
   rintro _ V6 ⟨rfl, T6, b1, _⟩
   have S6 := S5.trans b1
   have WB := Hh (wbyt_any w.heap.size (P ++ tj) V6 T6 (by rw [List.length_append]; omega))
   clear WS S5 b1 T6
   go_wp2_with fail
   refine WB.out.mono ?_
   rintro _ V7 ⟨rfl, T7, b1, _⟩
   have S7 := S6.trans b1
   rw [List.append_assoc, ← HO.out, ← HX.out] at T7
   clear WB S6 b1
   go_wp2_with fail
   go_roundw
   case rel => exact ⟨k + 1, by omega, by go_num, S7, T7⟩
   case measure => simp [intOf]; omega
  have e1 : (kd == 1) = false := by simpa using h1
  by_cases h2 : kd = 2
  case pos =>
   have HO := Hh (O2.out h2)
   subst h2
   clear O1 O2 O3 O4 O0 h1
   go_wp2_with fail
   have S3 := S
   have T3 := T
   clear HE S T d0 d20
   have kn : Below V2.heap.size V2 (V2.alloc (.cells #[.string (bs [100, 105, 97, 108]), .string (bs ta), .string (bs tp)] 9)) := (Below.refl _ _).alloc (Nat.le_refl _) _
   have NB := Blk.new V2 9 [.string (bs [100, 105, 97, 108]), .string (bs ta), .string (bs tp)]
   have S4 := below_then S3 S3.size kn
   have T4 := T3.below kn
   have JN := Hh (join_any 32 ⟨V2.heap.size, 0, none⟩ 3 [[100, 105, 97, 108], ta, tp] _ (fun i hi => by show World.cell? _ ⟨V2.heap.size, 0 + i, none⟩ = _; rw [Nat.zero_add]; exact NB.cell_ i (by
    have hi4 : i < 3 := hi
    match i, hi4 with
    | 0, _ | 1, _ | 2, _ => rfl)) rfl NB.lt (Nat.le_refl 3) (show 3 ≤ 100000 by decide) (by simp [joinC]; omega))
   have lj : (joinC 32 [[100, 105, 97, 108], ta, tp]).length ≤ 42000 := by simp [joinC]; omega
   clear NB S3 T3 kn
   generalize joinC 32 [[100, 105, 97, 108], ta, tp] = tj at *
   refine JN.out.mono ?_
   rintro _ V5 ⟨rfl, b1⟩
   have S5 := below_then S4 S4.size b1
   have T5 := T4.below b1
   have WS := Hh (wstr_any w.heap.size P tj V5 T5 (by omega))
   clear JN S4 T4 b1 T5
   go_wp2_with fail
   refine WS.out.mono ?_
   rintro _ V6 ⟨rfl, T6, b1, _⟩
   have S6 := S5.trans b1
   have WB := Hh (wbyt_any w.heap.size (P ++ tj) V6 T6 (by rw [List.length_append]; omega))
   clear WS S5 b1 T6
   go_wp2_with fail
   refine WB.out.mono ?_
   rintro _ V7 ⟨rfl, T7, b1, _⟩
   have S7 := S6.trans b1
   rw [List.append_assoc, ← HO.out, ← HX.out] at T7
   clear WB S6 b1
   go_wp2_with fail
   go_roundw
   case rel => exact ⟨k + 1, by omega, by go_num, S7, T7⟩
   case measure => simp [intOf]; omega
  have e2 : (kd == 2) = false := by simpa using h2
  by_cases h3 : kd = 3
  case pos =>
   have HO := Hh (O3.out h3)
   subst h3
   clear O1 O2 O3 O4 O0 h1 h2
   go_wp2_with fail
   refine (HE.out _).mono ?_
   rintro _ V3 ⟨rfl, b1⟩
   have S3 := below_then S S.size b1
   have T3 := T.below b1
   clear HE S T b1 d0 d20
   have kn : Below V3.heap.size V3 (V3.alloc (.cells #[.string (bs [119, 114, 105, 116, 101]), .string (bs ta), .string (bs tp), .string (bs th)] 9)) := (Below.refl _ _).alloc (Nat.le_refl _) _
   have NB := Blk.new V3 9 [.string (bs [119, 114, 105, 116, 101]), .string (bs ta), .string (bs tp), .string (bs th)]
   have S4 := below_then S3 S3.size kn
   have T4 := T3.below kn
   have JN := Hh (join_any 32 ⟨V3.heap.size, 0, none⟩ 4 [[119, 114, 105, 116, 101], ta, tp, th] _ (fun i hi => by show World.cell? _ ⟨V3.heap.size, 0 + i, none⟩ = _; rw [Nat.zero_add]; exact NB.cell_ i (by
    have hi4 : i < 4 := hi
    match i, hi4 with
    | 0, _ | 1, _ | 2, _ | 3, _ => rfl)) rfl NB.lt (Nat.le_refl 4) (show 4 ≤ 100000 by decide) (by simp [joinC]; omega))
   have lj : (joinC 32 [[119, 114, 105, 116, 101], ta, tp, th]).length ≤ 42000 := by simp [joinC]; omega
   clear NB S3 T3 kn
   generalize joinC 32 [[119, 114, 105, 116, 101], ta, tp, th] = tj at *
   go_wp2_with fail
   refine JN.out.mono ?_
   rintro _ V5 ⟨rfl, b1⟩
   have S5 := below_then S4 S4.size b1
   have T5 := T4.below b1
   have WS := Hh (wstr_any w.heap.size P tj V5 T5 (by omega))
   clear JN S4 T4 b1 T5
   go_wp2_with fail
   refine WS.out.mono ?_
   rintro _ V6 ⟨rfl, T6, b1, _⟩
   have S6 := S5.trans b1
   have WB := Hh (wbyt_any w.heap.size (P ++ tj) V6 T6 (by rw [List.length_append]; omega))
   clear WS S5 b1 T6
   go_wp2_with fail
   refine WB.out.mono ?_
   rintro _ V7 ⟨rfl, T7, b1, _⟩
   have S7 := S6.trans b1
   rw [List.append_assoc, ← HO.out, ← HX.out] at T7
   clear WB S6 b1
   go_wp2_with fail
   go_roundw
   case rel => exact ⟨k + 1, by omega, by go_num, S7, T7⟩
   case measure => simp [intOf]; omega
  have e3 : (kd == 3) = false := by simpa using h3
  by_cases h4 : kd = 4
  case pos =>
   have HO := Hh (O4.out h4)
   subst h4
   clear O1 O2 O3 O4 O0 h1 h2 h3
   go_wp2_with fail
   have S3 := S
   have T3 := T
   clear HE S T d0 d20
   have kn : Below V2.heap.size V2 (V2.alloc (.cells #[.string (bs [104, 97, 110, 103]), .string (bs ta), .string (bs tp)] 9)) := (Below.refl _ _).alloc (Nat.le_refl _) _
   have NB := Blk.new V2 9 [.string (bs [104, 97, 110, 103]), .string (bs ta), .string (bs tp)]
   have S4 := below_then S3 S3.size kn
   have T4 := T3.below kn
   have JN := Hh (join_any 32 ⟨V2.heap.size, 0, none⟩ 3 [[104, 97, 110, 103], ta, tp] _ (fun i hi => by show World.cell? _ ⟨V2.heap.size, 0 + i, none⟩ = _; rw [Nat.zero_add]; exact NB.cell_ i (by
    have hi4 : i < 3 := hi
    match i, hi4 with
    | 0, _ | 1, _ | 2, _ => rfl)) rfl NB.lt (Nat.le_refl 3) (show 3 ≤ 100000 by decide) (by simp [joinC]; omega))
   have lj : (joinC 32 [[104, 97, 110, 103], ta, tp]).length ≤ 42000 := by simp [joinC]; omega
   clear NB S3 T3 kn
   generalize joinC 32 [[104, 97, 110, 103], ta, tp] = tj at *
   refine JN.out.mono ?_
   rintro _ V5 ⟨rfl, b1⟩
   have S5 := below_then S4 S4.size b1
   have T5 := T4.below b1
   have WS := Hh (wstr_any w.heap.size P tj V5 T5 (by omega))
   clear JN S4 T4 b1 T5
   go_wp2_with fail
   refine WS.out.mono ?_
   rintro _ V6 ⟨rfl, T6, b1, _⟩
   have S6 := S5.trans b1
   have WB := Hh (wbyt_any w.heap.size (P ++ tj) V6 T6 (by rw [List.length_append]; omega))
   clear WS S5 b1 T6
   go_wp2_with fail
   refine WB.out.mono ?_
   rintro _ V7 ⟨rfl, T7, b1, _⟩
   have S7 := S6.trans b1
   rw [List.append_assoc, ← HO.out, ← HX.out] at T7
   clear WB S6 b1
   go_wp2_with fail
   go_roundw
   case rel => exact ⟨k + 1, by omega, by go_num, S7, T7⟩
   case measure => simp [intOf]; omega
  have e4 : (kd == 4) = false := by simpa using h4
  have HO := Hh (O0.out h1 h2 h3 h4)
  have HX2 : Hid ((l.take (k + 1)).flatMap outT = P) := Hh (by rw [HX.out, HO.out, List.append_nil])
  clear O1 O2 O3 O4 O0 h1 h2 h3 h4 HE HX HO d20
  go_wp2_with fail
  go_roundw
  case rel => exact ⟨k + 1, by omega, by go_num, S, by rw [HX2.out]; exact T⟩
  case measure => simp [intOf]; omega
 obtain rfl : k = l.length := by omega
 have hlt' : ¬ (l.length : Int) < l.length := by omega
 rw [List.take_of_length_le (Nat.le_refl _)] at B
 have SB := Hh (bstr_any w.heap.size _ wr B)
 clear LL HLL hlt hql B
 generalize l.flatMap outT = R at *
 go_wp2_with fail
 refine SB.out.mono ?_
 rintro _ w9 ⟨rfl, b9⟩
 have S10 := S.trans b9
 go_wp2_with fail
 go_ret
 exact RetB.mk rfl S10
end Go.Proofs.YtkcbffldncmbcaaGreatDoor

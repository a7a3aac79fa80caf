/-
  Layer 14, the laws' own: MessageLong.
-/
import Derived.Test.YtlmgdogblbigpaaLaw14c
namespace Go.Proofs.Ytlmgdogblbigpaa
open Go.RowKit
set_option maxRecDepth 100000
set_option linter.unusedVariables false
set_option linter.unusedSimpArgs false

/-- The message with one record of octets. -/
def longR (z : List UInt8) : RR := ⟨[], 99, 1, 0, Adr.zero, [], [], 0, 0, 0, [0, 0, 0, 0, 0], z⟩
def longM (z : List UInt8) : Msg := ⟨Hd.zero, [], [], [], [longR z]⟩
theorem kind99 : kindR 99 1 = 0 := by decide
theorem longR_ok (z : List UInt8) (hn : z.length ≤ 65535) : checkR (longR z) = 0 := by
  have h1 : hasE (longR z) = 0 := by
    unfold hasE
    simp only [longR, kind99]
    simp [show ¬ 65535 < z.length by omega]
  have h2 : bareB (clearR (longR z)) = true := by
    unfold clearR
    simp only [longR, kind99]
    simp [bareB]
  exact rOk_to ⟨by show checkN [] = 0; decide, by show inB 65535 99 = true; decide, by show inB 65535 1 = true; decide, by show inB 4294967295 0 = true; decide, h1, h2⟩
theorem longM_ok (z : List UInt8) (hn : z.length ≤ 65535) : checkM (longM z) = 0 := by
  have h1 : (longM z).hd.ok = true := by show Hd.zero.ok = true; decide
  have e1 : fstE ((longM z).qs.map qE) = 0 := rfl
  have e2 : (longM z).rrs.map checkR = [checkR (longR z)] := rfl
  unfold checkM
  rw [if_neg (by rw [h1]; decide), if_neg (by simp [longM]), e1, if_neg (by decide), e2, longR_ok z hn]
  rfl
theorem longM_wf (z : List UInt8) : ∀ r ∈ (longM z).rrs, r.wf := by
  intro r hr
  have e : (longM z).rrs = [longR z] := rfl
  rw [e, List.mem_singleton] at hr
  subst hr
  exact ⟨rfl, rfl⟩
theorem putRec_length (st : WS) (r : RR) : (putRec st r).1.length = st.1.length + (putSO st.2 st.1.length r.name).length + 10 + (recD st r).length := by unfold putRec recS; simp only [List.length_append, putB_length]
theorem longM_len (z : List UInt8) : (encS (longM z) true).1.length = z.length + 23 := by
  have e : (encS (longM z) true) = putRec (startM (longM z) true) (longR z) := rfl
  rw [e]
  have hs := start_len (longM z) true
  have hd : recD (startM (longM z) true) (longR z) = z := by
    unfold recD dataR
    simp only [longR, kind99]
    simp
  have h0 : (putSO (startM (longM z) true).2 ((startM (longM z) true).1.length : Int) (longR z).name).length = 1 := rfl
  have h := putRec_length (startM (longM z) true) (longR z)
  rw [h0, hs, hd] at h
  omega
/-- The plain law of MessageLong. -/
theorem long_plain (z : List UInt8) (hn : z.length ≤ 65519) : (65535 < z.length + 23 ∧ encM (longM z) true = ([], 3)) ∨ (z.length + 23 ≤ 65535 ∧ (encM (longM z) true).2 = 0 ∧ (encM (longM z) true).1.length = z.length + 23 ∧ decM (encM (longM z) true).1 = .ok (longM z)) := by
  have hc := longM_ok z (by omega)
  have hl := longM_len z
  by_cases h : 65535 < z.length + 23
  · exact .inl ⟨h, encM_long true hc (by omega)⟩
  · right
    rw [encM_ok true hc (by omega)]
    exact ⟨by omega, rfl, hl, decM_enc (longM z) true (longM_wf z) hc (by omega)⟩
theorem longIs (w : World) (g : Nat) (z : List UInt8) (hn : z.length ≤ 65535) (hb : Blk w g 86 (rrC nilS nilS nilS (longR z))) : MsgIs w (msgC Hd.zero nilS nilS nilS (.slice (some ⟨g, 0, none⟩) 1 1)) (longM z) none none none (some ⟨g, 0, none⟩) 0 0 0 1 := by
  refine ⟨rfl, fun h => absurd h (Nat.lt_irrefl 0), fun h => absurd h (Nat.lt_irrefl 0), fun h => absurd h (Nat.lt_irrefl 0), fun _ => ⟨g, 0, rfl, hb.lt, fun i hi => ?_⟩, Nat.zero_le _, Nat.zero_le _, Nat.zero_le _, by show (1 : Nat) ≤ _; decide⟩
  obtain rfl : i = 0 := by simp [longM] at hi; omega
  have hl : (rrC nilS nilS nilS (longR z)).length = 33 := rrC_len ⟨rfl, rfl⟩
  refine ⟨rrC nilS nilS nilS (longR z), ?_, none, 0, none, 0, none, 0, rfl, ⟨rfl, rfl⟩, NmR.nil _, NmR.nil _, NmR.nil _, by show z.length ≤ _; omega⟩
  have := hb.range 0 33 (by omega)
  rwa [List.drop_zero, List.take_of_length_le (by omega)] at this
/-- Too many questions: none of them is looked at. -/
theorem mcheck_many (A : Option Addr) (n c : Nat) (hn : 65535 < n) (w : World) : Calls Try.prog 31 #[.agg (msgC Hd.zero (.slice A n c) nilS nilS nilS).toArray] w (RetB (.int .i64 3) w) := by
  have hn' : (65535 : Int) < n := by omega
  have HC := Lib.hid (fun w => check_any Hd.zero w)
  have hb : (if Hd.zero.ok = true then (0 : Int) else 4) = 0 := by decide
  rw [hb] at HC
  have CH : Hid (∀ w, Calls Try.prog 75 #[.agg Hd.zero.vals.toArray] w (RetB (.int .i64 0) w)) := HC
  have L10 : (msgC Hd.zero (.slice A n c) nilS nilS nilS)[10]? = some (.slice A n c) := rfl
  have LH : ((msgC Hd.zero (.slice A n c) nilS nilS nilS).drop 0).take 10 = Hd.zero.vals := rfl
  have hl : (msgC Hd.zero (.slice A n c) nilS nilS nilS).length = 14 := rfl
  clear hb hn HC
  generalize msgC Hd.zero (.slice A n c) nilS nilS nilS = cs at *
  generalize Hd.zero.vals = HV at *
  have B0 := Blk.new w 52 cs
  have HB0 : Below w.heap.size w (w.alloc (.cells cs.toArray 52)) := (Below.refl _ _).alloc (Nat.le_refl _) _
  go_enter Try.func31, Try.ntmps31
  go_wp2_with (refine at_op (.load 48 (.tmp 14)) rfl ?_; go_must (refine wpList_ldB rfl 48 (.tmp 14) rfl w.heap.size 0 rfl B0 10 (by omega) _ Try.underlying48 rfl hdInfo HV LH ?_))
  go_wp2_with fail
  refine (CH.out _).mono ?_
  rintro _ w1 ⟨rfl, b1⟩
  have B1 := B0.below b1 B0.lt
  have HB1 := below_then HB0 HB0.size b1
  clear B0 HB0 b1 CH
  have c10 := B1.cell_ 10 L10
  go_wp2_with fail
  go_ret
  exact RetB.mk rfl HB1
theorem run_mkq (W : World) : ∃ cs : List Value, (Instr.makeSlice 49 (.int .i64 65536) (.int .i64 65536)).run Try.prog W = .ok (.slice (some ⟨W.heap.size, 0, none⟩) 65536 65536) (W.alloc (.cells cs.toArray 61)) := by
  obtain ⟨i, hi, hz, hsize, hby⟩ := info_parts qInfo3
  have h := run_make (P := Try.prog) W 49 61 i _ Try.underlying49 hi hz .i64 .i64 65536 65536 (by decide) (by decide) (by rw [hby]; decide) (by decide)
  refine ⟨(madeCells (Value.agg qZ.toArray).cells (((65536 : Int)).toNat * i.size)).toList, ?_⟩
  rw [Array.toArray_toList]
  exact h
theorem run_mkN (N : Nat) (hN : N ≤ 281474976710656) : ∃ (y : List UInt8) (O : Array Value), y.length = N ∧ (∀ W : World, (Instr.makeSlice 94 (.int .i64 (N : Int)) (.int .i64 (N : Int))).run Try.prog W = .ok (.slice (some ⟨W.heap.size, 0, none⟩) N N) (W.alloc (.cells O 5))) ∧
    (∀ W : World, (convert 94 9 (.slice (some ⟨W.heap.size, 0, none⟩) N N)).run Try.prog (W.alloc (.cells O 5)) = .ok (.string (bs y)) (W.alloc (.cells O 5))) := by
  refine ⟨List.replicate N 0, (octs (List.replicate N 0)).toArray, List.length_replicate, fun W => run_mkbytes N hN W, fun W => ?_⟩
  have := run_str_of_row _ W.heap.size N (List.replicate N 0) _ (Blk.new W 5 (octs (List.replicate N 0))) (by rw [List.take_of_length_le (by simp [octs_length])])
  rwa [List.length_replicate] at this
theorem run_mk65536 : ∃ (y : List UInt8) (O : Array Value), y.length = 65536 ∧ (∀ W : World, (Instr.makeSlice 94 (.int .i64 65536) (.int .i64 65536)).run Try.prog W = .ok (.slice (some ⟨W.heap.size, 0, none⟩) 65536 65536) (W.alloc (.cells O 5))) ∧
    (∀ W : World, (convert 94 9 (.slice (some ⟨W.heap.size, 0, none⟩) 65536 65536)).run Try.prog (W.alloc (.cells O 5)) = .ok (.string (bs y)) (W.alloc (.cells O 5))) := run_mkN 65536 (by decide)
theorem run_blong (z : List UInt8) (W : World) : (Instr.build 86 #[(1, .int .i64 99), (2, .int .i64 1), (11, .string (bs z))]).run Try.prog W = .ok (.agg (rrC nilS nilS nilS (longR z)).toArray) W := by
  kernel_rfl
set_option maxHeartbeats 4000000 in
theorem messageLong_n (n : Int) (N : Nat) (many : Bool) (w : World) (h0 : 0 ≤ n) (h1 : n ≤ 255) (hN : 65500 + n % 20 = N) :
    Calls Try.prog 15 #[.int .u8 n, .bool many] w (RetB (.bool true) w) := by
  have hN1 : N ≤ 65519 := by omega
  go_enter Try.func15, Try.ntmps15
  go_wp2_with fail
  refine (works14_any _).mono ?_
  rintro _ w1 ⟨rfl, b1⟩
  have hmk := run_mkbytes N (by omega)
  have hb := Blk.new w1 5 (octs (List.replicate N 0))
  have hcv := run_str_of_row _ w1.heap.size N (List.replicate N 0) _ hb (by rw [List.take_of_length_le (by simp [octs_length])])
  rw [List.length_replicate] at hcv
  have hzl : (List.replicate N (0 : UInt8)).length = N := List.length_replicate
  have hk1 : Below w.heap.size w (w1.alloc (.cells (octs (List.replicate N 0)).toArray 5)) := b1.alloc b1.size _
  have hbs := b1.size
  generalize List.replicate N (0 : UInt8) = z at *
  obtain rfl : z.length = N := hzl
  have hz1 : z.length ≤ 65535 := by omega
  clear hb
  generalize (octs z).toArray = OZ at *
  have LP := Lib.hid (long_plain z (by omega))
  have RB := Lib.hid (fun W => run_blong z W)
  obtain ⟨L, hL⟩ : ∃ L, L = rrC nilS nilS nilS (longR z) := ⟨_, rfl⟩
  have hL33 : L.length = 33 := by rw [hL]; exact rrC_len ⟨rfl, rfl⟩
  rw [← hL] at RB
  have HL := Lib.hid hL
  clear hL
  go_wp2_with (first
    | (refine at_op (.build 86 #[(1, .const (.int .i64 99)), (2, .const (.int .i64 1)), (11, .tmp 21)]) rfl ?_; go_must (refine wpList_bld rfl 86 _ rfl #[(1, .int .i64 99), (2, .int .i64 1), (11, .string (bs z))] (by simp [Act.eval]) (RB.out _) ?_))
    | (refine at_op (.buildSlice 50 1 #[(0, .tmp 22)]) rfl ?_; go_must (refine wpList_bsR rfl (.tmp 22) rfl L rfl hL33 ?_))
    | (refine at_op (.store 52 (.tmp 6) (.tmp 24)) rfl ?_; go_must (refine wpList_stB rfl 52 (.tmp 6) (.tmp 24) rfl (w1.heap.size + 1 + 1) 0 rfl (msgC Hd.zero nilS nilS nilS (.slice (some ⟨w1.heap.size + 1, 0, none⟩) 1 1)) rfl (Blk.new' _ _ msgZ _ (by simp)) (by rw [msgZ_len, msgC_len]; omega) (by rw [msgC_len]; exact msgInfo) (msgC_one _ rfl rfl rfl rfl) ?_)))
  intro w4 B6 g6 s6
  rw [List.drop_of_length_le (by rw [msgZ_len, msgC_len]; omega), List.append_nil] at B6
  have BR : Blk w4 (w1.heap.size + 1) 86 L := Blk.grown ((Blk.new' _ 86 L _ (by simp)).alloc _) g6 (by simp)
  have kk : ∀ o2 o3, Below w.heap.size w (((w1.alloc (.cells OZ 5)).alloc o2).alloc o3) := fun o2 o3 => ((hk1.alloc (by simp; omega) _).alloc (by simp; omega) _)
  have HB := below_grown (kk _ _) g6 (by simp; omega) (by omega)
  have MI := Lib.hid (fun w' (b : Below w4.heap.size w4 w') => longIs w' (w1.heap.size + 1) z hz1 (by rw [← HL.out]; exact BR.below b BR.lt))
  have HG : w.heap.size ≤ w1.heap.size + 1 + 1 := by omega
  clear BR kk g6 s6 hmk hcv hk1 HL hL33 RB b1 hbs
  generalize w1.heap.size + 1 + 1 = gm at *
  generalize w1.heap.size + 1 = gr at *
  cases many with
  | true =>
    obtain ⟨csq, hq⟩ := run_mkq w4
    have BA := B6.alloc (.cells csq.toArray 61)
    have KA : Below w.heap.size w (w4.alloc (.cells csq.toArray 61)) := HB.alloc HB.size _
    generalize csq.toArray = OQ at *
    clear LP MI B6 HB
    go_wp2_with (refine at_op (.store 52 (.tmp 6) (.tmp 27)) rfl ?_; go_must (refine wpList_stB rfl 52 (.tmp 6) (.tmp 27) rfl gm 0 rfl (msgC Hd.zero (.slice (some ⟨w4.heap.size, 0, none⟩) 65536 65536) nilS nilS nilS) rfl BA (by rw [msgC_len, msgC_len]; omega) (by rw [msgC_len]; exact msgInfo) (msgC_one _ rfl rfl rfl rfl) ?_))
    intro w5 B5 g5 _
    rw [List.drop_of_length_le (by rw [msgC_len, msgC_len]; omega), List.append_nil] at B5
    have HB5 := below_grown KA g5 (by simp; have := KA.size; simp at this; omega) HG
    clear hq BA KA g5
    go_wp2_with (refine at_op (.load 52 (.tmp 6)) rfl ?_; go_must (refine wpList_ldB rfl 52 (.tmp 6) rfl gm 0 rfl B5 14 (by rw [msgC_len]; omega) _ Try.underlying52 rfl msgInfo (msgC Hd.zero (.slice (some ⟨w4.heap.size, 0, none⟩) 65536 65536) nilS nilS nilS) rfl ?_))
    refine (mcheck_many _ 65536 65536 (by decide) _).mono ?_
    rintro _ w6 ⟨rfl, b6⟩
    have HB6 := below_then HB5 HB5.size b6
    clear b6 HB5 B5
    go_wp2_with fail
    go_ret
    exact RetB.mk rfl HB6
  | false =>
  have EN := Lib.hid (mencode_any _ _ true _ _ _ _ _ _ _ _ w4 (MI.out w4 (Below.refl _ _)) (by simp [longM]) (by simp [longM, Msg.rrs]))
  have hgl := B6.lt
  go_wp2_with (refine at_op (.load 52 (.tmp 6)) rfl ?_; go_must (refine wpList_ldB rfl 52 (.tmp 6) rfl gm 0 rfl B6 14 (by rw [msgC_len]; omega) _ Try.underlying52 rfl msgInfo (msgC Hd.zero nilS nilS nilS (.slice (some ⟨gr, 0, none⟩) 1 1)) rfl ?_))
  refine EN.out.mono ?_
  rintro _ w5 ⟨rfl, b5⟩
  have HB5 := below_then HB HB.size b5
  have B5 := B6.below b5 B6.lt
  clear EN HB B6
  rcases LP.out with ⟨hz, he⟩ | ⟨hz, he, hlen, hd⟩
  · rw [he]
    have hz' : (65535 : Int) < (z.length : Int) + 23 := by omega
    obtain ⟨y, OY, hyl, hmk, hcv⟩ := run_mk65536
    have D := Lib.hid (fun w => mdecode_long y w (by omega) (by simp only [maxLen]; omega))
    have hcv := hcv w5
    have k6 : Below w.heap.size w (w5.alloc (.cells OY 5)) := HB5.alloc HB5.size _
    clear hyl LP he hz MI B5 b5
    go_wp2_with fail
    refine (D.out _).mono ?_
    rintro _ w6 ⟨_, rfl, b6⟩
    have HB6 := below_then k6 k6.size b6
    clear b6 D hmk hcv k6
    go_wp2_with (refine at_op (.store 52 (.tmp 9) (.tmp 43)) rfl ?_; go_must (refine wpList_stB rfl 52 (.tmp 9) (.tmp 43) rfl w6.heap.size 0 rfl msgZ rfl (Blk.new' _ _ msgZ _ rfl) (by rw [msgZ_len]; omega) msgInfo msgZ_one ?_))
    intro w7 B7 g7 _
    have k7 : Below w6.heap.size w6 w7 := below_grown ((Below.refl _ _).alloc (Nat.le_refl _) _) g7 (by simp) (Nat.le_refl _)
    have HB7 := below_then HB6 HB6.size k7
    clear g7 k7 HB6 B7
    go_wp2_with fail
    go_ret
    exact RetB.mk rfl HB7
  · have hz' : ¬ (65535 : Int) < (z.length : Int) + 23 := by omega
    have MI5 := MI.out w5 b5
    have h0 := Lib.hid (fun w' (b : Below w5.heap.size w5 w') => MI5.below b)
    generalize encM (longM z) true = o at *
    obtain ⟨s1, e1⟩ := o
    simp only at he hlen hd ⊢
    subst he
    have hlen' : ((s1.length : Int) == (z.length : Int) + 23) = true := by simp; omega
    have D := Lib.hid (fun w => mdecode_good hd w (by simp only [maxLen]; omega))
    have hcl : (msgC Hd.zero nilS nilS nilS (.slice (some ⟨gr, 0, none⟩) 1 1)).length = 14 := rfl
    replace B5 : Blk w5 gm 52 (msgC Hd.zero nilS nilS nilS (.slice (some ⟨gr, 0, none⟩) 1 1)) := B5
    generalize msgC Hd.zero nilS nilS nilS (.slice (some ⟨gr, 0, none⟩) 1 1) = cs at *
    clear LP hz hlen hd MI MI5 b5 hgl
    go_wp2_with fail
    refine (D.out _).mono ?_
    rintro _ w6 ⟨ds, rfl, hM6, b6⟩
    have hdl := hM6.len
    have hd1 := Lib.hid hM6.one
    have HB6 := below_then HB5 HB5.size b6
    have B6 := B5.below b6 B5.lt
    clear D HB5
    go_wp2_with (refine at_op (.store 52 (.tmp 11) (.tmp 58)) rfl ?_; go_must (refine wpList_stB rfl 52 (.tmp 11) (.tmp 58) rfl w6.heap.size 0 rfl ds rfl (Blk.new' _ _ msgZ _ rfl) (by rw [hdl, msgZ_len]; omega) (by rw [hdl]; exact msgInfo) hd1.out ?_))
    intro w7 B7 g7 _
    rw [List.drop_of_length_le (by rw [msgZ_len]; omega), List.append_nil] at B7
    have k7 : Below w6.heap.size w6 w7 := below_grown ((Below.refl _ _).alloc (Nat.le_refl _) _) g7 (by simp) (Nat.le_refl _)
    have HB7 := below_then HB6 HB6.size k7
    have C7 := B6.below k7 B6.lt
    have hM7 := hM6.below k7
    have SA := Lib.hid (same_own hM7 (h0.out _ (below_then b6 b6.size k7)))
    rw [decide_eq_true rfl] at SA
    clear g7 k7 HB6 B6 B5 hM6 hM7 h0 hd1 b6
    generalize w6.heap.size = gd at *
    go_wp2_with (first
      | (refine at_op (.load 52 (.tmp 11)) rfl ?_; go_must (refine wpList_ldG 52 (.tmp 11) rfl (by go_simp) gd 0 rfl B7 14 (by omega) _ Try.underlying52 rfl msgInfo ds (by rw [List.drop_zero, List.take_of_length_le (by omega)]) ?_))
      | (refine at_op (.load 52 (.tmp 6)) rfl ?_; go_must (refine wpList_ldG 52 (.tmp 6) rfl (by go_simp) gm 0 rfl C7 14 (by omega) _ Try.underlying52 rfl msgInfo cs (by rw [List.drop_zero, List.take_of_length_le (by omega)]) ?_)))
    refine SA.out.mono ?_
    rintro _ w8 ⟨rfl, b8⟩
    have HB8 := below_then HB7 HB7.size b8
    clear SA B7 C7 b8 HB7
    go_wp2_with fail
    go_ret
    exact RetB.mk rfl HB8
theorem messageLong_any (n : Int) (many : Bool) (w : World) (hn : (Lit.int .u8 n).wf = true) : Calls Try.prog 15 #[.int .u8 n, .bool many] w (RetB (.bool true) w) := by
  have hx : 0 ≤ n ∧ n ≤ 255 := by simpa [Lit.wf, IntKind.min, IntKind.max, IntKind.signed, IntKind.bits] using hn
  exact messageLong_n n (65500 + n % 20).toNat many w hx.1 hx.2 (by omega)
end Go.Proofs.Ytlmgdogblbigpaa

/-
  Layer 25, the reference: Frame.
-/
import Derived.Test.YtlmgdogblbigpaaHQq
import Derived.Test.YtlmgdogblbigpaaRr4q
import Derived.Test.YtlmgdogblbigpaaHNq
namespace Go.Proofs.Ytlmgdogblbigpaa
open Go.RowKit
set_option maxRecDepth 100000
set_option linter.unusedVariables false
set_option linter.unusedSimpArgs false

/-- The names of a message that is read are short. -/
theorem names_of {s : List UInt8} {m : Msg} (h : decM s = .ok m) : ∀ x ∈ m.qs, lsum x.name ≤ 1000 := by
  intro x hx
  obtain ⟨hc, _⟩ := decM_ok h
  obtain ⟨hn, _⟩ := qE_ok (checkM_q hc x hx)
  have := (checkN_ok hn).2
  omega
set_option maxHeartbeats 4000000 in
theorem rframe_any (cs : List Value) (y : Qy) (A : Option Addr) (c : Nat) (s : List UInt8) (w : World) (h : QyIs w cs y A c) (hq : lsum y.q.name ≤ 1000) :
    Calls Try.prog 41 #[.agg cs.toArray, .string (bs s)] w (FrRet (frameP y (decM s)) w) := by
  have hcl : cs.length = 23 := by rw [h.hcs]; exact qyC_len h.ip
  have D := Lib.hid (fun w => refdecode_one s w)
  have hQ := Lib.hid (fun w' (b : Below w.heap.size w w') => h.below b)
  have C1 : Blk ((w.alloc (.cells cs.toArray 63)).alloc (.cells msgZ.toArray 52)) w.heap.size 63 cs := (Blk.new w 63 cs).alloc _
  have C4 : Blk ((w.alloc (.cells cs.toArray 63)).alloc (.cells msgZ.toArray 52)) (w.heap.size + 1) 52 msgZ := Blk.new' _ 52 msgZ _ (by simp)
  have CB : Below w.heap.size w ((w.alloc (.cells cs.toArray 63)).alloc (.cells msgZ.toArray 52)) := ((Below.refl _ _).alloc (Nat.le_refl _) _).alloc (by simp) _
  obtain ⟨O, hO⟩ : ∃ O, Hid (decM s = O) := ⟨_, Lib.hid rfl⟩
  have HQ := Lib.hid (fun m hm => names_of (s := s) (m := m) hm)
  rw [hO.out] at D HQ ⊢
  clear h hO
  go_enter Try.func41, Try.ntmps41
  go_wp2_with fail
  refine (D.out _).mono ?_
  rintro _ w3 ⟨ds, m, x, rfl, hM3, b3, hx⟩
  have B1 := C1.below b3 C1.lt
  have B4 := C4.below b3 C4.lt
  have HB3 := below_then CB CB.size b3
  have hgd : w.heap.size + 1 < w3.heap.size := B4.lt
  have hdl := hM3.len
  have hd1 := Lib.hid hM3.one
  clear b3 C1 C4 CB D
  go_wp2_with (refine at_op (.store 52 (.tmp 6) (.tmp 11)) rfl ?_; go_must (refine wpList_stB rfl 52 (.tmp 6) (.tmp 11) rfl w3.heap.size 0 rfl ds rfl (Blk.new' _ _ msgZ _ rfl) (by rw [hdl, msgZ_len]; omega) (by rw [hdl]; exact msgInfo) hd1.out ?_))
  intro w4 B7 g4 _
  replace B7 := whole14 B7 (by have := msgZ_len; omega)
  have k4 : Below w3.heap.size w3 w4 := below_grown ((Below.refl _ _).alloc (Nat.le_refl _) _) g4 (by simp) (Nat.le_refl _)
  have HB4 := below_then HB3 HB3.size k4
  replace B1 := B1.below k4 B1.lt
  replace B4 := B4.below k4 B4.lt
  have hM4 := hM3.below k4
  have hgr : w.heap.size ≤ w.heap.size + 1 := by omega
  have hrl := msgZ_len
  clear g4 k4 hM3 HB3
  generalize w3.heap.size = gd at *
  generalize w.heap.size + 1 = gr at *
  rcases hx with ⟨rfl, hO⟩ | ⟨hx, hO, rfl⟩
  case inr =>
    have hx' : (x == 0) = false := by simpa using hx
    have HF : Hid (frameP y O = (Msg.zero, false)) := Lib.hid (by rw [hO]; rfl)
    clear hx hO hM4 B1 B7 hQ
    go_wp2_with (refine at_op (.store 52 (.tmp 4) (.tmp 21)) rfl ?_; go_must (refine wpList_stB rfl 52 (.tmp 4) (.tmp 21) rfl gr 0 rfl msgZ rfl B4 (by omega) msgInfo msgZ_one ?_))
    intro w8 B8 g8 _
    replace B8 := whole14 B8 (by have := msgZ_len; omega)
    have HB8 := below_grown HB4 g8 HB4.size hgr
    clear g8 HB4 B4
    go_wp2_with fail
    refine ret_cell_tmp rfl gr rfl B8 _ Try.underlying52 rfl msgInfo rfl (.bool false) rfl ?_
    rw [HF.out]
    exact ⟨msgZ, rfl, MsgOwn.zero _, HB8⟩
  have RC : Hid (Calls Try.prog 37 #[.agg cs.toArray, .agg ds.toArray] w4 (RetB (.bool (replyB y m)) w4)) := Lib.hid (by
    obtain ⟨_, _, _, _, _, _, _, _, h1⟩ := hM4.is
    exact refreply_any cs ds y m A c _ _ _ _ _ _ _ _ w4 (hQ.out _ HB4) h1 hq (HQ.out m hO))
  go_wp2_with (first
    | (refine at_op (.load 63 (.tmp 2)) rfl ?_; go_must (refine wpList_ldG 63 (.tmp 2) rfl (by go_simp) w.heap.size 0 rfl B1 23 (by omega) _ Try.underlying63 rfl qrInfo cs (by rw [List.drop_zero, List.take_of_length_le (by omega)]) ?_))
    | (refine at_op (.load 52 (.tmp 6)) rfl ?_; go_must (refine wpList_ldG 52 (.tmp 6) rfl (by go_simp) gd 0 rfl B7 14 (by omega) _ Try.underlying52 rfl msgInfo ds (by rw [List.drop_zero, List.take_of_length_le (by omega)]) ?_)))
  refine RC.out.mono ?_
  rintro _ w5 ⟨rfl, b5⟩
  have HB5 := below_then HB4 HB4.size b5
  have B75 := B7.below b5 B7.lt
  have B45 := B4.below b5 B4.lt
  have hM5 := hM4.below b5
  clear b5 RC B1 HB4 B7 B4 hM4 hQ
  cases hr : replyB y m with
  | false =>
    have HF : Hid (frameP y O = (Msg.zero, false)) := Lib.hid (by rw [hO]; simp [frameP, hr])
    have HB4 := HB5
    have B4 := B45
    clear hr hO HB5 B45 B75 hM5
    go_wp2_with (refine at_op (.store 52 (.tmp 4) (.tmp 21)) rfl ?_; go_must (refine wpList_stB rfl 52 (.tmp 4) (.tmp 21) rfl gr 0 rfl msgZ rfl B4 (by omega) msgInfo msgZ_one ?_))
    intro w8 B8 g8 _
    replace B8 := whole14 B8 (by have := msgZ_len; omega)
    have HB8 := below_grown HB4 g8 HB4.size hgr
    clear g8 HB4 B4
    go_wp2_with fail
    refine ret_cell_tmp rfl gr rfl B8 _ Try.underlying52 rfl msgInfo rfl (.bool false) rfl ?_
    rw [HF.out]
    exact ⟨msgZ, rfl, MsgOwn.zero _, HB8⟩
  | true =>
    have HF : Hid (frameP y O = (m, true)) := Lib.hid (by rw [hO]; simp [frameP, hr])
    clear hr hO
    go_wp2_with (first
      | (refine at_op (.load 52 (.tmp 6)) rfl ?_; go_must (refine wpList_ldB rfl 52 (.tmp 6) rfl gd 0 rfl B75 14 (by omega) _ Try.underlying52 rfl msgInfo ds (by rw [List.drop_zero, List.take_of_length_le (by omega)]) ?_))
      | (refine at_op (.store 52 (.tmp 4) (.tmp 20)) rfl ?_; go_must (refine wpList_stB rfl 52 (.tmp 4) (.tmp 20) rfl gr 0 rfl ds rfl B45 (by omega) (by rw [hdl]; exact msgInfo) hd1.out ?_)))
    intro w8 B8 g8 _
    replace B8 := whole14 B8 (by have := msgZ_len; omega)
    have HB8 := below_grown HB5 g8 HB5.size hgr
    have hM8 := hM5.blk g8 B45
    clear g8 HB5 B45 B75 hM5
    go_wp2_with fail
    refine ret_cell_tmp rfl gr rfl B8 _ Try.underlying52 rfl (by rw [hdl]; exact msgInfo) rfl (.bool true) rfl ?_
    rw [HF.out]
    exact ⟨ds, rfl, hM8, HB8⟩
end Go.Proofs.Ytlmgdogblbigpaa
/-
  Layer 25, the reference: Packet.
-/
namespace Go.Proofs.Ytlmgdogblbigpaa
open Go.RowKit
set_option maxRecDepth 100000
set_option linter.unusedVariables false
set_option linter.unusedSimpArgs false

set_option maxHeartbeats 4000000 in
theorem rpacket_any (cs : List Value) (y : Qy) (A : Option Addr) (c : Nat) (e : Ev) (w : World) (h : QyIs w cs y A c) (hip : e.fr.ip.length = 16) (hq : lsum y.q.name ≤ 1000) :
    Calls Try.prog 39 #[.agg cs.toArray, .agg (evC e).toArray] w (FrRet (packP y e) w) := by
  have hcl : cs.length = 23 := by rw [h.hcs]; exact qyC_len h.ip
  have hel := evC_len hip
  have E0 : (evC e)[0]? = some (.int .i64 e.kind) := rfl
  have E19 : (evC e)[19]? = some (.int .i64 e.fp) := evC_at hip 0
  have E20 : (evC e)[20]? = some (.int .i64 e.port) := evC_at hip 1
  have E21 : (evC e)[21]? = some (.string (bs e.data)) := evC_at hip 2
  have Q18 : cs[18]? = some (.int .i64 y.port) := by rw [h.hcs]; exact qyC_at h.ip 0
  have SE := Lib.hid (evC_ad hip)
  have SQ : Hid ((cs.drop 0).take 18 = y.sv.cells) := Lib.hid (by rw [h.hcs]; exact qyC_ad h.ip)
  have EA := run_eqA e.fr y.sv hip h.ip
  have FC := Lib.hid (fun w' (b : Below w.heap.size w w') => rframe_any cs y A c e.data w' (h.below b) hq)
  have B2 : Blk (((w.alloc (.cells cs.toArray 63)).alloc (.cells (evC e).toArray 70)).alloc (.cells msgZ.toArray 52)) w.heap.size 63 cs := ((Blk.new w 63 cs).alloc _).alloc _
  have B3 : Blk (((w.alloc (.cells cs.toArray 63)).alloc (.cells (evC e).toArray 70)).alloc (.cells msgZ.toArray 52)) (w.heap.size + 1) 70 (evC e) := (Blk.new' _ 70 (evC e) _ (by simp)).alloc _
  have B4 : Blk (((w.alloc (.cells cs.toArray 63)).alloc (.cells (evC e).toArray 70)).alloc (.cells msgZ.toArray 52)) (w.heap.size + 1 + 1) 52 msgZ := Blk.new' _ 52 msgZ _ (by simp)
  have HB : Below w.heap.size w (((w.alloc (.cells cs.toArray 63)).alloc (.cells (evC e).toArray 70)).alloc (.cells msgZ.toArray 52)) := (((Below.refl _ _).alloc (Nat.le_refl _) _).alloc (by simp) _).alloc (by simp; omega) _
  obtain ⟨X, hX⟩ : ∃ X, Hid (((w.alloc (.cells cs.toArray 63)).alloc (.cells (evC e).toArray 70)).alloc (.cells msgZ.toArray 52) = X) := ⟨_, Lib.hid rfl⟩
  have c0 := at_of E0
  have c19 := at_of E19
  have c20 := at_of E20
  have c21 := at_of E21
  have d18 := at_of Q18
  obtain ⟨P, hP⟩ : ∃ P, Hid (packP y e = P) := ⟨_, Lib.hid rfl⟩
  rw [hP.out]
  have PP : Hid (P = if e.kind = 2 ∧ e.fr = y.sv ∧ e.fp = 53 ∧ e.port = y.port then frameP y (decM e.data) else (Msg.zero, false)) := Lib.hid (by rw [← hP.out]; rfl)
  clear h hip hq E0 E19 E20 E21 Q18 hP hX
  generalize frameP y (decM e.data) = F at *
  generalize e.data = dt at *
  by_cases hk : e.kind = 2
  case neg =>
    have hk' : (e.kind == 2) = false := by simpa using hk
    have HF : Hid (P = (Msg.zero, false)) := Lib.hid (by rw [PP.out, if_neg (fun h => hk h.1)])
    clear hk PP FC EA
    generalize e.kind = kd at *
    generalize evC e = es at *
    go_enter Try.func39, Try.ntmps39
    go_wp2_with (refine at_op (.store 52 (.tmp 4) (.tmp 34)) rfl ?_; go_must (refine wpList_stB rfl 52 (.tmp 4) (.tmp 34) rfl (w.heap.size + 1 + 1) 0 rfl msgZ rfl B4 (by have := msgZ_len; omega) msgInfo msgZ_one ?_))
    intro w8 B8 g8 _
    replace B8 : Blk w8 (w.heap.size + 1 + 1) 52 msgZ := by first | exact B8 | exact whole14 B8 (by have := msgZ_len; omega)
    have HB8 := below_grown HB g8 HB.size (by omega)
    clear g8 HB B4
    go_wp2_with fail
    refine ret_cell_tmp rfl (w.heap.size + 1 + 1) rfl B8 _ Try.underlying52 rfl msgInfo rfl (.bool false) rfl ?_
    rw [HF.out]
    exact ⟨msgZ, rfl, MsgOwn.zero _, HB8⟩
  rw [hk] at c0
  generalize evC e = es at *
  by_cases hf : e.fr = y.sv
  case neg =>
    have HF : Hid (P = (Msg.zero, false)) := Lib.hid (by rw [PP.out, if_neg (fun h => hf h.2.1)])
    rw [decide_eq_false hf] at EA
    clear hk hf PP FC
    generalize e.fr.cells = fc at *
    generalize y.sv.cells = sc at *
    go_enter Try.func39, Try.ntmps39
    go_wp2_with (first
      | (refine at_op (.load 59 (.tmp 10)) rfl ?_; go_must (refine wpList_ldG 59 (.tmp 10) rfl (by go_simp) (w.heap.size + 1) 1 rfl B3 18 (by omega) _ Try.underlying59 rfl adInfoM _ SE.out ?_))
      | (refine at_op (.load 59 (.tmp 12)) rfl ?_; go_must (refine wpList_ldG 59 (.tmp 12) rfl (by go_simp) w.heap.size 0 rfl B2 18 (by omega) _ Try.underlying59 rfl adInfoM _ SQ.out ?_))
      | (refine at_op (.store 52 (.tmp 4) (.tmp 34)) rfl ?_; go_must (refine wpList_stB rfl 52 (.tmp 4) (.tmp 34) rfl (w.heap.size + 1 + 1) 0 rfl msgZ rfl B4 (by have := msgZ_len; omega) msgInfo msgZ_one ?_)))
    intro w8 B8 g8 _
    replace B8 : Blk w8 (w.heap.size + 1 + 1) 52 msgZ := by first | exact B8 | exact whole14 B8 (by have := msgZ_len; omega)
    have HB8 := below_grown HB g8 HB.size (by omega)
    clear g8 HB B4
    go_wp2_with fail
    refine ret_cell_tmp rfl (w.heap.size + 1 + 1) rfl B8 _ Try.underlying52 rfl msgInfo rfl (.bool false) rfl ?_
    rw [HF.out]
    exact ⟨msgZ, rfl, MsgOwn.zero _, HB8⟩
  rw [decide_eq_true hf] at EA
  by_cases hp : e.fp = 53
  case neg =>
    have hp' : (e.fp == 53) = false := by simpa using hp
    have HF : Hid (P = (Msg.zero, false)) := Lib.hid (by rw [PP.out, if_neg (fun h => hp h.2.2.1)])
    clear hk hf hp PP FC
    generalize e.fp = fp at *
    generalize e.fr.cells = fc at *
    generalize y.sv.cells = sc at *
    go_enter Try.func39, Try.ntmps39
    go_wp2_with (first
      | (refine at_op (.load 59 (.tmp 10)) rfl ?_; go_must (refine wpList_ldG 59 (.tmp 10) rfl (by go_simp) (w.heap.size + 1) 1 rfl B3 18 (by omega) _ Try.underlying59 rfl adInfoM _ SE.out ?_))
      | (refine at_op (.load 59 (.tmp 12)) rfl ?_; go_must (refine wpList_ldG 59 (.tmp 12) rfl (by go_simp) w.heap.size 0 rfl B2 18 (by omega) _ Try.underlying59 rfl adInfoM _ SQ.out ?_))
      | (refine at_op (.store 52 (.tmp 4) (.tmp 34)) rfl ?_; go_must (refine wpList_stB rfl 52 (.tmp 4) (.tmp 34) rfl (w.heap.size + 1 + 1) 0 rfl msgZ rfl B4 (by have := msgZ_len; omega) msgInfo msgZ_one ?_)))
    intro w8 B8 g8 _
    replace B8 : Blk w8 (w.heap.size + 1 + 1) 52 msgZ := by first | exact B8 | exact whole14 B8 (by have := msgZ_len; omega)
    have HB8 := below_grown HB g8 HB.size (by omega)
    clear g8 HB B4
    go_wp2_with fail
    refine ret_cell_tmp rfl (w.heap.size + 1 + 1) rfl B8 _ Try.underlying52 rfl msgInfo rfl (.bool false) rfl ?_
    rw [HF.out]
    exact ⟨msgZ, rfl, MsgOwn.zero _, HB8⟩
  rw [hp] at c19
  by_cases ho : e.port = y.port
  case neg =>
    have ho' : (e.port == y.port) = false := by simpa using ho
    have HF : Hid (P = (Msg.zero, false)) := Lib.hid (by rw [PP.out, if_neg (fun h => ho h.2.2.2)])
    clear hk hf hp ho PP FC
    generalize e.port = ep at *
    generalize y.port = yp at *
    generalize e.fr.cells = fc at *
    generalize y.sv.cells = sc at *
    go_enter Try.func39, Try.ntmps39
    go_wp2_with (first
      | (refine at_op (.load 59 (.tmp 10)) rfl ?_; go_must (refine wpList_ldG 59 (.tmp 10) rfl (by go_simp) (w.heap.size + 1) 1 rfl B3 18 (by omega) _ Try.underlying59 rfl adInfoM _ SE.out ?_))
      | (refine at_op (.load 59 (.tmp 12)) rfl ?_; go_must (refine wpList_ldG 59 (.tmp 12) rfl (by go_simp) w.heap.size 0 rfl B2 18 (by omega) _ Try.underlying59 rfl adInfoM _ SQ.out ?_))
      | (refine at_op (.store 52 (.tmp 4) (.tmp 34)) rfl ?_; go_must (refine wpList_stB rfl 52 (.tmp 4) (.tmp 34) rfl (w.heap.size + 1 + 1) 0 rfl msgZ rfl B4 (by have := msgZ_len; omega) msgInfo msgZ_one ?_)))
    intro w8 B8 g8 _
    replace B8 : Blk w8 (w.heap.size + 1 + 1) 52 msgZ := by first | exact B8 | exact whole14 B8 (by have := msgZ_len; omega)
    have HB8 := below_grown HB g8 HB.size (by omega)
    clear g8 HB B4
    go_wp2_with fail
    refine ret_cell_tmp rfl (w.heap.size + 1 + 1) rfl B8 _ Try.underlying52 rfl msgInfo rfl (.bool false) rfl ?_
    rw [HF.out]
    exact ⟨msgZ, rfl, MsgOwn.zero _, HB8⟩
  rw [ho] at c20
  have HF : Hid (P = F) := Lib.hid (by rw [PP.out, if_pos ⟨hk, hf, hp, ho⟩])
  clear hk hf hp ho PP
  generalize y.port = yp at *
  generalize e.fr.cells = fc at *
  generalize y.sv.cells = sc at *
  go_enter Try.func39, Try.ntmps39
  go_wp2_with (first
    | (refine at_op (.load 59 (.tmp 10)) rfl ?_; go_must (refine wpList_ldG 59 (.tmp 10) rfl (by go_simp) (w.heap.size + 1) 1 rfl B3 18 (by omega) _ Try.underlying59 rfl adInfoM _ SE.out ?_))
    | (refine at_op (.load 59 (.tmp 12)) rfl ?_; go_must (refine wpList_ldG 59 (.tmp 12) rfl (by go_simp) w.heap.size 0 rfl B2 18 (by omega) _ Try.underlying59 rfl adInfoM _ SQ.out ?_))
    | (refine at_op (.load 63 (.tmp 2)) rfl ?_; go_must (refine wpList_ldB rfl 63 (.tmp 2) rfl w.heap.size 0 rfl B2 23 (by omega) _ Try.underlying63 rfl qrInfo cs (by rw [List.drop_zero, List.take_of_length_le (by omega)]) ?_)))
  refine (FC.out _ HB).mono ?_
  rintro _ w5 ⟨ds, rfl, hM5, b5⟩
  have HB5 := below_then HB HB.size b5
  have B45 := B4.below b5 B4.lt
  have hdl := hM5.len
  have hd1 := Lib.hid hM5.one
  clear b5 FC HB B2 B3 B4 c0 c19 c20 c21 d18 EA SE SQ
  go_wp2_with (refine at_op (.store 52 (.tmp 4) (.tmp 32)) rfl ?_; go_must (refine wpList_stB rfl 52 (.tmp 4) (.tmp 32) rfl (w.heap.size + 1 + 1) 0 rfl ds rfl B45 (by have := msgZ_len; omega) (by rw [hdl]; exact msgInfo) hd1.out ?_))
  intro w8 B8 g8 _
  replace B8 := whole14 B8 (by have := msgZ_len; omega)
  have HB8 := below_grown HB5 g8 HB5.size (by omega)
  have hM8 := hM5.blk g8 B45
  clear g8 HB5 B45 hM5
  go_wp2_with fail
  refine ret_cell_tmp rfl (w.heap.size + 1 + 1) rfl B8 _ Try.underlying52 rfl (by rw [hdl]; exact msgInfo) rfl (.bool F.2) rfl ?_
  rw [HF.out]
  exact ⟨ds, rfl, hM8, HB8⟩
end Go.Proofs.Ytlmgdogblbigpaa

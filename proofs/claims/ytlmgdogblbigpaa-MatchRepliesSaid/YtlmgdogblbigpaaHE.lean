/-
  Layer 25 (match): Reply, and the reference's.
-/
import Derived.Test.YtlmgdogblbigpaaLaw14c
import Derived.Test.YtlmgdogblbigpaaHD
namespace Go.Proofs.Ytlmgdogblbigpaa
open Go.RowKit
set_option maxRecDepth 100000
set_option linter.unusedVariables false
set_option linter.unusedSimpArgs false

/-- A query. -/
structure Qy where
  sv : Adr
  port : Int
  id : Int
  q : Qn
def qyC (vn : Value) (y : Qy) : List Value := y.sv.cells ++ [.int .i64 y.port, .int .i64 y.id, vn, .int .i64 y.q.ty, .int .i64 y.q.cl]
/-- The cells are the query. -/
structure QyIs (w : World) (cs : List Value) (y : Qy) (A : Option Addr) (c : Nat) : Prop where
  hcs : cs = qyC (.slice A y.q.name.length c) y
  ip : y.sv.ip.length = 16
  nm : NmR w A c y.q.name
theorem QyIs.below {w w' : World} {cs : List Value} {y : Qy} {A : Option Addr} {c : Nat} (h : QyIs w cs y A c) (hb : Below w.heap.size w w') : QyIs w' cs y A c := ⟨h.hcs, h.ip, h.nm.below hb⟩
section
variable {vn : Value} {y : Qy}
theorem qyC_len (h : y.sv.ip.length = 16) : (qyC vn y).length = 23 := by simp [qyC, y.sv.cells_len h]
theorem qyC_ad (h : y.sv.ip.length = 16) : ((qyC vn y).drop 0).take 18 = y.sv.cells := by rw [List.drop_zero]; unfold qyC; exact List.take_left' (y.sv.cells_len h)
theorem qyC_at (h : y.sv.ip.length = 16) (k : Nat) : (qyC vn y)[18 + k]? = [Value.int .i64 y.port, .int .i64 y.id, vn, .int .i64 y.q.ty, .int .i64 y.q.cl][k]? := by
  unfold qyC
  rw [List.getElem?_append_right (by rw [y.sv.cells_len h]; omega), y.sv.cells_len h, Nat.add_sub_cancel_left]
theorem qyC_q (h : y.sv.ip.length = 16) : ((qyC vn y).drop 20).take 3 = qC vn y.q := by
  have e : (qyC vn y).drop 20 = (([Value.int .i64 y.port, .int .i64 y.id, vn, .int .i64 y.q.ty, .int .i64 y.q.cl] : List Value)).drop 2 := by
    unfold qyC
    rw [show (20 : Nat) = y.sv.cells.length + 2 by rw [y.sv.cells_len h], List.drop_append]
    simp
  rw [e]; rfl
theorem qyC_one (h : vn.oneCell' = true) : ∀ v ∈ qyC vn y, v.oneCell' = true := by
  intro v hv
  rcases List.mem_append.1 hv with hv | hv
  · exact y.sv.cells_one v hv
  · simp only [List.mem_cons, List.not_mem_nil, or_false] at hv
    rcases hv with rfl | rfl | rfl | rfl | rfl <;> first | rfl | exact h
end
/-- Does a question fit another? -/
def fitQ (x y : Qn) : Bool := decide (x.ty = y.ty) && (decide (x.cl = y.cl) && decide (lowN x.name = lowN y.name))
/-- Does a message answer a query? -/
def replyB (y : Qy) (m : Msg) : Bool := m.hd.qr && (decide (m.hd.op = 0) && (decide (m.hd.id = y.id) && match m.qs with
  | [x] => fitQ x y.q
  | _ => false))
theorem replyB_one {y : Qy} {m : Msg} {x : Qn} (h : m.qs = [x]) : replyB y m = (m.hd.qr && (decide (m.hd.op = 0) && (decide (m.hd.id = y.id) && fitQ x y.q))) := by unfold replyB; rw [h]
theorem replyB_no {y : Qy} {m : Msg} (h : m.qs.length ≠ 1) : replyB y m = false := by
  unfold replyB
  cases hq : m.qs with
  | nil => simp
  | cons x l =>
    cases l with
    | nil => rw [hq] at h; simp at h
    | cons z l => simp
set_option maxHeartbeats 4000000 in
theorem reply_any (cs ds : List Value) (y : Qy) (m : Msg) (A : Option Addr) (c : Nat) (Aq Aa Au Ae : Option Addr) (cq ca cu ce : Nat) (w : World) (h1 : QyIs w cs y A c) (h2 : MsgIs w ds m Aq Aa Au Ae cq ca cu ce) :
    Calls Try.prog 35 #[.agg cs.toArray, .agg ds.toArray] w (RetB (.bool (replyB y m)) w) := by
  obtain ⟨t1, ht1⟩ : ∃ t1 : TypeId, t1 = 66 := ⟨_, rfl⟩
  have hip := h1.ip
  have hl1 : cs.length = 23 := by rw [h1.hcs]; exact qyC_len hip
  have L19 : cs[19]? = some (.int .i64 y.id) := by rw [h1.hcs]; exact qyC_at hip 1
  have L20 : cs[20]? = some (.slice A y.q.name.length c) := by rw [h1.hcs]; exact qyC_at hip 2
  have L21 : cs[21]? = some (.int .i64 y.q.ty) := by rw [h1.hcs]; exact qyC_at hip 3
  have L22 : cs[22]? = some (.int .i64 y.q.cl) := by rw [h1.hcs]; exact qyC_at hip 4
  have M0 : ds[0]? = some (.int .i64 m.hd.id) := by rw [h2.hcs]; rfl
  have M1 : ds[1]? = some (.bool m.hd.qr) := by rw [h2.hcs]; rfl
  have M2 : ds[2]? = some (.int .i64 m.hd.op) := by rw [h2.hcs]; rfl
  have M10 : ds[10]? = some (.slice Aq m.qs.length cq) := by rw [h2.hcs]; rfl
  have hq := h2.hq
  have lq := h2.lq
  have B2 := Blk.new' (w.alloc (.cells cs.toArray t1)) 52 ds (w.heap.size + 1) (by simp)
  have B1 := (Blk.new w t1 cs).alloc (.cells ds.toArray 52)
  have HB : Below w.heap.size w ((w.alloc (.cells cs.toArray t1)).alloc (.cells ds.toArray 52)) := ((Below.refl _ _).alloc (Nat.le_refl _) _).alloc (by simp) _
  have a19 := B1.cell_ 19 L19
  have a20 := B1.cell_ 20 L20
  have a21 := B1.cell_ 21 L21
  have a22 := B1.cell_ 22 L22
  have d0 := B2.cell_ 0 M0
  have d1 := B2.cell_ 1 M1
  have d2 := B2.cell_ 2 M2
  have d10 := B2.cell_ 10 M10
  subst ht1
  obtain ⟨O, hO⟩ : ∃ O, Hid (replyB y m = O) := ⟨_, Lib.hid rfl⟩
  rw [hO.out]
  have hN := Lib.hid h1.nm
  have HQ := Lib.hid hq
  clear h1 h2 hip L19 L20 L21 L22 M0 M1 M2 M10 hq
  cases hqr : m.hd.qr with
  | false =>
    obtain rfl : O = false := by rw [← hO.out]; unfold replyB; rw [hqr]; rfl
    rw [hqr] at d1
    clear hqr hO
    go_enter Try.func35, Try.ntmps35
    go_wp2_with fail
    go_ret
    exact RetB.mk rfl HB
  | true =>
  rw [hqr] at d1
  by_cases hop : m.hd.op = 0
  case neg =>
    obtain rfl : O = false := by rw [← hO.out]; unfold replyB; rw [decide_eq_false hop]; simp
    have hop' : (m.hd.op != 0) = true := by simpa using hop
    clear hqr hO hop
    go_enter Try.func35, Try.ntmps35
    go_wp2_with fail
    go_ret
    exact RetB.mk rfl HB
  rw [hop] at d2
  by_cases hid : m.hd.id = y.id
  case neg =>
    obtain rfl : O = false := by rw [← hO.out]; unfold replyB; rw [decide_eq_false hid]; simp
    have hid' : (m.hd.id != y.id) = true := by simpa using hid
    clear hqr hO hop hid
    go_enter Try.func35, Try.ntmps35
    go_wp2_with fail
    go_ret
    exact RetB.mk rfl HB
  by_cases hll : m.qs.length = 1
  case neg =>
    obtain rfl : O = false := by rw [← hO.out]; exact replyB_no hll
    have hll' : ((m.qs.length : Int) != 1) = true := by simp; omega
    rw [hid] at d0
    clear hqr hO hop hid hll
    go_enter Try.func35, Try.ntmps35
    go_wp2_with fail
    go_ret
    exact RetB.mk rfl HB
  obtain ⟨x, hx⟩ := List.length_eq_one_iff.1 hll
  have HQ' : QsR w Aq [x] := hx ▸ HQ.out
  obtain ⟨ba, oa, eA, hba, hel⟩ := HQ' (by simp)
  subst eA
  obtain ⟨An, cn, hr, hNx⟩ := hel 0 (by simp)
  have hrg := range_below hr HB hba
  have hOf : fitQ x y.q = O := by rw [← hO.out, replyB_one hx, hqr, decide_eq_true hop, decide_eq_true hid]; rfl
  have HOF := Lib.hid hOf
  rw [hid] at d0
  rw [hll] at d10
  replace hrg : ((w.alloc (.cells cs.toArray 66)).alloc (.cells ds.toArray 52)).rangeAt ba oa [.slice An x.name.length cn, .int .i64 x.ty, .int .i64 x.cl] := hrg
  have SM := Lib.hid (fun w' (b : Below w.heap.size w w') => dsame_any An A x.name y.q.name cn c w' (hNx.below b) (hN.out.below b))
  have e20 : ∀ o : Obj, (((w.alloc (.cells cs.toArray 66)).alloc (.cells ds.toArray 52)).alloc o).cell? ⟨w.heap.size, 20, none⟩ = some (.slice A y.q.name.length c) := fun o => ((B1.alloc o).cell 20).trans ((B1.cell 20).symm.trans a20)
  have e21 : ∀ o : Obj, (((w.alloc (.cells cs.toArray 66)).alloc (.cells ds.toArray 52)).alloc o).cell? ⟨w.heap.size, 21, none⟩ = some (.int .i64 y.q.ty) := fun o => ((B1.alloc o).cell 21).trans ((B1.cell 21).symm.trans a21)
  have e22 : ∀ o : Obj, (((w.alloc (.cells cs.toArray 66)).alloc (.cells ds.toArray 52)).alloc o).cell? ⟨w.heap.size, 22, none⟩ = some (.int .i64 y.q.cl) := fun o => ((B1.alloc o).cell 22).trans ((B1.cell 22).symm.trans a22)
  have HB3 : ∀ o : Obj, Below w.heap.size w (((w.alloc (.cells cs.toArray 66)).alloc (.cells ds.toArray 52)).alloc o) := fun o => HB.alloc (by simp; omega) _
  have HB3' := Lib.hid HB3
  clear hqr hO hop hid hll hx HQ' hel hr HQ hN hNx hOf HB3 a20 a21 a22 B1 B2 lq hba hl1 HB
  unfold fitQ at HOF
  generalize y.q.ty = ty at *
  generalize y.q.cl = cl at *
  generalize x.ty = xt at *
  generalize x.cl = xl at *
  by_cases hty : xt = ty
  case neg =>
    obtain rfl : O = false := by rw [← HOF.out, decide_eq_false hty]; rfl
    have hty' : (xt == ty) = false := by simpa using hty
    clear hty HOF SM
    go_enter Try.func35, Try.ntmps35
    go_wp2_with (refine at_op (.load 61 (.tmp 32)) rfl ?_; go_must (refine wpList_load_mid rfl 61 (.tmp 32) rfl ba oa rfl _ _ hrg Try.underlying61 rfl qInfo ?_))
    go_ret
    exact RetB.mk rfl (HB3'.out _)
  by_cases hcl : xl = cl
  case neg =>
    obtain rfl : O = false := by rw [← HOF.out, decide_eq_false hcl]; simp
    have hty' : (xt == ty) = true := by simpa using hty
    have hcl' : (xl == cl) = false := by simpa using hcl
    clear hty hcl HOF SM
    go_enter Try.func35, Try.ntmps35
    go_wp2_with (refine at_op (.load 61 (.tmp 32)) rfl ?_; go_must (refine wpList_load_mid rfl 61 (.tmp 32) rfl ba oa rfl _ _ hrg Try.underlying61 rfl qInfo ?_))
    go_ret
    exact RetB.mk rfl (HB3'.out _)
  have hty' : (xt == ty) = true := by simpa using hty
  have hcl' : (xl == cl) = true := by simpa using hcl
  obtain ⟨s, hs⟩ : ∃ s, Hid (decide (lowN x.name = lowN y.q.name) = s) := ⟨_, Lib.hid rfl⟩
  rw [hs.out] at SM
  have hOs := HOF.out
  rw [hs.out, decide_eq_true hty, decide_eq_true hcl] at hOs
  obtain rfl : s = O := hOs
  clear hty hcl HOF hs
  go_enter Try.func35, Try.ntmps35
  go_wp2_with (refine at_op (.load 61 (.tmp 32)) rfl ?_; go_must (refine wpList_load_mid rfl 61 (.tmp 32) rfl ba oa rfl _ _ hrg Try.underlying61 rfl qInfo ?_))
  refine (SM.out _ (HB3'.out _)).mono ?_
  rintro _ w5 ⟨rfl, b5⟩
  have HB5 := below_then (HB3'.out _) (HB3'.out _).size b5
  clear b5 SM
  go_wp2_with fail
  go_ret
  exact RetB.mk rfl HB5
end Go.Proofs.Ytlmgdogblbigpaa
/-
  Layer 25 (match): Frame, Packet.
-/
namespace Go.Proofs.Ytlmgdogblbigpaa
open Go.RowKit
set_option maxRecDepth 100000
set_option linter.unusedVariables false
set_option linter.unusedSimpArgs false

theorem MsgOwn.blk {w w' : World} {g : Nat} {cs L : List Value} {m : Msg} (h : MsgOwn w cs m) (hg : w.grownBy w' (some g)) (hb : Blk w g 52 L) : MsgOwn w' cs m := by
  obtain ⟨vq, va, vu, ve, h1, h2, h3, h4, h5, l⟩ := h
  exact ⟨vq, va, vu, ve, h1, h2.blk hg hb (by decide) (by decide), h3.blk hg hb (by decide) (by decide), h4.blk hg hb (by decide) (by decide), h5.blk hg hb (by decide) (by decide), l⟩
/-- What a reading answers a query with. -/
def frameP (y : Qy) (o : Except Int Msg) : Msg × Bool := match o with
  | .ok m => if replyB y m then (m, true) else (Msg.zero, false)
  | .error _ => (Msg.zero, false)
def FrRet (p : Msg × Bool) (w : World) (e : Ending) (w' : World) : Prop := ∃ ds, e = .returned (.tuple #[.agg ds.toArray, .bool p.2]) ∧ MsgOwn w' ds p.1 ∧ Below w.heap.size w w'
theorem qyInfo : (Try.prog.info? 66).map (·.size) = some 23 := by kernel_rfl
theorem whole14 {w : World} {g n : Nat} {L M : List Value} (h : Blk w g 52 (L ++ M.drop n)) (hM : M.length ≤ n) : Blk w g 52 L := by
  rwa [List.drop_of_length_le hM, List.append_nil] at h
set_option maxHeartbeats 4000000 in
theorem frame_any (cs : List Value) (y : Qy) (A : Option Addr) (c : Nat) (s : List UInt8) (w : World) (h : QyIs w cs y A c) (hs : s.length ≤ maxLen) :
    Calls Try.prog 40 #[.agg cs.toArray, .string (bs s)] w (FrRet (frameP y (decM s)) w) := by
  have hcl : cs.length = 23 := by rw [h.hcs]; exact qyC_len h.ip
  have D := Lib.hid (fun w => mdecode_one s w hs)
  have hQ := Lib.hid (fun w' (b : Below w.heap.size w w') => h.below b)
  have C1 : Blk ((w.alloc (.cells cs.toArray 66)).alloc (.cells msgZ.toArray 52)) w.heap.size 66 cs := (Blk.new w 66 cs).alloc _
  have C4 : Blk ((w.alloc (.cells cs.toArray 66)).alloc (.cells msgZ.toArray 52)) (w.heap.size + 1) 52 msgZ := Blk.new' _ 52 msgZ _ (by simp)
  have CB : Below w.heap.size w ((w.alloc (.cells cs.toArray 66)).alloc (.cells msgZ.toArray 52)) := ((Below.refl _ _).alloc (Nat.le_refl _) _).alloc (by simp) _
  obtain ⟨O, hO⟩ : ∃ O, Hid (decM s = O) := ⟨_, Lib.hid rfl⟩
  rw [hO.out] at D ⊢
  clear h hO hs
  go_enter Try.func40, Try.ntmps40
  go_wp2_with fail
  refine (D.out _).mono ?_
  rintro _ w3 ⟨ds, m, x, rfl, hM3, b3, hx⟩
  have B1 := C1.below b3 C1.lt
  have B4 := C4.below b3 C4.lt
  have HB3 := below_then CB CB.size b3
  have hgd : w.heap.size + 1 < w3.heap.size := B4.lt
  have hdl := hM3.len
  have hd1 := Lib.hid hM3.one
  clear b3 C1 C4 CB D
  go_wp2_with (refine at_op (.store 52 (.tmp 6) (.tmp 11)) rfl ?_; go_must (refine wpList_stB rfl 52 (.tmp 6) (.tmp 11) rfl w3.heap.size 0 rfl ds rfl (Blk.new' _ _ msgZ _ rfl) (by rw [hdl, msgZ_len]; omega) (by rw [hdl]; exact msgInfo) hd1.out ?_))
  intro w4 B7 g4 _
  replace B7 := whole14 B7 (by have := msgZ_len; omega)
  have k4 : Below w3.heap.size w3 w4 := below_grown ((Below.refl _ _).alloc (Nat.le_refl _) _) g4 (by simp) (Nat.le_refl _)
  have HB4 := below_then HB3 HB3.size k4
  replace B1 := B1.below k4 B1.lt
  replace B4 := B4.below k4 B4.lt
  have hM4 := hM3.below k4
  have hgr : w.heap.size ≤ w.heap.size + 1 := by omega
  have hrl := msgZ_len
  clear g4 k4 hM3 HB3
  generalize w3.heap.size = gd at *
  generalize w.heap.size + 1 = gr at *
  rcases hx with ⟨rfl, hO⟩ | ⟨hx, hO, rfl⟩
  case inr =>
    have hx' : (x != 0) = true := by simpa using hx
    have HF : Hid (frameP y O = (Msg.zero, false)) := Lib.hid (by rw [hO]; rfl)
    clear hx hO hM4 B1 B7 hQ
    go_wp2_with (refine at_op (.store 52 (.tmp 4) (.tmp 21)) rfl ?_; go_must (refine wpList_stB rfl 52 (.tmp 4) (.tmp 21) rfl gr 0 rfl msgZ rfl B4 (by omega) msgInfo msgZ_one ?_))
    intro w8 B8 g8 _
    replace B8 := whole14 B8 (by have := msgZ_len; omega)
    have HB8 := below_grown HB4 g8 HB4.size hgr
    clear g8 HB4 B4
    go_wp2_with fail
    refine ret_cell_tmp rfl gr rfl B8 _ Try.underlying52 rfl msgInfo rfl (.bool false) rfl ?_
    rw [HF.out]
    exact ⟨msgZ, rfl, MsgOwn.zero _, HB8⟩
  have RC : Hid (Calls Try.prog 35 #[.agg cs.toArray, .agg ds.toArray] w4 (RetB (.bool (replyB y m)) w4)) := Lib.hid (by
    obtain ⟨_, _, _, _, _, _, _, _, h1⟩ := hM4.is
    exact reply_any cs ds y m A c _ _ _ _ _ _ _ _ w4 (hQ.out _ HB4) h1)
  go_wp2_with (first
    | (refine at_op (.load 66 (.tmp 2)) rfl ?_; go_must (refine wpList_ldG 66 (.tmp 2) rfl (by go_simp) w.heap.size 0 rfl B1 23 (by omega) _ Try.underlying66 rfl qyInfo cs (by rw [List.drop_zero, List.take_of_length_le (by omega)]) ?_))
    | (refine at_op (.load 52 (.tmp 6)) rfl ?_; go_must (refine wpList_ldG 52 (.tmp 6) rfl (by go_simp) gd 0 rfl B7 14 (by omega) _ Try.underlying52 rfl msgInfo ds (by rw [List.drop_zero, List.take_of_length_le (by omega)]) ?_)))
  refine RC.out.mono ?_
  rintro _ w5 ⟨rfl, b5⟩
  have HB5 := below_then HB4 HB4.size b5
  have B75 := B7.below b5 B7.lt
  have B45 := B4.below b5 B4.lt
  have hM5 := hM4.below b5
  clear b5 RC B1 HB4 B7 B4 hM4 hQ
  cases hr : replyB y m with
  | false =>
    have HF : Hid (frameP y O = (Msg.zero, false)) := Lib.hid (by rw [hO]; simp [frameP, hr])
    have HB4 := HB5
    have B4 := B45
    clear hr hO HB5 B45 B75 hM5
    go_wp2_with (refine at_op (.store 52 (.tmp 4) (.tmp 21)) rfl ?_; go_must (refine wpList_stB rfl 52 (.tmp 4) (.tmp 21) rfl gr 0 rfl msgZ rfl B4 (by omega) msgInfo msgZ_one ?_))
    intro w8 B8 g8 _
    replace B8 := whole14 B8 (by have := msgZ_len; omega)
    have HB8 := below_grown HB4 g8 HB4.size hgr
    clear g8 HB4 B4
    go_wp2_with fail
    refine ret_cell_tmp rfl gr rfl B8 _ Try.underlying52 rfl msgInfo rfl (.bool false) rfl ?_
    rw [HF.out]
    exact ⟨msgZ, rfl, MsgOwn.zero _, HB8⟩
  | true =>
    have HF : Hid (frameP y O = (m, true)) := Lib.hid (by rw [hO]; simp [frameP, hr])
    clear hr hO
    go_wp2_with (first
      | (refine at_op (.load 52 (.tmp 6)) rfl ?_; go_must (refine wpList_ldB rfl 52 (.tmp 6) rfl gd 0 rfl B75 14 (by omega) _ Try.underlying52 rfl msgInfo ds (by rw [List.drop_zero, List.take_of_length_le (by omega)]) ?_))
      | (refine at_op (.store 52 (.tmp 4) (.tmp 22)) rfl ?_; go_must (refine wpList_stB rfl 52 (.tmp 4) (.tmp 22) rfl gr 0 rfl ds rfl B45 (by omega) (by rw [hdl]; exact msgInfo) hd1.out ?_)))
    intro w8 B8 g8 _
    replace B8 := whole14 B8 (by have := msgZ_len; omega)
    have HB8 := below_grown HB5 g8 HB5.size hgr
    have hM8 := hM5.blk g8 B45
    clear g8 HB5 B45 B75 hM5
    go_wp2_with fail
    refine ret_cell_tmp rfl gr rfl B8 _ Try.underlying52 rfl (by rw [hdl]; exact msgInfo) rfl (.bool true) rfl ?_
    rw [HF.out]
    exact ⟨ds, rfl, hM8, HB8⟩
end Go.Proofs.Ytlmgdogblbigpaa
/-
  Layer 25 (match): Packet.
-/
namespace Go.Proofs.Ytlmgdogblbigpaa
open Go.RowKit
set_option maxRecDepth 100000
set_option linter.unusedVariables false
set_option linter.unusedSimpArgs false

/-- An event. -/
structure Ev where
  kind : Int
  fr : Adr
  fp : Int
  port : Int
  data : List UInt8
def evC (e : Ev) : List Value := .int .i64 e.kind :: (e.fr.cells ++ [.int .i64 e.fp, .int .i64 e.port, .string (bs e.data)])
theorem evC_len {e : Ev} (h : e.fr.ip.length = 16) : (evC e).length = 22 := by simp [evC, e.fr.cells_len h]
theorem evC_ad {e : Ev} (h : e.fr.ip.length = 16) : ((evC e).drop 1).take 18 = e.fr.cells := by
  show (e.fr.cells ++ _).take 18 = _
  exact List.take_left' (e.fr.cells_len h)
theorem evC_at {e : Ev} (h : e.fr.ip.length = 16) (k : Nat) : (evC e)[19 + k]? = [Value.int .i64 e.fp, .int .i64 e.port, .string (bs e.data)][k]? := by
  unfold evC
  rw [show 19 + k = (18 + k) + 1 by omega, List.getElem?_cons_succ, List.getElem?_append_right (by rw [e.fr.cells_len h]; omega), e.fr.cells_len h, Nat.add_sub_cancel_left]
theorem evC_one {e : Ev} : ∀ v ∈ evC e, v.oneCell' = true := by
  intro v hv
  rcases List.mem_cons.1 hv with rfl | hv
  · rfl
  rcases List.mem_append.1 hv with hv | hv
  · exact e.fr.cells_one v hv
  · simp only [List.mem_cons, List.not_mem_nil, or_false] at hv
    rcases hv with rfl | rfl | rfl <;> rfl
theorem adInfoM : (Try.prog.info? 59).map (·.size) = some 18 := by kernel_rfl
/-- What an event answers a query with. -/
def packP (y : Qy) (e : Ev) : Msg × Bool := if e.kind = 2 ∧ e.fr = y.sv ∧ e.fp = 53 ∧ e.port = y.port then frameP y (decM e.data) else (Msg.zero, false)
set_option maxHeartbeats 4000000 in
theorem packet_any (cs : List Value) (y : Qy) (A : Option Addr) (c : Nat) (e : Ev) (w : World) (h : QyIs w cs y A c) (hip : e.fr.ip.length = 16) (hs : e.data.length ≤ maxLen) :
    Calls Try.prog 38 #[.agg cs.toArray, .agg (evC e).toArray] w (FrRet (packP y e) w) := by
  have hcl : cs.length = 23 := by rw [h.hcs]; exact qyC_len h.ip
  have hel := evC_len hip
  have E0 : (evC e)[0]? = some (.int .i64 e.kind) := rfl
  have E19 : (evC e)[19]? = some (.int .i64 e.fp) := evC_at hip 0
  have E20 : (evC e)[20]? = some (.int .i64 e.port) := evC_at hip 1
  have E21 : (evC e)[21]? = some (.string (bs e.data)) := evC_at hip 2
  have Q18 : cs[18]? = some (.int .i64 y.port) := by rw [h.hcs]; exact qyC_at h.ip 0
  have SE := Lib.hid (evC_ad hip)
  have SQ : Hid ((cs.drop 0).take 18 = y.sv.cells) := Lib.hid (by rw [h.hcs]; exact qyC_ad h.ip)
  have EA := run_eqA e.fr y.sv hip h.ip
  have FC := Lib.hid (fun w' (b : Below w.heap.size w w') => frame_any cs y A c e.data w' (h.below b) hs)
  have B2 : Blk (((w.alloc (.cells cs.toArray 66)).alloc (.cells (evC e).toArray 70)).alloc (.cells msgZ.toArray 52)) w.heap.size 66 cs := ((Blk.new w 66 cs).alloc _).alloc _
  have B3 : Blk (((w.alloc (.cells cs.toArray 66)).alloc (.cells (evC e).toArray 70)).alloc (.cells msgZ.toArray 52)) (w.heap.size + 1) 70 (evC e) := (Blk.new' _ 70 (evC e) _ (by simp)).alloc _
  have B4 : Blk (((w.alloc (.cells cs.toArray 66)).alloc (.cells (evC e).toArray 70)).alloc (.cells msgZ.toArray 52)) (w.heap.size + 1 + 1) 52 msgZ := Blk.new' _ 52 msgZ _ (by simp)
  have HB : Below w.heap.size w (((w.alloc (.cells cs.toArray 66)).alloc (.cells (evC e).toArray 70)).alloc (.cells msgZ.toArray 52)) := (((Below.refl _ _).alloc (Nat.le_refl _) _).alloc (by simp) _).alloc (by simp; omega) _
  obtain ⟨X, hX⟩ : ∃ X, Hid (((w.alloc (.cells cs.toArray 66)).alloc (.cells (evC e).toArray 70)).alloc (.cells msgZ.toArray 52) = X) := ⟨_, Lib.hid rfl⟩
  have c0 := at_of E0
  have c19 := at_of E19
  have c20 := at_of E20
  have c21 := at_of E21
  have d18 := at_of Q18
  obtain ⟨P, hP⟩ : ∃ P, Hid (packP y e = P) := ⟨_, Lib.hid rfl⟩
  rw [hP.out]
  have PP : Hid (P = if e.kind = 2 ∧ e.fr = y.sv ∧ e.fp = 53 ∧ e.port = y.port then frameP y (decM e.data) else (Msg.zero, false)) := Lib.hid (by rw [← hP.out]; rfl)
  clear h hip hs E0 E19 E20 E21 Q18 hP hX
  generalize frameP y (decM e.data) = F at *
  generalize e.data = dt at *
  by_cases hk : e.kind = 2
  case neg =>
    have hk' : (e.kind != 2) = true := by simpa using hk
    have HF : Hid (P = (Msg.zero, false)) := Lib.hid (by rw [PP.out, if_neg (fun h => hk h.1)])
    clear hk PP FC EA
    generalize e.kind = kd at *
    generalize evC e = es at *
    go_enter Try.func38, Try.ntmps38
    go_wp2_with (refine at_op (.store 52 (.tmp 4) (.tmp 28)) rfl ?_; go_must (refine wpList_stB rfl 52 (.tmp 4) (.tmp 28) rfl (w.heap.size + 1 + 1) 0 rfl msgZ rfl B4 (by have := msgZ_len; omega) msgInfo msgZ_one ?_))
    intro w8 B8 g8 _
    replace B8 : Blk w8 (w.heap.size + 1 + 1) 52 msgZ := by first | exact B8 | exact whole14 B8 (by have := msgZ_len; omega)
    have HB8 := below_grown HB g8 HB.size (by omega)
    clear g8 HB B4
    go_wp2_with fail
    refine ret_cell_tmp rfl (w.heap.size + 1 + 1) rfl B8 _ Try.underlying52 rfl msgInfo rfl (.bool false) rfl ?_
    rw [HF.out]
    exact ⟨msgZ, rfl, MsgOwn.zero _, HB8⟩
  rw [hk] at c0
  generalize evC e = es at *
  by_cases hf : e.fr = y.sv
  case neg =>
    have HF : Hid (P = (Msg.zero, false)) := Lib.hid (by rw [PP.out, if_neg (fun h => hf h.2.1)])
    rw [decide_eq_false hf] at EA
    clear hk hf PP FC
    generalize e.fr.cells = fc at *
    generalize y.sv.cells = sc at *
    go_enter Try.func38, Try.ntmps38
    go_wp2_with (first
      | (refine at_op (.load 59 (.tmp 10)) rfl ?_; go_must (refine wpList_ldG 59 (.tmp 10) rfl (by go_simp) (w.heap.size + 1) 1 rfl B3 18 (by omega) _ Try.underlying59 rfl adInfoM _ SE.out ?_))
      | (refine at_op (.load 59 (.tmp 12)) rfl ?_; go_must (refine wpList_ldG 59 (.tmp 12) rfl (by go_simp) w.heap.size 0 rfl B2 18 (by omega) _ Try.underlying59 rfl adInfoM _ SQ.out ?_))
      | (refine at_op (.store 52 (.tmp 4) (.tmp 28)) rfl ?_; go_must (refine wpList_stB rfl 52 (.tmp 4) (.tmp 28) rfl (w.heap.size + 1 + 1) 0 rfl msgZ rfl B4 (by have := msgZ_len; omega) msgInfo msgZ_one ?_)))
    intro w8 B8 g8 _
    replace B8 : Blk w8 (w.heap.size + 1 + 1) 52 msgZ := by first | exact B8 | exact whole14 B8 (by have := msgZ_len; omega)
    have HB8 := below_grown HB g8 HB.size (by omega)
    clear g8 HB B4
    go_wp2_with fail
    refine ret_cell_tmp rfl (w.heap.size + 1 + 1) rfl B8 _ Try.underlying52 rfl msgInfo rfl (.bool false) rfl ?_
    rw [HF.out]
    exact ⟨msgZ, rfl, MsgOwn.zero _, HB8⟩
  rw [decide_eq_true hf] at EA
  by_cases hp : e.fp = 53
  case neg =>
    have hp' : (e.fp != 53) = true := by simpa using hp
    have HF : Hid (P = (Msg.zero, false)) := Lib.hid (by rw [PP.out, if_neg (fun h => hp h.2.2.1)])
    clear hk hf hp PP FC
    generalize e.fp = fp at *
    generalize e.fr.cells = fc at *
    generalize y.sv.cells = sc at *
    go_enter Try.func38, Try.ntmps38
    go_wp2_with (first
      | (refine at_op (.load 59 (.tmp 10)) rfl ?_; go_must (refine wpList_ldG 59 (.tmp 10) rfl (by go_simp) (w.heap.size + 1) 1 rfl B3 18 (by omega) _ Try.underlying59 rfl adInfoM _ SE.out ?_))
      | (refine at_op (.load 59 (.tmp 12)) rfl ?_; go_must (refine wpList_ldG 59 (.tmp 12) rfl (by go_simp) w.heap.size 0 rfl B2 18 (by omega) _ Try.underlying59 rfl adInfoM _ SQ.out ?_))
      | (refine at_op (.store 52 (.tmp 4) (.tmp 28)) rfl ?_; go_must (refine wpList_stB rfl 52 (.tmp 4) (.tmp 28) rfl (w.heap.size + 1 + 1) 0 rfl msgZ rfl B4 (by have := msgZ_len; omega) msgInfo msgZ_one ?_)))
    intro w8 B8 g8 _
    replace B8 : Blk w8 (w.heap.size + 1 + 1) 52 msgZ := by first | exact B8 | exact whole14 B8 (by have := msgZ_len; omega)
    have HB8 := below_grown HB g8 HB.size (by omega)
    clear g8 HB B4
    go_wp2_with fail
    refine ret_cell_tmp rfl (w.heap.size + 1 + 1) rfl B8 _ Try.underlying52 rfl msgInfo rfl (.bool false) rfl ?_
    rw [HF.out]
    exact ⟨msgZ, rfl, MsgOwn.zero _, HB8⟩
  rw [hp] at c19
  by_cases ho : e.port = y.port
  case neg =>
    have ho' : (e.port != y.port) = true := by simpa using ho
    have HF : Hid (P = (Msg.zero, false)) := Lib.hid (by rw [PP.out, if_neg (fun h => ho h.2.2.2)])
    clear hk hf hp ho PP FC
    generalize e.port = ep at *
    generalize y.port = yp at *
    generalize e.fr.cells = fc at *
    generalize y.sv.cells = sc at *
    go_enter Try.func38, Try.ntmps38
    go_wp2_with (first
      | (refine at_op (.load 59 (.tmp 10)) rfl ?_; go_must (refine wpList_ldG 59 (.tmp 10) rfl (by go_simp) (w.heap.size + 1) 1 rfl B3 18 (by omega) _ Try.underlying59 rfl adInfoM _ SE.out ?_))
      | (refine at_op (.load 59 (.tmp 12)) rfl ?_; go_must (refine wpList_ldG 59 (.tmp 12) rfl (by go_simp) w.heap.size 0 rfl B2 18 (by omega) _ Try.underlying59 rfl adInfoM _ SQ.out ?_))
      | (refine at_op (.store 52 (.tmp 4) (.tmp 28)) rfl ?_; go_must (refine wpList_stB rfl 52 (.tmp 4) (.tmp 28) rfl (w.heap.size + 1 + 1) 0 rfl msgZ rfl B4 (by have := msgZ_len; omega) msgInfo msgZ_one ?_)))
    intro w8 B8 g8 _
    replace B8 : Blk w8 (w.heap.size + 1 + 1) 52 msgZ := by first | exact B8 | exact whole14 B8 (by have := msgZ_len; omega)
    have HB8 := below_grown HB g8 HB.size (by omega)
    clear g8 HB B4
    go_wp2_with fail
    refine ret_cell_tmp rfl (w.heap.size + 1 + 1) rfl B8 _ Try.underlying52 rfl msgInfo rfl (.bool false) rfl ?_
    rw [HF.out]
    exact ⟨msgZ, rfl, MsgOwn.zero _, HB8⟩
  rw [ho] at c20
  have HF : Hid (P = F) := Lib.hid (by rw [PP.out, if_pos ⟨hk, hf, hp, ho⟩])
  clear hk hf hp ho PP
  generalize y.port = yp at *
  generalize e.fr.cells = fc at *
  generalize y.sv.cells = sc at *
  go_enter Try.func38, Try.ntmps38
  go_wp2_with (first
    | (refine at_op (.load 59 (.tmp 10)) rfl ?_; go_must (refine wpList_ldG 59 (.tmp 10) rfl (by go_simp) (w.heap.size + 1) 1 rfl B3 18 (by omega) _ Try.underlying59 rfl adInfoM _ SE.out ?_))
    | (refine at_op (.load 59 (.tmp 12)) rfl ?_; go_must (refine wpList_ldG 59 (.tmp 12) rfl (by go_simp) w.heap.size 0 rfl B2 18 (by omega) _ Try.underlying59 rfl adInfoM _ SQ.out ?_))
    | (refine at_op (.load 66 (.tmp 2)) rfl ?_; go_must (refine wpList_ldB rfl 66 (.tmp 2) rfl w.heap.size 0 rfl B2 23 (by omega) _ Try.underlying66 rfl qyInfo cs (by rw [List.drop_zero, List.take_of_length_le (by omega)]) ?_)))
  refine (FC.out _ HB).mono ?_
  rintro _ w5 ⟨ds, rfl, hM5, b5⟩
  have HB5 := below_then HB HB.size b5
  have B45 := B4.below b5 B4.lt
  have hdl := hM5.len
  have hd1 := Lib.hid hM5.one
  clear b5 FC HB B2 B3 B4 c0 c19 c20 c21 d18 EA SE SQ
  go_wp2_with (refine at_op (.store 52 (.tmp 4) (.tmp 33)) rfl ?_; go_must (refine wpList_stB rfl 52 (.tmp 4) (.tmp 33) rfl (w.heap.size + 1 + 1) 0 rfl ds rfl B45 (by have := msgZ_len; omega) (by rw [hdl]; exact msgInfo) hd1.out ?_))
  intro w8 B8 g8 _
  replace B8 := whole14 B8 (by have := msgZ_len; omega)
  have HB8 := below_grown HB5 g8 HB5.size (by omega)
  have hM8 := hM5.blk g8 B45
  clear g8 HB5 B45 hM5
  go_wp2_with fail
  refine ret_cell_tmp rfl (w.heap.size + 1 + 1) rfl B8 _ Try.underlying52 rfl (by rw [hdl]; exact msgInfo) rfl (.bool F.2) rfl ?_
  rw [HF.out]
  exact ⟨ds, rfl, hM8, HB8⟩
end Go.Proofs.Ytlmgdogblbigpaa
/-
  Layer 25, the laws' own: To.
-/
namespace Go.Proofs.Ytlmgdogblbigpaa
open Go.RowKit
set_option maxRecDepth 100000
set_option linter.unusedVariables false
set_option linter.unusedSimpArgs false

def qyZ : List Value := [.int .i64 0, .int .u8 0, .int .u8 0, .int .u8 0, .int .u8 0, .int .u8 0, .int .u8 0, .int .u8 0, .int .u8 0, .int .u8 0, .int .u8 0, .int .u8 0, .int .u8 0, .int .u8 0, .int .u8 0, .int .u8 0, .int .u8 0, .int .i64 0, .int .i64 0, .int .i64 0, .slice none 0 0, .int .i64 0, .int .i64 0]
theorem qyZ_len : qyZ.length = 23 := rfl
theorem run_bqy16 (fam zone port id : Int) (q : Qn) (b0 b1 b2 b3 b4 b5 b6 b7 b8 b9 b10 b11 b12 b13 b14 b15 : UInt8) (A : Option Addr) (n c : Nat) (W : World) :
    (Instr.build 66 #[(0, .agg (Adr.cells ⟨fam, [b0, b1, b2, b3, b4, b5, b6, b7, b8, b9, b10, b11, b12, b13, b14, b15], zone⟩).toArray), (1, .int .i64 port), (2, .int .i64 id), (3, .agg #[.slice A n c, .int .i64 q.ty, .int .i64 q.cl])]).run Try.prog W = .ok (.agg (qyC (.slice A n c) ⟨⟨fam, [b0, b1, b2, b3, b4, b5, b6, b7, b8, b9, b10, b11, b12, b13, b14, b15], zone⟩, port, id, q⟩).toArray) W := by
  kernel_rfl
theorem run_bqy (y : Qy) (h : y.sv.ip.length = 16) (A : Option Addr) (n c : Nat) (W : World) :
    (Instr.build 66 #[(0, .agg y.sv.cells.toArray), (1, .int .i64 y.port), (2, .int .i64 y.id), (3, .agg #[.slice A n c, .int .i64 y.q.ty, .int .i64 y.q.cl])]).run Try.prog W = .ok (.agg (qyC (.slice A n c) y).toArray) W := by
  obtain ⟨⟨fam, ip, zone⟩, port, id, q⟩ := y
  have h' : ip.length = 16 := h
  clear h
  match ip, h' with
  | [b0, b1, b2, b3, b4, b5, b6, b7, b8, b9, b10, b11, b12, b13, b14, b15], _ => exact run_bqy16 fam zone port id q b0 b1 b2 b3 b4 b5 b6 b7 b8 b9 b10 b11 b12 b13 b14 b15 A n c W
theorem qrInfo : (Try.prog.info? 63).map (·.size) = some 23 := by kernel_rfl
set_option maxHeartbeats 1000000 in
theorem to_any (cs : List Value) (y : Qy) (A : Option Addr) (c : Nat) (w : World) (h : QyIs w cs y A c) :
    Calls Try.prog 36 #[.agg cs.toArray] w (RetB (.agg cs.toArray) w) := by
  have hcl : cs.length = 23 := by rw [h.hcs]; exact qyC_len h.ip
  have Q18 : cs[18]? = some (.int .i64 y.port) := by rw [h.hcs]; exact qyC_at h.ip 0
  have Q19 : cs[19]? = some (.int .i64 y.id) := by rw [h.hcs]; exact qyC_at h.ip 1
  have SQ : Hid ((cs.drop 0).take 18 = y.sv.cells) := Lib.hid (by rw [h.hcs]; exact qyC_ad h.ip)
  have S3 : Hid ((cs.drop 20).take 3 = [.slice A y.q.name.length c, .int .i64 y.q.ty, .int .i64 y.q.cl]) := Lib.hid (by rw [h.hcs]; exact qyC_q h.ip)
  have RB := Lib.hid (fun W => run_bqy y h.ip A y.q.name.length c W)
  rw [← h.hcs] at RB
  have h1 : Hid (∀ v ∈ cs, v.oneCell' = true) := Lib.hid (by rw [h.hcs]; exact qyC_one rfl)
  have B1 : Blk ((w.alloc (.cells cs.toArray 63)).alloc (.cells qyZ.toArray 66)) w.heap.size 63 cs := (Blk.new w 63 cs).alloc _
  have B2 : Blk ((w.alloc (.cells cs.toArray 63)).alloc (.cells qyZ.toArray 66)) (w.heap.size + 1) 66 qyZ := Blk.new' _ 66 qyZ _ (by simp)
  have HB : Below w.heap.size w ((w.alloc (.cells cs.toArray 63)).alloc (.cells qyZ.toArray 66)) := ((Below.refl _ _).alloc (Nat.le_refl _) _).alloc (by simp) _
  have c18 := at_of Q18
  have c19 := at_of Q19
  clear h Q18 Q19
  generalize y.sv.cells = sc at *
  generalize y.port = po at *
  generalize y.id = id at *
  generalize y.q.ty = ty at *
  generalize y.q.cl = cl at *
  generalize y.q.name.length = nl at *
  go_enter Try.func36, Try.ntmps36
  go_wp2_with (first
    | (refine at_op (.load 59 (.tmp 3)) rfl ?_; go_must (refine wpList_ldB rfl 59 (.tmp 3) rfl w.heap.size 0 rfl B1 18 (by omega) _ Try.underlying59 rfl adInfoM _ SQ.out ?_))
    | (refine at_op (.load 61 (.tmp 9)) rfl ?_; go_must (refine wpList_ldB rfl 61 (.tmp 9) rfl w.heap.size 20 rfl B1 3 (by omega) _ Try.underlying61 rfl qInfo _ S3.out ?_))
    | (refine at_op (.build 66 #[(0, .tmp 4), (1, .tmp 6), (2, .tmp 8), (3, .tmp 10)]) rfl ?_; go_must (refine wpList_bld rfl 66 _ rfl #[(0, .agg sc.toArray), (1, .int .i64 po), (2, .int .i64 id), (3, .agg #[.slice A nl c, .int .i64 ty, .int .i64 cl])] (by simp [Act.eval, Act.put]) (RB.out _) ?_))
    | (refine at_op (.store 66 (.tmp 2) (.tmp 11)) rfl ?_; go_must (refine wpList_stB rfl 66 (.tmp 2) (.tmp 11) rfl (w.heap.size + 1) 0 rfl cs rfl B2 (by have := qyZ_len; omega) (by rw [hcl]; exact qyInfo) h1.out ?_)))
  intro w3 B3 g3 _
  rw [List.drop_of_length_le (by have := qyZ_len; omega), List.append_nil] at B3
  have HB3 := below_grown HB g3 HB.size (by omega)
  clear g3 HB B1 B2 c18 c19
  go_wp2_with fail
  refine ret_cell rfl (w.heap.size + 1) rfl B3 _ Try.underlying66 rfl (by rw [hcl]; exact qyInfo) rfl ?_
  exact RetB.mk rfl HB3
end Go.Proofs.Ytlmgdogblbigpaa

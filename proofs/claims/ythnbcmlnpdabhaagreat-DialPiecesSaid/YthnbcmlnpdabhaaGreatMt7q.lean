/-
  Layer 25, the reference: Frame.
-/
import Derived.Test.YthnbcmlnpdabhaaGreatHQq
import Derived.Test.YthnbcmlnpdabhaaGreatRr4q
namespace Go.Proofs.YthnbcmlnpdabhaaGreat
open _root_.Go.Proofs.Tryz
open Go.RowKit
set_option maxRecDepth 100000
set_option linter.unusedVariables false
set_option linter.unusedSimpArgs false
theorem names_of {s : List UInt8} {m : Msg} (h : decM s = .ok m) : ∀ x ∈ m.qs, lsum x.name ≤ 1000 := by
 intro x hx
 obtain ⟨hc, _⟩ := decM_ok h
 obtain ⟨hn, _⟩ := qE_ok (checkM_q hc x hx)
 have := (checkN_ok hn).2
 omega
set_option maxHeartbeats 4000000 in
theorem rframe_any (cs : List Value) (y : Qy) (A : Option Addr) (c : Nat) (s : List UInt8) (w : World) (h : QyIs w cs y A c) (hq : lsum y.q.name ≤ 1000) :
  Calls prog 20 #[.agg cs.toArray, .string (bs s)] w (FrRet (frameP y (decM s)) w) := by
 have hcl : cs.length = 23 := by rw [h.hcs]; exact qyC_len h.ip
 have D := Hh (fun w => refdecode_one s w)
 have hQ := Hh (fun w' (b : Below w.heap.size w w') => h.below b)
 have C1 : Blk ((w.alloc (.cells cs.toArray 30)).alloc (.cells msgZ.toArray 50)) w.heap.size 30 cs := (Blk.new w 30 cs).alloc _
 have C4 : Blk ((w.alloc (.cells cs.toArray 30)).alloc (.cells msgZ.toArray 50)) (w.heap.size + 1) 50 msgZ := Blk.new' _ 50 msgZ _ (by simp)
 have CB : Below w.heap.size w ((w.alloc (.cells cs.toArray 30)).alloc (.cells msgZ.toArray 50)) := ((Below.refl _ _).alloc (Nat.le_refl _) _).alloc (by simp) _
 obtain ⟨O, hO⟩ : ∃ O, Hid (decM s = O) := ⟨_, Hh rfl⟩
 have HQ := Hh (fun m hm => names_of (s := s) (m := m) hm)
 rw [hO.out] at D HQ ⊢
 clear h hO
 go_enter func20, ntmps20
 go_wp2_with fail
 refine (D.out _).mono ?_
 rintro _ w3 ⟨ds, m, x, rfl, hM3, b3, hx⟩
 have B1 := C1.below b3 C1.lt
 have B4 := C4.below b3 C4.lt
 have HB3 := below_then CB CB.size b3
 have hgd : w.heap.size + 1 < w3.heap.size := B4.lt
 have hdl := hM3.len
 have hd1 := Hh hM3.one
 clear b3 C1 C4 CB D
 go_wp2_with (refine at_op (.store 50 (.tmp 6) (.tmp 11)) rfl ?_; go_must (refine wpList_stB rfl _ _ _ rfl w3.heap.size 0 rfl ds rfl (Blk.new' _ _ msgZ _ rfl) (by rw [hdl, msgZ_len]; omega) (by rw [hdl]; exact msgInfo) hd1.out ?_))
 intro w4 B7 g4 _
 replace B7 := whole14 B7 (by have := msgZ_len; omega)
 have k4 : Below w3.heap.size w3 w4 := below_grown ((Below.refl _ _).alloc (Nat.le_refl _) _) g4 (by simp) (Nat.le_refl _)
 have HB4 := below_then HB3 HB3.size k4
 replace B1 := B1.below k4 B1.lt
 replace B4 := B4.below k4 B4.lt
 have hM4 := hM3.below k4
 have hgr : w.heap.size ≤ w.heap.size + 1 := by omega
 have hrl := msgZ_len
 clear g4 k4 hM3 HB3
 generalize w3.heap.size = gd at *
 generalize w.heap.size + 1 = gr at *
 rcases hx with ⟨rfl, hO⟩ | ⟨hx, hO, rfl⟩
 case inr =>
  have hx' : (x == 0) = false := by simpa using hx
  have HF : Hid (frameP y O = (Msg.zero, false)) := Hh (by rw [hO]; rfl)
  clear hx hO hM4 B1 B7 hQ
  go_wp2_with (refine at_op (.store 50 (.tmp 4) (.tmp 21)) rfl ?_; go_must (refine wpList_stB rfl _ _ _ rfl gr 0 rfl msgZ rfl B4 (by omega) msgInfo msgZ_one ?_))
  intro w8 B8 g8 _
  replace B8 := whole14 B8 (by have := msgZ_len; omega)
  have HB8 := below_grown HB4 g8 HB4.size hgr
  clear g8 HB4 B4
  go_wp2_with fail
  refine ret_cell_tmp rfl gr rfl B8 _ underlying50 rfl msgInfo rfl (.bool false) rfl ?_
  rw [HF.out]
  exact ⟨msgZ, rfl, MsgOwn.zero _, HB8⟩
 have RC : Hid (Calls prog 79 #[.agg cs.toArray, .agg ds.toArray] w4 (RetB (.bool (replyB y m)) w4)) := Hh (by
  obtain ⟨_, _, _, _, _, _, _, _, h1⟩ := hM4.is
  exact refreply_any cs ds y m A c _ _ _ _ _ _ _ _ w4 (hQ.out _ HB4) h1 hq (HQ.out m hO))
 go_wp2_with (first
  | (refine at_op (.load 30 (.tmp 2)) rfl ?_; go_must (refine wpList_ldG 30 (.tmp 2) rfl (by go_simp) w.heap.size 0 rfl B1 23 (by omega) _ underlying30 rfl qrInfo cs (tk0 (by omega)) ?_))
  | (refine at_op (.load 50 (.tmp 6)) rfl ?_; go_must (refine wpList_ldG 50 (.tmp 6) rfl (by go_simp) gd 0 rfl B7 14 (by omega) _ underlying50 rfl msgInfo ds (tk0 (by omega)) ?_)))
 refine RC.out.mono ?_
 rintro _ w5 ⟨rfl, b5⟩
 have HB5 := below_then HB4 HB4.size b5
 have B75 := B7.below b5 B7.lt
 have B45 := B4.below b5 B4.lt
 have hM5 := hM4.below b5
 clear b5 RC B1 HB4 B7 B4 hM4 hQ
 cases hr : replyB y m with
 | false =>
  have HF : Hid (frameP y O = (Msg.zero, false)) := Hh (by rw [hO]; simp [frameP, hr])
  have HB4 := HB5
  have B4 := B45
  clear hr hO HB5 B45 B75 hM5
  go_wp2_with (refine at_op (.store 50 (.tmp 4) (.tmp 21)) rfl ?_; go_must (refine wpList_stB rfl _ _ _ rfl gr 0 rfl msgZ rfl B4 (by omega) msgInfo msgZ_one ?_))
  intro w8 B8 g8 _
  replace B8 := whole14 B8 (by have := msgZ_len; omega)
  have HB8 := below_grown HB4 g8 HB4.size hgr
  clear g8 HB4 B4
  go_wp2_with fail
  refine ret_cell_tmp rfl gr rfl B8 _ underlying50 rfl msgInfo rfl (.bool false) rfl ?_
  rw [HF.out]
  exact ⟨msgZ, rfl, MsgOwn.zero _, HB8⟩
 | true =>
  have HF : Hid (frameP y O = (m, true)) := Hh (by rw [hO]; simp [frameP, hr])
  clear hr hO
  go_wp2_with (first
   | (refine at_op (.load 50 (.tmp 6)) rfl ?_; go_must (refine wpList_ldB rfl _ _ rfl gd 0 rfl B75 14 (by omega) _ underlying50 rfl msgInfo ds (tk0 (by omega)) ?_))
   | (refine at_op (.store 50 (.tmp 4) (.tmp 20)) rfl ?_; go_must (refine wpList_stB rfl _ _ _ rfl gr 0 rfl ds rfl B45 (by omega) (by rw [hdl]; exact msgInfo) hd1.out ?_)))
  intro w8 B8 g8 _
  replace B8 := whole14 B8 (by have := msgZ_len; omega)
  have HB8 := below_grown HB5 g8 HB5.size hgr
  have hM8 := hM5.blk g8 B45
  clear g8 HB5 B45 B75 hM5
  go_wp2_with fail
  refine ret_cell_tmp rfl gr rfl B8 _ underlying50 rfl (by rw [hdl]; exact msgInfo) rfl (.bool true) rfl ?_
  rw [HF.out]
  exact ⟨ds, rfl, hM8, HB8⟩
end Go.Proofs.YthnbcmlnpdabhaaGreat

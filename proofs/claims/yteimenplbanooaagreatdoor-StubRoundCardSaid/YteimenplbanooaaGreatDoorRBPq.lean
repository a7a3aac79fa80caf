/-
  Layers 1, 7, 9 and 42: what is no address in writing.
-/
import Derived.Test.YteimenplbanooaaGreatDoorRBAq
import Derived.Test.YteimenplbanooaaGreatDoorRBOq
namespace Go.Proofs.YteimenplbanooaaGreatDoor
open _root_.Go.Proofs.Tryz
open Go.RowKit Go.Shelf
set_option maxRecDepth 100000
set_option linter.unusedVariables false
set_option linter.unusedSimpArgs false
theorem numBad_any (s : List UInt8) (hs : 0 < s.length) (h0 : s[0] = 97) (m : Int) (w : World) : Calls prog 82 #[.string (bs s), .int .i64 m] w (Ret (.tuple #[.int .i64 0, .int .i64 5]) w) := by
 have e2 : s.isEmpty = false := by cases s with | nil => simp at hs | cons => rfl
 have H0 := Hh h0
 clear h0
 go_enter func82, ntmps82
 go_wp2_with fail
 go_loopw [14] (fun iv wr => ∃ k : Nat, Hid (k = 0) ∧ iv = .int .i64 k ∧ wr = w) (fun _ _ => 0)
 case atStart => exact ⟨0, Hh rfl, rfl, rfl⟩
 obtain ⟨k, hk, rfl, hwr⟩ := hrel
 subst hwr
 have hlt : k < s.length := by have := hk.out; omega
 have hlt' : (k : Int) < s.length := by omega
 have hc : Hid (s[k] = 97) := Hh (by obtain ⟨rfl⟩ := hk.out; exact H0.out)
 have hd : s[k].toNat = 97 := by rw [hc.out]; rfl
 have c1 : ¬ (s[k].toNat : Int) < 48 := by omega
 have c2 : (57 : Int) < s[k].toNat := by omega
 clear hd hc H0 hk
 go_wp2_with fail
 go_ret2
 exact ⟨rfl, rfl⟩
theorem inBad_any (s : List UInt8) (hs : 0 < s.length) (h0 : s[0] = 97) (w : World) : Calls prog 232 #[.string (bs s), .int .i64 10] w (Ret (.tuple #[.int .i64 0, .bool false]) w) := by
 have H0 := Hh h0
 clear h0
 go_enter func232, ntmps232
 go_wp2_with fail
 go_loopw [6, 12] (fun _ iv wr => ∃ k : Nat, Hid (k = 0) ∧ iv = .int .i64 k ∧ wr = w) (fun _ _ _ => 0)
 case atStart => exact ⟨0, Hh rfl, rfl, rfl⟩
 obtain ⟨k, hk, rfl, hwr⟩ := hrel
 subst hwr
 have hlt : k < s.length := by have := hk.out; omega
 have hlt' : (k : Int) < s.length := by omega
 have hc : Hid (s[k] = 97) := Hh (by obtain ⟨rfl⟩ := hk.out; exact H0.out)
 have HX : Hid (∀ V, Calls prog 274 #[.int .u8 (s[k].toNat : Int)] V (Ret (.tuple #[.int .i64 10, .bool true]) V)) := Hh (fun V => by rw [hc.out]; exact hex_any 97 (by decide) V)
 clear hc H0 hk
 go_wp2_with fail
 refine (HX.out _).mono ?_
 rintro _ _ ⟨rfl, rfl⟩
 clear HX
 go_wp2_with fail
 go_ret2
 exact ⟨rfl, rfl⟩
theorem numbBad_any (s : List UInt8) (hs : 0 < s.length) (hl : s.length ≤ 2) (h0 : s[0] = 97) (w : World) : Calls prog 189 #[.string (bs s)] w (Ret (.tuple #[.int .i64 0, .bool false]) w) := by
 have e2 : s.isEmpty = false := by cases s with | nil => simp at hs | cons => rfl
 have IB := Hh (fun V => inBad_any s hs h0 V)
 have l2 : ¬ (2 : Int) < s.length := by omega
 have l0 : (0 : Int) < s.length := by omega
 have hd : s[0].toNat = 97 := by rw [h0]; rfl
 have c1 : ((s[0].toNat : Int) == 48) = false := by rw [hd]; rfl
 clear hd h0
 go_enter func189, ntmps189
 go_wp2_with fail
 refine (IB.out _).mono ?_
 rintro _ _ ⟨rfl, rfl⟩
 clear IB
 go_wp2_with fail
 go_ret2
 exact ⟨rfl, rfl⟩
theorem numsBad_any (s : List UInt8) (hs : 0 < s.length) (hl : s.length ≤ 2) (h0 : s[0] = 97) (hn : (46 : UInt8) ∉ s) (w : World) : Calls prog 138 #[.string (bs s)] w (Ret (.tuple #[.slice none 0 0, .bool false]) w) := by
 have NB := Hh (fun V => numbBad_any s hs hl h0 V)
 have CT : Hid (∀ V, Calls prog 186 #[.string (bs s), .int .u8 46] V (Ret (.tuple #[.string (bs s), .string (bs []), .bool false]) V)) := Hh (fun V => cutNo_any s 46 hn V)
 clear h0 hn hl
 go_enter func138, ntmps138
 go_wp2_with fail
 go_loopw [0, 4, 5] (fun sv lv mv wr => sv = .string (bs s) ∧ lv = .slice none 0 0 ∧ mv = .bool true ∧ wr = w) (fun _ _ _ _ => 0)
 case atStart => exact ⟨rfl, rfl, rfl, rfl⟩
 obtain ⟨rfl, rfl, rfl, hwr⟩ := hrel
 subst hwr
 go_wp2_with fail
 refine (CT.out _).mono ?_
 rintro _ _ ⟨rfl, rfl⟩
 clear CT
 go_wp2_with fail
 refine (NB.out _).mono ?_
 rintro _ _ ⟨rfl, rfl⟩
 clear NB
 go_wp2_with fail
 go_ret2
 exact ⟨rfl, rfl⟩
theorem looseBad_any (s : List UInt8) (hs : 0 < s.length) (hl : s.length ≤ 2) (h0 : s[0] = 97) (hn : (46 : UInt8) ∉ s) (w : World) : Calls prog 87 #[.string (bs s)] w (RetB (.tuple #[.agg adrZ.toArray, .int .i64 5]) w) := by
 have NB := Hh (fun V => numsBad_any s hs hl h0 hn V)
 clear h0 hn hl
 go_enter func87, ntmps87
 have Z2 := Blk.newA w _ rfl
 have BB : Below w.heap.size w (w.alloc (.cells adrZ.toArray 24)) := (Below.refl _ _).alloc (Nat.le_refl _) _
 go_wp2_with fail
 refine (NB.out _).mono ?_
 rintro _ _ ⟨rfl, rfl⟩
 clear NB
 go_wp2_with (refine at_op (.store 24 (.tmp 2) (.tmp 19)) rfl ?_; go_must (refine wpList_stB rfl _ _ _ rfl w.heap.size 0 rfl adrZ rfl Z2 (Nat.le_refl 18) adrInfo Adr.zero.cells_one ?_))
 intro w6 B6 g6 _
 have X6 : Blk w6 w.heap.size 24 adrZ := B6
 have S6 := below_grown BB g6 BB.size (Nat.le_refl _)
 clear B6 g6 Z2 BB
 go_wp2_with fail
 refine ret_cell_tmp rfl w.heap.size rfl X6 _ underlying24 rfl adrInfo rfl _ rfl ?_
 exact RetB.mk rfl S6
theorem quadBad_any (s : List UInt8) (hs : 0 < s.length) (h0 : s[0] = 97) (hn : (46 : UInt8) ∉ s) (w : World) : Calls prog 137 #[.string (bs s)] w (RetB (.tuple #[.agg adrZ.toArray, .int .i64 5]) w) := by
 have NB := Hh (fun V => numBad_any s hs h0 255 V)
 have CT : Hid (∀ V, Calls prog 186 #[.string (bs s), .int .u8 46] V (Ret (.tuple #[.string (bs s), .string (bs []), .bool false]) V)) := Hh (fun V => cutNo_any s 46 hn V)
 clear h0 hn
 go_enter func137, ntmps137
 have Z2 := Blk.newA w _ rfl
 have Z4 := Blk.newA (w.alloc (.cells adrZ.toArray 24)) (w.heap.size + 1) (by simp)
 have Z2' := Z2.alloc (.cells adrZ.toArray 24)
 have BB : Below w.heap.size w ((w.alloc (.cells adrZ.toArray 24)).alloc (.cells adrZ.toArray 24)) := ((Below.refl _ _).alloc (Nat.le_refl _) _).alloc (by simp) _
 go_wp2_with (refine at_op (.store 24 (.tmp 4) (.tmp 12)) rfl ?_; go_must (refine wpList_stB rfl _ _ _ rfl (w.heap.size + 1) 0 rfl (qpC [] 0) rfl Z4 (Nat.le_refl 18) adrInfo (qpC_one [] 0) ?_))
 intro w1 B1 g1 sw
 clear sw
 have X2 : Blk w1 w.heap.size 24 adrZ := Z2'.grown g1 (by simp)
 have S1 : Below w.heap.size w w1 := below_grown BB g1 BB.size (by omega)
 clear B1 g1 Z2 Z4 Z2' BB
 go_wp2_with fail
 go_loopw [5, 14] (fun tv iv wr => iv = .int .i64 0 ∧ tv = .string (bs s) ∧ wr = w1) (fun _ _ _ => 0)
 case atStart => exact ⟨rfl, rfl, rfl⟩
 obtain ⟨rfl, rfl, hwr⟩ := hrel
 subst hwr
 go_wp2_with fail
 refine (CT.out _).mono ?_
 rintro _ _ ⟨rfl, rfl⟩
 clear CT
 go_wp2_with fail
 refine (NB.out _).mono ?_
 rintro _ _ ⟨rfl, rfl⟩
 clear NB
 go_wp2_with (refine at_op (.store 24 (.tmp 2) (.tmp 30)) rfl ?_; go_must (refine wpList_stB rfl _ _ _ rfl w.heap.size 0 rfl adrZ rfl X2 (Nat.le_refl 18) adrInfo Adr.zero.cells_one ?_))
 intro w6 B6 g6 _
 have X6 : Blk w6 w.heap.size 24 adrZ := B6
 have S6 := below_grown S1 g6 S1.size (Nat.le_refl _)
 clear B6 g6 X2 S1
 go_wp2_with fail
 refine ret_cell_tmp rfl w.heap.size rfl X6 _ underlying24 rfl adrInfo rfl _ rfl ?_
 exact RetB.mk rfl S6
theorem parseBad_any (s : List UInt8) (hs : 0 < s.length) (h0 : s[0] = 97) (hn : (46 : UInt8) ∉ s) (h58 : (58 : UInt8) ∉ s) (w : World) : Calls prog 86 #[.string (bs s)] w (RetB (.tuple #[.agg adrZ.toArray, .int .i64 5]) w) := by
 have IX := Hh (fun V => Tryz.strings_IndexByte (bs s) 58 V)
 have e : Lib.indexByte (bs s).data.toList (58 : Int).toNat.toUInt8 = -1 := ixb_no h58
 rw [e] at IX
 have QP := Hh (fun V => quadBad_any s hs h0 hn V)
 have Z2 := Blk.newA w _ rfl
 have BB : Below w.heap.size w (w.alloc (.cells adrZ.toArray 24)) := (Below.refl _ _).alloc (Nat.le_refl _) _
 clear e h0 hn h58
 go_enter func86, ntmps86
 go_wp2_with fail
 refine (IX.out _).mono ?_
 rintro _ _ ⟨rfl, rfl⟩
 clear IX
 go_wp2_with fail
 refine (QP.out _).mono ?_
 rintro _ w2 ⟨rfl, b1⟩
 have Y2 := Z2.below b1 Z2.lt
 have S2 := below_then BB BB.size b1
 clear QP Z2 BB b1
 go_wp2_with (refine at_op (.store 24 (.tmp 2) (.tmp 13)) rfl ?_; go_must (refine wpList_stB rfl _ _ _ rfl w.heap.size 0 rfl adrZ rfl Y2 (Nat.le_refl 18) adrInfo Adr.zero.cells_one ?_))
 intro w6 B6 g6 _
 have X6 : Blk w6 w.heap.size 24 adrZ := B6
 have S6 := below_grown S2 g6 S2.size (Nat.le_refl _)
 clear B6 g6 Y2 S2
 go_wp2_with fail
 refine ret_cell_tmp rfl w.heap.size rfl X6 _ underlying24 rfl adrInfo rfl _ rfl ?_
 exact RetB.mk rfl S6
theorem litBad_any (s : List UInt8) (hs : 0 < s.length) (hl : s.length ≤ 2) (h0 : s[0] = 97) (hn : (46 : UInt8) ∉ s) (h58 : (58 : UInt8) ∉ s) (fl fam st : Int) (w : World) : Calls prog 34 #[.string (bs s), hiC fl fam st] w (RetB (.tuple #[.slice none 0 0, .int .i64 0, .bool false]) w) := by
 have AP := Hh (fun V => parseBad_any s hs h0 hn h58 V)
 have LP := Hh (fun V => looseBad_any s hs hl h0 hn V)
 have BB : Below w.heap.size w (w.alloc (.cells #[.int .i64 fl, .int .i64 fam, .int .i64 st] 55)) := (Below.refl _ _).alloc (Nat.le_refl _) _
 clear h0 hn hl h58
 unfold hiC
 go_enter func34, ntmps34
 go_wp2_with fail
 refine (AP.out _).mono ?_
 rintro _ w2 ⟨rfl, b1⟩
 have S2 := below_then BB BB.size b1
 have Z2 := Blk.newA w2 _ rfl
 clear AP BB b1
 go_wp2_with (refine at_op (.store 24 (.tmp 7) (.tmp 12)) rfl ?_; go_must (refine wpList_stB rfl _ _ _ rfl w2.heap.size 0 rfl adrZ rfl Z2 (Nat.le_refl 18) adrInfo Adr.zero.cells_one ?_))
 intro w6 B6 g6 e6
 have S3 := S2.alloc S2.size (.cells adrZ.toArray 24)
 have X6 : Blk w6 w2.heap.size 24 adrZ := B6
 have S6 := below_grown S3 g6 (by have := S2.size; simp; omega) S2.size
 have hlo := S2.size
 clear B6 g6 Z2 S2 S3 e6
 go_wp2_with fail
 refine (LP.out _).mono ?_
 rintro _ w7 ⟨rfl, b2⟩
 have X7 := X6.below b2 X6.lt
 have S7 := below_then S6 S6.size b2
 clear LP X6 S6 b2
 go_wp2_with (refine at_op (.store 24 (.tmp 7) (.tmp 19)) rfl ?_; go_must (refine wpList_stB rfl _ _ _ rfl w2.heap.size 0 rfl adrZ rfl X7 (Nat.le_refl 18) adrInfo Adr.zero.cells_one ?_))
 intro w8 B8 g8 e8
 have S8 := below_grown S7 g8 S7.size hlo
 clear B8 g8 e8 X7 S7
 go_wp2_with fail
 go_ret3
 exact RetB.mk rfl S8
open Go.RowKit
theorem newP_one {r : Rs} {nm : List (List UInt8)} {t : Int} {L : Lt} (hN : checkN nm = 0) : (newP r nm (tysF 4) t L).2.2.length = 1 := by
 have h2 := (newP_wait r nm 4 t L hN).2
 have h3 : (newP r nm (tysF 4) t L).2.2.length ≤ 1 := by
  have ht : tysF 4 = [1] := by decide
  have hb : (startP (heldR r) nm (tysF 4) t).bg.length < (startP (heldR r) nm (tysF 4) t).tys.length := by rw [ht]; exact Nat.zero_lt_one
  have hw : waitP (startP (heldR r) nm (tysF 4) t) = false := by unfold waitP startP; simp
  unfold newP
  rw [begin_yes _ _ hb hw]
  have hn : ¬ ((oneP (startP (heldR r) nm (tysF 4) t) L).bg.length < (oneP (startP (heldR r) nm (tysF 4) t) L).tys.length) := by
   show ¬ (([] ++ [_] : List Xc).length < (tysF 4).length)
   rw [ht]; simp
  unfold beginP
  rw [if_neg (fun c => hn c.1)]
  have := exP_len (startP (heldR r) nm (tysF 4) t) L
  simpa using this
 cases h : (newP r nm (tysF 4) t L).2.2 with
 | nil => exact absurd h h2
 | cons a l => rw [h] at h3; simp at h3 ⊢; exact h3
section
variable {w0 w : World} {b gl : Nat} {cs : List Value} {r : Rs} {Ah As Asv : Option Addr} {ch cS csv : Nat} {hs : List Hst} {ss : List Src} {vs : List Svc} {s : List UInt8} {fam turn : Int} {L : Lt}
end
theorem newX_one {tmo : Int} {vc ed : Bool} {q : Qn} {tr : List Adr} {L : Lt} (hN : checkN q.name = 0) (ht : inB 65535 q.ty = true) (hc : inB 65535 q.cl = true) (htr : 0 < tr.length) : (newX tmo vc ed q tr L).1.sent = 1 := by
 have h0 := ask_enc hN ht hc 0 ed (by omega) (by omega)
 unfold newX
 rw [if_neg (by rw [h0]; decide)]
 unfold tryX
 have hk : (startX tmo vc ed q tr).k < (startX tmo vc ed q tr).tr.length := htr
 rw [if_pos hk]
 exact (legX_f _ L _).2.2.2.2.2.2.1
theorem newP_bg {r : Rs} {nm : List (List UInt8)} {t : Int} {L : Lt} (hN : checkN nm = 0) : ∃ x : Xc, (newP r nm (tysF 4) t L).1.bg = [x] ∧ x.sent = 1 := by
 have ht : tysF 4 = [1] := by decide
 have hb : (startP (heldR r) nm (tysF 4) t).bg.length < (startP (heldR r) nm (tysF 4) t).tys.length := by rw [ht]; exact Nat.zero_lt_one
 have hw : waitP (startP (heldR r) nm (tysF 4) t) = false := by unfold waitP startP; simp
 unfold newP
 rw [begin_yes _ _ hb hw]
 have hn : ¬ ((oneP (startP (heldR r) nm (tysF 4) t) L).bg.length < (oneP (startP (heldR r) nm (tysF 4) t) L).tys.length) := by
  show ¬ (([] ++ [_] : List Xc).length < (tysF 4).length)
  rw [ht]; simp
 unfold beginP
 rw [if_neg (fun c => hn c.1)]
 have hty : inB 65535 ((tysF 4).getD 0 0) = true := by rw [ht]; decide
 exact ⟨_, rfl, newX_one (q := qnP (startP (heldR r) nm (tysF 4) t) 0) hN hty (by show inB 65535 1 = true; decide) (by have := (tries_le (heldR r) (IntKind.i64.wrap (t + (0 : Nat)))).1; exact Nat.lt_of_lt_of_le (by decide) this)⟩
theorem newP_sent {r : Rs} {nm : List (List UInt8)} {t : Int} {L : Lt} (hN : checkN nm = 0) : sentP (newP r nm (tysF 4) t L).1 = 1 ∧ (∀ x ∈ (newP r nm (tysF 4) t L).1.bg, x.sent ≤ 1000000) ∧ (newP r nm (tysF 4) t L).1.bg.length ≤ 2 := by
 obtain ⟨x, h1, h2⟩ := newP_bg (r := r) (t := t) (L := L) hN
 unfold sentP
 rw [h1]
 refine ⟨by simp [h2], fun y hy => ?_, by simp⟩
 obtain rfl := List.mem_singleton.1 hy
 omega
section
variable {w0 w : World} {b gl : Nat} {cs : List Value} {r : Rs} {Ah As Asv : Option Addr} {ch cS csv : Nat} {hs : List Hst} {ss : List Src} {vs : List Svc} {s : List UInt8} {turn : Int} {L : Lt}
theorem hnew_begun (h : RsIn w0 w cs r) (hw : Below w0.heap.size w0 w) (hH : LIn w0 19 (HstI w0) Ah hs) (hhl : hs.length ≤ 100) (hhn : ∀ h ∈ hs, h.ns.length ≤ 100) (hSr : LIn w 5 SrcI As ss) (hsl : ss.length ≤ 17592186044416) (hSv : LIn w0 3 SvcI Asv vs) (hvl : vs.length ≤ 1000) (hs1 : s.length ≤ 1000000) (hl : LotAt w gl L) (hus : L.us = 0) (hds : L.ds.length ≤ 17592186044416) (hb0 : w0.heap.size ≤ b) (hbw : b ≤ w.heap.size) (hbg : b ≤ gl) {n : List (List UInt8)} {dt : Bool} (hp : parse s = .ok (n, dt)) (hne : n ≠ []) (hS : heldS ss = srcP) (hf : (findP (heldH hs) n (famH 4)).1 = []) :
  Calls prog 40 #[.agg (cs ++ [Value.slice Ah hs.length ch, Value.slice As ss.length cS, Value.slice Asv vs.length csv]).toArray, .string (bs s), .int .i64 4, .int .i64 turn, .pointer (some ⟨gl, 0, none⟩)] w (RetN (fun g v w' => ∃ o D c M gp X p, OusN 0 w' v o ∧ o.length = 1 ∧ HsW w0 w' b g gl D c 2 M 0 0 0 false ∧ c.sent = 0 ∧ c.pp = some gp ∧ PrAt w0 w' b gp gl X p ∧ sentP p = 1 ∧ (∀ x ∈ p.bg, x.sent ≤ 1000000) ∧ p.bg.length ≤ 2 ∧ Below b w w' ∧ KeepO w.heap.size w w')) := by
 refine hhnew_go h hw hH hhl hhn hSr hsl hSv hvl hs1 hl hus hds hb0 hbw hbg hp hne _ (fun w1 g c1 cd S1 HP hcd hbg1 b1 hg => ?_)
 have hbw1 := Nat.le_trans hbw b1.size
 have hk : (srcAt (heldS ss) 0).kd = 1 := by rw [hS]; rfl
 have hk2 : (srcAt (heldS ss) 1).kd = 2 := by rw [hS]; rfl
 have hl0 : 1 < (heldS ss).length := by rw [hS]; decide
 refine hask_go S1 HP hbw1 (Nat.lt_trans Nat.zero_lt_one hl0) (by omega) _ (fun _ w2 c2 vd A k cc vn xs S2 b2 k2 hw2 hbg2 hxs hvn hF => ?_) (fun h => by rw [hk] at h; cases h) (fun h => absurd hk h)
 rcases hF with ⟨_, rfl⟩ | ⟨hF, _⟩
 case inr => exact absurd hf hF
 have hst : stopS (heldS ss) 0 3 = false := by rw [hS]; decide
 have hbw2 := Nat.le_trans hbw1 b2.size
 refine hbehind_goes S2.at_ HP 3 _ _ 0 ⟨_, hxs⟩ (Nat.lt_trans Nat.zero_lt_one hl0) hst _ (fun W hW => ?_)
 have S3 := S2.frT (p := fun _ => False) (b' := b) (Fr.below hW) (Nat.le_refl _) id id id
 have hbw3 := Nat.le_trans hbw2 hW.size
 refine hask_go S3 HP hbw3 hl0 (by rw [hbg2, hbg1]; omega) _ (fun h => by rw [hk2] at h; cases h) (fun _ w4 c4 S4 b4 k4 hw4 hbg4 hnx _ _ => ?_) (fun _ h => absurd hk2 h)
 have hbw4 := Nat.le_trans hbw3 hw4
 refine hdns_go (lo := w4.heap.size) (H := 0) (.inl S4) HP hbw4 (by decide) _ [] (OusN.nil _ _) hbw4 (Nat.le_refl _) (by simp) _ (fun w5 c5 L5 vd r1 r2 r3 xs h5 hB hK hw5 hc => ?_) (fun w5 v5 c5 L5 i t LL hi h5 hO5 hB5 hK5 hbg5 hsn5 hpr5 => ?_)
 ·
  exfalso
  have := (hc S4.pp).1
  rw [hnx] at this
  exact hcd (List.length_eq_zero_iff.1 this.symm)
 ·
  have hck : checkN (cd.getD i []) = 0 := by
   rw [List.getD_eq_getElem?_getD, List.getElem?_eq_getElem hi]
   exact HP.cn _ (List.getElem_mem hi)
  have e4 : c4.bg = 0 := by rw [hbg4]; show c2.bg = 0; rw [hbg2, hbg1]
  have s4 : c4.sent = 0 := by
   have := S4.sn
   rw [e4] at this
   simpa using this
  obtain ⟨gp, X, hgp, hpa⟩ := hpr5
  obtain ⟨n1, n2, n3⟩ := newP_sent (r := heldR r) (t := t) (L := LL) hck
  exact ⟨_, _, c5, L5, gp, X, _, OusN.mono hO5 (Nat.zero_le _), by rw [List.nil_append]; exact newP_one hck, h5, (hsn5 S4.pp).trans s4, hgp, hpa, n1, n2, n3, (b1.mono hbw).trans (b2.trans ((hW.mono hbw2).trans (b4.trans hB5))), (KeepO.below b1).trans ((k2.mono b1.size).trans ((KeepO.below hW).trans ((k4.mono (Nat.le_trans b1.size (Nat.le_trans hw2 hW.size))).trans (hK5.mono (Nat.le_trans b1.size (Nat.le_trans hw2 (Nat.le_trans hW.size hw4)))))))⟩
end
theorem p43 : parse [97] = .ok ([[97]], false) := by kernel_rfl
theorem s43 : heldS (heldS []) = srcP := by kernel_rfl
theorem f43 : (findP (heldH []) [[97]] (famH 4)).1 = [] := by kernel_rfl
section
variable {CS : List Value} {w w' : World}
def HnZ (w0 : World) (b gl : Nat) (V : World) (g : Nat) (v : Value) (w' : World) : Prop := ∃ o D c M gp X p, OusN 0 w' v o ∧ o.length = 1 ∧ HsW w0 w' b g gl D c 2 M 0 0 0 false ∧ c.sent = 0 ∧ c.pp = some gp ∧ PrAt w0 w' b gp gl X p ∧ sentP p = 1 ∧ (∀ x ∈ p.bg, x.sent ≤ 1000000) ∧ p.bg.length ≤ 2 ∧ Below b V w' ∧ KeepO V.heap.size V w'
theorem HZ.host {w0 V : World} {gl b : Nat} (h : HZ CS V) (h0 : Below w0.heap.size w0 V) (hl : LotAt V gl ⟨[], 0⟩) (h1 : w0.heap.size ≤ b) (h2 : b ≤ V.heap.size) (h3 : b ≤ gl) : Calls prog 40 #[.agg CS.toArray, .string (bs [97]), .int .i64 4, .int .i64 0, .pointer (some ⟨gl, 0, none⟩)] V (RetN (HnZ w0 b gl V)) := by
 obtain ⟨A1, c1, A2, c2, A3, c3, Ah, ch, As, cS, Av, cv, rfl, hA, hS⟩ := h
 have hR : RsIn w0 V (rsC (.slice A1 (heldR rs43).sv.length c1) (.slice A2 (heldR rs43).se.length c2) (.slice A3 (heldR rs43).so.length c3) (heldR rs43)) (heldR rs43) := ⟨A1, c1, A2, c2, A3, c3, rfl, hA.lin (fun _ _ h => AdI.len h), fun h => absurd h (by decide), fun h => absurd h (by decide), by decide, by decide, by decide⟩
 have hSl : LIn V 5 SrcI As (heldS []) := hS.lin (fun _ _ h => by rw [show _ = _ from h]; rfl)
 exact hnew_begun (w0 := w0) (hs := []) (vs := []) (ss := heldS []) (s := [97]) (turn := 0) (L := ⟨[], 0⟩) hR h0 (fun h => absurd h (by decide)) (by decide) (fun h hh => by cases hh) hSl (by decide) (fun h => absurd h (by decide)) (by decide) (by decide) hl rfl (by decide) h1 h2 h3 p43 (by decide) s43 f43
end
theorem cell_same {w w' : World} {g : Nat} {t : TypeId} {L : List Value} (h : Blk w g t L) (h' : Blk w' g t L) (k : Nat) : w'.cell? ⟨g, k, none⟩ = w.cell? ⟨g, k, none⟩ := (h'.cell k).trans (h.cell k).symm
def PsS (w : World) (gp : Nat) (ss : List Nat) : Prop := ∃ Lp Ab cb, Blk w gp 352 Lp ∧ w.cell? ⟨gp, 13, none⟩ = some (.slice Ab ss.length cb) ∧ ∀ k (h : k < ss.length), ∃ gs off Lr gx Lx, Ab = some ⟨gs, off, none⟩ ∧ Blk w gs 216 Lr ∧ w.cell? ⟨gs, off + k, none⟩ = some (.pointer (some ⟨gx, 0, none⟩)) ∧ Blk w gx 331 Lx ∧ w.cell? ⟨gx, 43, none⟩ = some (.int .i64 (ss[k] : Int))
theorem PsS.up {w w' : World} {gp : Nat} {ss : List Nat} (h : PsS w gp ss) (H : ∀ g t L, (t = 352 ∨ t = 216 ∨ t = 331) → Blk w g t L → Blk w' g t L) : PsS w' gp ss := by
 obtain ⟨Lp, Ab, cb, h1, h2, h3⟩ := h
 have k1 := H _ _ _ (.inl rfl) h1
 refine ⟨Lp, Ab, cb, k1, (cell_same h1 k1 _).trans h2, fun k hk => ?_⟩
 obtain ⟨gs, off, Lr, gx, Lx, e1, e2, e3, e4, e5⟩ := h3 k hk
 have k2 := H _ _ _ (.inr (.inl rfl)) e2
 have k4 := H _ _ _ (.inr (.inr rfl)) e4
 exact ⟨gs, off, Lr, gx, Lx, e1, k2, (cell_same e2 k2 _).trans e3, k4, (cell_same e4 k4 _).trans e5⟩
theorem PsS.below {w w' : World} {gp : Nat} {ss : List Nat} (h : PsS w gp ss) (k : Below w.heap.size w w') : PsS w' gp ss := h.up (fun _ _ _ _ x => x.below k x.lt)
theorem PrAt.pss {w0 w : World} {b g gl : Nat} {X : List (Nat × Option Nat)} {p : Pr} (h : PrAt w0 w b g gl X p) : PsS w g (p.bg.map (·.sent)) := by
 obtain ⟨⟨T, vq, vb, a1, a2, a3, a4⟩, h5, h6, h7, h8, h9, h10⟩ := h
 obtain ⟨Ab, cb, hvb⟩ := a4.form
 subst hvb
 have hXl : (X.map (·.1)).length = (p.bg.map (·.sent)).length := by rw [List.length_map, List.length_map, h5.ln]
 refine ⟨_, Ab, cb, a1.1, by rw [← hXl]; exact a1.c 3 rfl, fun k hk => ?_⟩
 have hk' : k < p.bg.length := by simpa using hk
 obtain ⟨gs, off, gx, D, e1, e2, e3, e4, e5, e6, e7⟩ := xs_row a4 h5 k hk'
 subst e1
 obtain ⟨Lr, hLr⟩ : ∃ Lr, Blk w gs 216 Lr := by
  obtain ⟨css, hown, he⟩ := a4
  rcases hown.2 with ⟨e, _⟩ | ⟨g', cap, cur, e, _, hg, _⟩
  ·
   cases e
  ·
   injection e with e _ _
   injection e with e
   injection e with e _ _
   subst e
   exact ⟨cur.toList, hg⟩
 obtain ⟨vn, hs, eb, qs, hB, _, _⟩ := e5.b
 obtain ⟨L, vt, ds, hb, _, _, _, _, _, _, _, _, _, _, _, _, _, c43, _⟩ := hB.cells
 exact ⟨gs, off, Lr, gx, L, rfl, hLr, e3, hb, by rw [List.getElem_map]; exact hb.cell_ 43 c43⟩
theorem xsent_cell {w : World} {g : Nat} {s : Int} (d43 : w.cell? ⟨g, 43, none⟩ = some (.int .i64 s)) : Calls prog 183 #[.pointer (some ⟨g, 0, none⟩)] w (Ret (.int .i64 s) w) := by
 go_enter func183, ntmps183
 go_wp2_with fail
 go_ret
 exact Ret.mk rfl rfl
set_option maxHeartbeats 1000000 in
theorem psent_st {w : World} {g : Nat} {ss : List Nat} (h : PsS w g ss) (hs : ∀ x ∈ ss, x ≤ 1000000) (hl : ss.length ≤ 2) : Calls prog 242 #[.pointer (some ⟨g, 0, none⟩)] w (Ret (.int .i64 (ss.sum : Nat)) w) := by
 obtain ⟨Lp, Ab, cb, h1, d13, h3⟩ := h
 have ROW := Hh h3
 obtain ⟨n, hn⟩ : ∃ n, Hid (ss.length = n) := ⟨_, Hh rfl⟩
 rw [hn.out] at d13
 rw [hn.out] at hl
 have HSN := Hh hs
 obtain ⟨R, hR0⟩ : ∃ R, Hid (ss.sum = R) := ⟨_, Hh rfl⟩
 have hR : Hid ((ss.take n).sum = R) := Hh (by rw [← hn.out, List.take_length]; exact hR0.out)
 rw [hR0.out]
 clear h1 h3 hs hR0
 go_enter func242, ntmps242
 go_wp2_with fail
 go_loopw [3, 13] (fun nv iv wr => ∃ k s : Nat, k ≤ n ∧ iv = .int .i64 k ∧ nv = .int .i64 s ∧ Hid ((ss.take k).sum = s) ∧ s ≤ 1000000 * k ∧ wr = w) (fun _ iv _ => n - (intOf iv).toNat)
 case atStart => exact ⟨0, 0, Nat.zero_le _, rfl, rfl, Hh rfl, Nat.zero_le _, rfl⟩
 obtain ⟨k, s, hk, rfl, rfl, HS, hsb, rfl⟩ := hrel
 by_cases hlt : k < n
 case pos =>
  have hlt' : (k : Int) < n := by omega
  have hlp : k < ss.length := by rw [hn.out]; exact hlt
  obtain ⟨gs, off, Lr, gx, Lx, e1, e2, e3, e4, e5⟩ := ROW.out k hlp
  have SN := Hh (xsent_cell e5)
  have h45 := HSN.out _ (List.getElem_mem hlp)
  have HY : Hid ((ss.take (k + 1)).sum = s + ss[k]) := Hh (by
   rw [List.take_succ_eq_append_getElem hlp, List.sum_append, HS.out]; simp)
  subst e1
  generalize ss[k] = sk at *
  clear e2 e4 e5 HS hlp
  go_wp2_with fail
  refine SN.out.mono ?_
  rintro _ w2 ⟨rfl, rfl⟩
  clear SN
  go_wp2_with fail
  go_roundw
  case rel => exact ⟨k + 1, s + sk, by omega, by go_num, by go_num, HY, by omega, trivial⟩
  case measure => simp [intOf]; omega
 have hlt' : ¬ (k : Int) < n := by omega
 obtain rfl : k = n := by omega
 have hR' := hR.out
 rw [HS.out] at hR'
 clear HS ROW hR HSN
 subst hR'
 go_wp2_with fail
 go_ret
 exact Ret.mk rfl rfl
def HsS43 (w : World) (g : Nat) : Prop := ∃ L gp ss, Blk w g 185 L ∧ L[23]? = some (.pointer (some ⟨gp, 0, none⟩)) ∧ L[25]? = some (.int .i64 0) ∧ L[26]? = some (.bool false) ∧ PsS w gp ss ∧ (∀ x ∈ ss, x ≤ 1000000) ∧ ss.length ≤ 2 ∧ ss.sum = 1
theorem HsS43.up {w w' : World} {g : Nat} (h : HsS43 w g) (H : ∀ g t L, (t = 185 ∨ t = 352 ∨ t = 216 ∨ t = 331) → Blk w g t L → Blk w' g t L) : HsS43 w' g := by
 obtain ⟨L, gp, ss, h1, h2, h3, h4, h5, h6⟩ := h
 exact ⟨L, gp, ss, H _ _ _ (.inl rfl) h1, h2, h3, h4, h5.up (fun g t L ht x => H g t L (.inr ht) x), h6⟩
theorem HsS43.below {w w' : World} {g : Nat} (h : HsS43 w g) (k : Below w.heap.size w w') : HsS43 w' g := h.up (fun _ _ _ _ x => x.below k x.lt)
theorem HsS43.grown {w w' : World} {g q : Nat} {L : List Value} (h : HsS43 w g) (hg : w.grownBy w' (some q)) (hb : Blk w q 107 L) : HsS43 w' g := h.up (fun g t L ht x => x.grown hg (by
 simp
 have : t ≠ 107 := by rcases ht with rfl | rfl | rfl | rfl <;> decide
 first | exact blk_ne x hb this | exact (blk_ne x hb this).symm))
theorem HsS43.done {w : World} {g : Nat} (h : HsS43 w g) : Calls prog 403 #[.pointer (some ⟨g, 0, none⟩)] w (Ret (.bool false) w) := by
 obtain ⟨L, gp, ss, h1, h2, h3, h4, _⟩ := h
 have d26 := h1.cell_ 26 h4
 clear h1 h2 h3 h4
 go_enter func403, ntmps403
 go_wp2_with fail
 go_ret
 exact Ret.mk rfl rfl
theorem HsS43.sent {w : World} {g : Nat} (h : HsS43 w g) : Calls prog 405 #[.pointer (some ⟨g, 0, none⟩)] w (RetB (.int .i64 1) w) := by
 obtain ⟨L, gp, ss, h1, h2, h3, h4, h5, h6, h7, h8⟩ := h
 have HC := Hh (fun V (hV : Below w.heap.size w V) => psent_st (h5.below hV) h6 h7)
 rw [h8] at HC
 have d23 := h1.cell_ 23 h2
 have d25 := h1.cell_ 25 h3
 have hlt := h1.lt
 have LS : Hid (∀ V, Below w.heap.size w V → (Instr.loadAt 3 (.pointer (some ⟨g, 25, none⟩))).run prog V = .ok (.int .i64 0) V) := Hh (fun V hV => run_load1 underlying3 rfl ((hV.cell hlt).trans d25))
 have LP : Hid (∀ V, Below w.heap.size w V → (Instr.loadAt 181 (.pointer (some ⟨g, 23, none⟩))).run prog V = .ok (.pointer (some ⟨gp, 0, none⟩)) V) := Hh (fun V hV => run_load1 underlying181 rfl ((hV.cell hlt).trans d23))
 clear h1 h2 h3 h4 h5 h6 h7 h8 d25
 go_enter func405, ntmps405
 go_wp2_with fail
 refine wp_region_old (by kernel_rfl) (by kernel_rfl) ?_
 (refine wpQuiet_val (v := (.pointer (some ⟨g, 0, none⟩))) rfl (fun W hW => by first | (go_simp; done) | (go_simp; omega)) ?_; simp only [Act.put, lsA, lsB, lsC])
 (refine wpQuiet_val (v := (.pointer (some ⟨g, 0, none⟩))) rfl (fun W hW => by first | (go_simp; done) | (go_simp; omega)) ?_; simp only [Act.put, lsA, lsB, lsC])
 (refine wpQuiet_val (v := (.pointer (some ⟨g, 25, none⟩))) rfl (fun W hW => by first | (go_simp; done) | (go_simp; omega)) ?_; simp only [Act.put, lsA, lsB, lsC])
 refine wpQuiet_ld (v := .int .i64 0) 3 (.tmp 12) rfl ⟨g, 25, none⟩ rfl rfl (fun V hV => LS.out V hV) ?_
 simp only [Act.put, lsA, lsB, lsC]
 (refine wpQuiet_val (v := (.pointer (some ⟨g, 0, none⟩))) rfl (fun W hW => by first | (go_simp; done) | (go_simp; omega)) ?_; simp only [Act.put, lsA, lsB, lsC])
 (refine wpQuiet_val (v := (.pointer (some ⟨g, 0, none⟩))) rfl (fun W hW => by first | (go_simp; done) | (go_simp; omega)) ?_; simp only [Act.put, lsA, lsB, lsC])
 (refine wpQuiet_val (v := (.pointer (some ⟨g, 23, none⟩))) rfl (fun W hW => by first | (go_simp; done) | (go_simp; omega)) ?_; simp only [Act.put, lsA, lsB, lsC])
 refine wpQuiet_ld (v := .pointer (some ⟨gp, 0, none⟩)) 181 (.tmp 16) rfl ⟨g, 23, none⟩ rfl rfl (fun V hV => LP.out V hV) ?_
 simp only [Act.put, lsA, lsB, lsC]
 refine wpQuiet_call (v := .int .i64 1) 242 #[.pointer (some ⟨gp, 0, none⟩)] rfl (fun W => by go_simp) (fun W hW => Ret.old hW (HC.out W hW)) ?_
 simp only [Act.put, lsA, lsB, lsC]
 refine wpQuiet_val (v := .int .i64 1) rfl (fun W hW => by go_simp; rfl) ?_
 simp only [Act.put, lsA, lsB, lsC]
 (refine wpQuiet_val (v := (.int .i64 1)) rfl (fun W hW => by first | (go_simp; done) | (go_simp; omega)) ?_; simp only [Act.put, lsA, lsB, lsC])
 refine wpQuiet_nil ?_
 intro w2 h2
 go_wp2_with fail
 go_ret
 exact RetB.mk rfl h2
theorem hm_done (a : Addr) (w : World) : (method 606 105 (.pointer (some a)) "Done").run prog w = .ok (403, .pointer (some a)) w := by kernel_rfl
theorem hm_sent (a : Addr) (w : World) : (method 606 105 (.pointer (some a)) "Sent").run prog w = .ok (405, .pointer (some a)) w := by kernel_rfl
def looV (gh : Nat) : Value := .iface 105 (.pointer (some ⟨gh, 0, none⟩))
section
variable {w : World} {g gh : Nat} {fv : Value} {rc : List Value}
theorem settle_wait (h : Blk w g 91 ([looV gh, fv, .bool false] ++ rc)) (HD : Calls prog 403 #[.pointer (some ⟨gh, 0, none⟩)] w (Ret (.bool false) w)) : Calls prog 79 #[.pointer (some ⟨g, 0, none⟩)] w (Ret (.tuple #[]) w) := by
 have d2 : w.cell? ⟨g, 2, none⟩ = some (.bool false) := h.cell_ 2 rfl
 have d0 : w.cell? ⟨g, 0, none⟩ = some (.iface 105 (.pointer (some ⟨gh, 0, none⟩))) := h.cell_ 0 rfl
 have hm := fun W => hm_done ⟨gh, 0, none⟩ W
 have HD1 := Hh HD
 clear h HD
 go_enter func79, ntmps79
 go_wp2_with fail
 refine HD1.out.mono ?_
 rintro _ _ ⟨rfl, rfl⟩
 go_wp2_with fail
 go_end0
 exact Ret.mk rfl rfl
theorem csent_wait (h : Blk w g 91 ([looV gh, fv, .bool false] ++ rc)) (n : Int) (HD : Calls prog 405 #[.pointer (some ⟨gh, 0, none⟩)] w (RetB (.int .i64 n) w)) : Calls prog 13 #[.pointer (some ⟨g, 0, none⟩)] w (RetB (.int .i64 n) w) := by
 have d0 : w.cell? ⟨g, 0, none⟩ = some (.iface 105 (.pointer (some ⟨gh, 0, none⟩))) := h.cell_ 0 rfl
 have hm := fun W => hm_sent ⟨gh, 0, none⟩ W
 have HD1 := Hh HD
 clear h HD
 go_enter func13, ntmps13
 go_wp2_with fail
 refine HD1.out.mono ?_
 rintro _ w2 ⟨rfl, b2⟩
 go_wp2_with fail
 go_ret
 exact RetB.mk rfl b2
end
def callC (gh : Nat) (fv : Value) : List Value := [looV gh, fv, .bool false] ++ rzZ
theorem waiting_any (w : World) (gh : Nat) (h : HsS43 w gh) (f : FuncId) (p : Addr) : Calls prog 26 #[looV gh, .func (.func f) #[.pointer (some p)] #[]] w (fun e w' => ∃ g, e = .returned (.pointer (some ⟨g, 0, none⟩)) ∧ w.heap.size ≤ g ∧ Blk w' g 91 (callC gh (.func (.func f) #[.pointer (some p)] #[])) ∧ Below w.heap.size w w') := by
 have SW := Hh (fun V (hV : Below w.heap.size w V) g rc fv (hb : Blk V g 91 ([looV gh, fv, .bool false] ++ rc)) => settle_wait hb (h.below hV).done)
 clear h
 have H0 : Blk (w.alloc (.cells (callC gh (.func (.func f) #[.pointer (some p)] #[])).toArray 91)) w.heap.size 91 (callC gh (.func (.func f) #[.pointer (some p)] #[])) := Blk.new w _ _
 have BB : Below w.heap.size w (w.alloc (.cells (callC gh (.func (.func f) #[.pointer (some p)] #[])).toArray 91)) := (Below.refl _ _).alloc (Nat.le_refl _) _
 have S1 := Hh (SW.out _ BB _ _ _ H0)
 have HH := Hh H0
 clear SW H0
 unfold looV at *
 go_enter func26, ntmps26
 go_wp2_with fail
 refine S1.out.mono ?_
 rintro _ _ ⟨rfl, rfl⟩
 clear S1
 go_wp2_with fail
 go_ret
 exact ⟨_, rfl, Nat.le_refl _, HH.out, BB⟩
end Go.Proofs.YteimenplbanooaaGreatDoor

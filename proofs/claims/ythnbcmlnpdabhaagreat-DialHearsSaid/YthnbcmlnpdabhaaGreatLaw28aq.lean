/-
  Layer 28, the laws' own: DialHears.
-/
import Derived.Test.YthnbcmlnpdabhaaGreatDq3q
namespace Go.Proofs.YthnbcmlnpdabhaaGreat
open _root_.Go.Proofs.Tryz
open Go.RowKit
set_option maxRecDepth 100000
set_option linter.unusedVariables false
set_option linter.unusedSimpArgs false
theorem run_bec28 (W : World) : (Instr.build 42 #[(0, .int .i64 3)]).run prog W = .ok (.agg (evC ⟨3, Adr.zero, 0, 0, []⟩).toArray) W := by kernel_rfl
theorem wpList_bldG {P : Program} {ops : Array Oper} {rest : List Oper} {o : Oper} {a : Act} {w : World} {Q : Exit → Act → World → Prop} (t : TypeId) (parts : Array (Nat × Operand)) (ho : o.op = .build t parts) (hw : Region.wanted o (yielded ops a.tmps) = true) (vals : Array (Nat × Value)) (hv : parts.map (fun (i, x) => (i, a.eval x)) = vals)
  {v : Value} (hr : (Instr.build t vals).run P w = .ok v w) (h : wpList P ops Q rest (a.put o.dst v) w) : wpList P ops Q (o :: rest) a w := by
 have hx := exec_bld (P := P) (w := w) (o := o) (a := a) t parts ho vals hv hr
 unfold wpList
 rw [if_pos hw]
 left
 unfold Oper.wp
 rw [hx]
 exact h
set_option maxHeartbeats 8000000 in
theorem dialHears_any (cs : List Value) (y : Qy) (A : Option Addr) (c : Nat) (Ae : Option Addr) (ce : Nat) (l : List Ev) (hang : Bool) (w : World) (h1 : QyIs w cs y A c) (hE : EvsR w Ae l) (hEl : l.length ≤ 17592186044416) :
  Calls prog 4 #[.agg cs.toArray, .slice Ae l.length ce, .bool hang] w (RetB (.bool true) w) := by
 have hcl : cs.length = 23 := by rw [h1.hcs]; exact qyC_len h1.ip
 have L20 : cs[20]? = some (.slice A y.q.name.length c) := by rw [h1.hcs]; exact qyC_at h1.ip 2
 have FW := Hh (fun w' (b : Below w.heap.size w w') => fewN_any A c y.q.name w' (h1.nm.below b))
 have TO := Hh (fun w' (b : Below w.heap.size w w') => to_any cs y A c w' (h1.below b))
 have FE := Hh (fun w' (b : Below w.heap.size w w') => few28_any Ae ce l 60 w' (hE.below b) hEl)
 have DN := Hh (fun w' (b : Below w.heap.size w w') hn => dnew_any cs y A c w' (h1.below b) hn)
 have RN := Hh (fun w' (b : Below w.heap.size w w') => rnew_any cs y A c w' (h1.below b))
 have HN := Hh h1.nm
 have HEV := Hh hE
 clear h1 hE
 have B1 := Blk.new w 30 cs
 have HB : Below w.heap.size w (w.alloc (.cells cs.toArray 30)) := (Below.refl _ _).alloc (Nat.le_refl _) _
 go_enter func4, ntmps4
 go_wp2_with fail
 refine (works28_any _).mono ?_
 rintro _ w1 ⟨rfl, b1⟩
 have C1 := B1.below b1 B1.lt
 have HB1 := below_then HB HB.size b1
 clear B1 HB b1
 go_wp2_with fail
 refine (FE.out _ HB1).mono ?_
 rintro _ w2 ⟨b, rfl, hfe, b2⟩
 have C2 := C1.below b2 C1.lt
 have HB2 := below_then HB1 HB1.size b2
 have HFE := Hh hfe
 clear C1 HB1 b2 FE hfe
 cases b with
 | false =>
  clear FW TO DN RN
  go_wp2_with fail
  refine (works28_any _).mono ?_
  rintro _ w3 ⟨rfl, b3⟩
  have HB3 := below_then HB2 HB2.size b3
  go_wp2_with fail
  go_ret
  exact RetB.mk rfl HB3
 | true =>
 obtain ⟨hl60, htot⟩ := HFE.out rfl
 clear HFE
 have a20 := C2.cell_ 20 L20
 by_cases hf : lsum y.q.name ≤ 400
 case neg =>
  rw [decide_eq_false hf] at FW
  clear hf TO DN RN
  generalize y.q.name.length = nl at *
  go_wp2_with fail
  refine (FW.out _ HB2).mono ?_
  rintro _ w3 ⟨rfl, rfl⟩
  go_wp2_with fail
  refine (works28_any _).mono ?_
  rintro _ w3 ⟨rfl, b3⟩
  have HB3 := below_then HB2 HB2.size b3
  go_wp2_with fail
  go_ret
  exact RetB.mk rfl HB3
 rw [decide_eq_true hf] at FW
 have hnl : y.q.name.length ≤ 100000 := by have := lsum_ge y.q.name; omega
 have HQ : Hid (lsum y.q.name ≤ 1000) := Hh (by omega)
 clear hf
 go_wp2_with fail
 refine (FW.out _ HB2).mono ?_
 rintro _ w3 ⟨rfl, rfl⟩
 clear FW a20
 go_wp2_with (refine at_op (.load 30 (.tmp 3)) rfl ?_; go_must (refine wpList_ldB rfl _ _ rfl w.heap.size 0 rfl C2 23 (by omega) _ underlying30 rfl qrInfo cs (tk0 (by omega)) ?_))
 refine (TO.out _ HB2).mono ?_
 rintro _ w3 ⟨rfl, b3⟩
 have C3 := C2.below b3 C2.lt
 have HB3 := below_then HB2 HB2.size b3
 clear C2 HB2 b3 TO
 go_wp2_with fail
 refine (DN.out _ HB3 hnl).mono ?_
 rintro _ w4 ⟨g, v4, rfl, hD4, hO4, b4, hg4⟩
 have C4 := C3.below b4 C3.lt
 have HB4 := below_then HB3 HB3.size b4
 have hgw : w.heap.size < g := Nat.lt_of_lt_of_le C3.lt hg4
 clear C3 HB3 b4 DN hg4
 go_wp2_with (refine at_op (.load 30 (.tmp 3)) rfl ?_; go_must (refine wpList_ldB rfl _ _ rfl w.heap.size 0 rfl C4 23 (by omega) _ underlying30 rfl qrInfo cs (tk0 (by omega)) ?_))
 refine (RN.out _ HB4).mono ?_
 rintro _ w5 ⟨gr, v5, rfl, hR5, hO5, b5, hg5⟩
 have hgg : g < gr := Nat.lt_of_lt_of_le hD4.lt hg5
 have hD5 := hD4.below b5
 have hO45 := hO4.below b5
 have HB5 := below_then HB4 HB4.size b5
 clear C4 HB4 b5 RN hg5 hD4 hO4
 obtain ⟨A4, c4, hv4, hu4, _⟩ := hO45
 obtain ⟨A5, c5, hv5, hu5, _⟩ := hO5
 subst hv4 hv5
 have SO := Hh (sameouts_any A4 A5 c4 c5 _ _ w5 hu4 hu5 (by have := newD_len y; omega) (by have := newD_len y; omega))
 rw [decide_eq_true rfl] at SO
 have HD5 := Hh hD5
 have HR5 := Hh hR5
 have hoc := Hh (newD_oc y)
 have hyy := Hh (newD_y y)
 have hhd := Hh (newD_heard y)
 clear hu4 hu5 hD5 hR5
 generalize (newD y).2 = o5 at *
 generalize (newD y).1 = d5 at *
 go_wp2_with fail
 refine SO.out.mono ?_
 rintro _ w6 ⟨rfl, b6⟩
 have hD6 := HD5.out.below b6
 have hR6 := HR5.out.below b6
 have HB6 := below_then HB5 HB5.size b6
 have SM := Hh (same28_any g gr d5 A c w6 hD6 hR6)
 have HD6 := Hh hD6
 have HR6 := Hh hR6
 clear SO b6 HB5 HD5 HR5 hD6 hR6
 go_wp2_with fail
 refine SM.out.mono ?_
 rintro _ w7 ⟨rfl, b7⟩
 have hD7 := HD6.out.below b7
 have hR7 := HR6.out.below b7
 have HB7 := below_then HB6 HB6.size b7
 clear SM b7 HB6 HD6 HR6
 go_wp2_with fail
 go_loopw [11] (fun iv wr => ∃ (k : Nat) (d : Dl), k ≤ l.length ∧ iv = .int .i64 k ∧ DialAt wr g d ∧ RDialAt wr gr d A c ∧ d.y = y ∧ Hid d.oc ∧ d.heard.length ≤ totE (l.take k) ∧ Below w.heap.size w wr) (fun iv _ => l.length - (intOf iv).toNat)
 case atStart => exact ⟨0, d5, Nat.zero_le _, rfl, hD7, hR7, hyy.out, hoc, by rw [hhd.out]; simp, HB7⟩
 clear hD7 hR7 HB7 hoc hyy hhd
 obtain ⟨k, d, hk, rfl, hD, hR, hy, hoc, hhd, HW⟩ := hrel
 by_cases hlt : k < l.length
 case pos =>
  have hlt' : (k : Int) < l.length := by omega
  obtain ⟨ba, oa, hA1, la1, ra, hip, hdl⟩ := HEV.out.at_ k hlt
  have hT := totE_take l k hlt
  have hT2 := totE_le l (k + 1)
  have hel : (evC l[k]).length = 22 := evC_len hip
  have EL : Hid (∀ V, Below w.heap.size w V → (Instr.loadAt 42 (.pointer (some ⟨ba, oa + k * 22, none⟩))).run prog V = .ok (.agg (evC l[k]).toArray) V) := Hh (fun V hV => rangeK_loads (range_below ra hV la1) underlying42 rfl (by rw [hel]; exact evInfo1))
  have HC := Hh (fun V (h : DialAt V g d) => hear_any g d l[k] V h hip (by omega))
  have RC := Hh (fun V (h : RDialAt V gr d A c) (hb : Below w.heap.size w V) => rhear_any gr d l[k] A c V h (by rw [hy]; exact HN.out.below hb) (by rw [hy]; exact HN.out.off (by omega)) (by rw [hy]; exact HQ.out) hoc.out hip (by omega))
  have hoc2 := Hh (hearD_oc d l[k] hoc.out)
  have hy2 := Hh ((hearD_y d l[k]).trans hy)
  have hh2 : (hearD d l[k]).1.heard.length ≤ totE (l.take (k + 1)) := by have := hearD_heard d l[k]; omega
  have hol := hearD_len d l[k]
  have hDd := hD.below (Below.refl _ wr).drew
  have hRd := hR.below (Below.refl _ wr).drew
  have hgl := hR.lt
  obtain ⟨Lg, hbg⟩ := hDd.blk
  have HDd := Hh hDd
  have HRd := Hh hRd
  unfold DialRet at HC
  unfold RDialRet at RC
  clear ra hip hdl hel hT hT2 hD hR hDd hRd
  subst hA1
  generalize hearD d l[k] = r at *
  generalize evC l[k] = ek at *
  go_wp2_with fail
  refine wp_region_held_drew (S := fun V => Below w.heap.size w V) (by kernel_rfl) HW.drew (fun hS => ?_)
  refine held_val 0 (some 59) (v := .pointer (some ⟨g, 0, none⟩)) rfl rfl (by kernel_rfl) (by kernel_rfl) (by kernel_rfl) (fun _ _ _ h => h) (by kernel_rfl) (fun W hW => rfl) hS ?_
  simp only [Act.put, lsA, lsB, lsC]
  refine held_val 1 (some 60) (v := .slice (some ⟨ba, oa, none⟩) l.length ce) rfl rfl (by kernel_rfl) (by kernel_rfl) (by kernel_rfl) (fun _ _ _ h => h) (by kernel_rfl) (fun W hW => rfl) hS ?_
  simp only [Act.put, lsA, lsB, lsC]
  refine held_val 2 (some 61) (v := .int .i64 k) rfl rfl (by kernel_rfl) (by kernel_rfl) (by kernel_rfl) (fun _ _ _ h => h) (by kernel_rfl) (fun W hW => rfl) hS ?_
  simp only [Act.put, lsA, lsB, lsC]
  refine held_val 3 (some 62) (v := .pointer (some ⟨ba, oa + k * 22, none⟩)) rfl rfl (by kernel_rfl) (by kernel_rfl) (by kernel_rfl) (fun _ _ _ h => h) (by kernel_rfl) (fun W hW => exec_ixK underlying56 evInfo1 (by omega) (.tmp 60) (.tmp 61) rfl rfl rfl hlt W) hS ?_
  simp only [Act.put, lsA, lsB, lsC]
  refine held_ld 4 (some 63) (v := .agg ek.toArray) 42 (.tmp 62) ⟨ba, oa + k * 22, none⟩ rfl rfl rfl rfl (by kernel_rfl) (by kernel_rfl) (by kernel_rfl) (fun _ _ _ h => h) (by kernel_rfl) (fun V hV => EL.out V hV) hS ?_
  simp only [Act.put, lsA, lsB, lsC]
  refine held_val 6 (some 65) (v := .pointer (some ⟨gr, 0, none⟩)) rfl rfl (by kernel_rfl) (by kernel_rfl) (by kernel_rfl) (fun _ _ _ h => h) (by kernel_rfl) (fun W hW => rfl) hS ?_
  simp only [Act.put, lsA, lsB, lsC]
  refine held_val 7 (some 66) (v := .slice (some ⟨ba, oa, none⟩) l.length ce) rfl rfl (by kernel_rfl) (by kernel_rfl) (by kernel_rfl) (fun _ _ _ h => h) (by kernel_rfl) (fun W hW => rfl) hS ?_
  simp only [Act.put, lsA, lsB, lsC]
  refine held_val 8 (some 67) (v := .int .i64 k) rfl rfl (by kernel_rfl) (by kernel_rfl) (by kernel_rfl) (fun _ _ _ h => h) (by kernel_rfl) (fun W hW => rfl) hS ?_
  simp only [Act.put, lsA, lsB, lsC]
  refine held_val 9 (some 68) (v := .pointer (some ⟨ba, oa + k * 22, none⟩)) rfl rfl (by kernel_rfl) (by kernel_rfl) (by kernel_rfl) (fun _ _ _ h => h) (by kernel_rfl) (fun W hW => exec_ixK underlying56 evInfo1 (by omega) (.tmp 66) (.tmp 67) rfl rfl rfl hlt W) hS ?_
  simp only [Act.put, lsA, lsB, lsC]
  refine held_ld 10 (some 69) (v := .agg ek.toArray) 42 (.tmp 68) ⟨ba, oa + k * 22, none⟩ rfl rfl rfl rfl (by kernel_rfl) (by kernel_rfl) (by kernel_rfl) (fun _ _ _ h => h) (by kernel_rfl) (fun V hV => EL.out V hV) hS ?_
  simp only [Act.put, lsA, lsB, lsC]
  refine ord_one 5 (by kernel_rfl) ?_
  refine opw_call 5 (some 64) 18 #[.pointer (some ⟨g, 0, none⟩), .agg ek.toArray] rfl rfl (by kernel_rfl) (by go_simp) (HC.out _ HDd.out) ?_
  rintro _ wa ⟨va, rfl, hOa, hDa, ga⟩
  have hRa := HRd.out.far ga hbg
  have hSa : Below w.heap.size w wa := below_grown hS ga hS.size (by omega)
  refine ⟨_, rfl, hSa, ?_⟩
  clear hS
  simp only [Act.put, lsA, lsB, lsC]
  refine ord_one 11 (by kernel_rfl) ?_
  refine opw_call 11 (some 70) 27 #[.pointer (some ⟨gr, 0, none⟩), .agg ek.toArray] rfl rfl (by kernel_rfl) (by go_simp) (RC.out _ hRa hSa) ?_
  rintro _ wb ⟨vb, rfl, hOb, hRb, gb⟩
  obtain ⟨_, _, hbr, _⟩ := hRa.blk
  have hDb := hDa.far gb hbr
  have hSb : Below w.heap.size w wb := below_grown hSa gb hSa.size (by omega)
  have hOab := hOa.grown gb (by show gr < wr.drew.heap.size; exact hgl)
  refine ⟨_, rfl, hSb, ?_⟩
  simp only [Act.put, lsA, lsB, lsC]
  obtain ⟨A1, c1, hv1, hu1, _⟩ := hOab
  obtain ⟨A2, c2, hv2, hu2, _⟩ := hOb
  subst hv1 hv2
  have SO := Hh (sameouts_any A1 A2 c1 c2 _ _ wb hu1 hu2 (by omega) (by omega))
  rw [decide_eq_true rfl] at SO
  clear hSa ga gb hRa hDa hOa hbr hu1 hu2 HC RC EL HDd HRd hbg
  refine ord_one 12 (by kernel_rfl) ?_
  refine opw_call 12 (some 71) 25 #[.slice A1 r.2.length c1, .slice A2 r.2.length c2] rfl rfl (by kernel_rfl) (by go_simp) SO.out ?_
  rintro _ wc ⟨rfl, bc⟩
  have hDc := hDb.below bc
  have hRc := hRb.below bc
  have hS : Below w.heap.size w wc := below_then hSb hSb.size bc
  refine ⟨_, rfl, hS, ?_⟩
  clear hSb bc hDb hRb SO
  simp only [Act.put, lsA, lsB, lsC]
  refine held_val 13 (some 72) (v := .bool false) rfl rfl (by kernel_rfl) (by kernel_rfl) (by kernel_rfl) (fun _ _ _ h => h) (by kernel_rfl) (fun W hW => by kernel_rfl) hS ?_
  simp only [Act.put, lsA, lsB, lsC]
  refine held_val 14 (some 73) (v := .bool false) rfl rfl (by kernel_rfl) (by kernel_rfl) (by kernel_rfl) (fun _ _ _ h => h) (by kernel_rfl) (fun W hW => rfl) hS ?_
  simp only [Act.put, lsA, lsB, lsC]
  refine held_val 15 (some 74) (v := .pointer (some ⟨g, 0, none⟩)) rfl rfl (by kernel_rfl) (by kernel_rfl) (by kernel_rfl) (fun _ _ _ h => h) (by kernel_rfl) (fun W hW => rfl) hS ?_
  simp only [Act.put, lsA, lsB, lsC]
  refine held_val 16 (some 75) (v := .pointer (some ⟨gr, 0, none⟩)) rfl rfl (by kernel_rfl) (by kernel_rfl) (by kernel_rfl) (fun _ _ _ h => h) (by kernel_rfl) (fun W hW => rfl) hS ?_
  simp only [Act.put, lsA, lsB, lsC]
  refine ord_one 17 (by kernel_rfl) ?_
  refine opw_call 17 (some 76) 26 #[.pointer (some ⟨g, 0, none⟩), .pointer (some ⟨gr, 0, none⟩)] rfl rfl (by kernel_rfl) (by go_simp) (same28_any g gr r.1 A c wc hDc hRc) ?_
  rintro _ wd ⟨rfl, bd⟩
  have hDe := hDc.below bd
  have hRe := hRc.below bd
  have hS2 : Below w.heap.size w wd := below_then hS hS.size bd
  refine ⟨_, rfl, hS2, ?_⟩
  clear hS bd hDc hRc
  have hS := hS2
  clear hS2
  simp only [Act.put, lsA, lsB, lsC]
  refine held_val 18 (some 77) (v := .bool false) rfl rfl (by kernel_rfl) (by kernel_rfl) (by kernel_rfl) (fun _ _ _ h => h) (by kernel_rfl) (fun W hW => by kernel_rfl) hS ?_
  simp only [Act.put, lsA, lsB, lsC]
  refine held_val 19 (some 78) (v := .bool false) rfl rfl (by kernel_rfl) (by kernel_rfl) (by kernel_rfl) (fun _ _ _ h => h) (by kernel_rfl) (fun W hW => rfl) hS ?_
  simp only [Act.put, lsA, lsB, lsC]
  refine wpAnyH_done (by kernel_rfl) ?_ _
  go_wp2_with fail
  go_roundw
  case rel => exact ⟨k + 1, r.1, by omega, by go_num, hDe, hRe, hy2.out, hoc2, hh2, hS⟩
  case measure => simp [intOf]; omega
 obtain rfl : k = l.length := by omega
 have hlt' : ¬ (l.length : Int) < l.length := by omega
 have HD := Hh hD
 have HR := Hh hR
 clear hD hR hhd hoc hEl htot hl60 HEV HN HQ
 cases hang with
 | false =>
  have hD' := HD.out
  have hR' := HR.out
  have HW' := HW
  have SM := Hh (same28_any _ _ _ _ _ _ hD' hR')
  have EB := Hh (fun W => run_bec28 W)
  clear hD' hR'
  generalize evC ⟨3, Adr.zero, 0, 0, []⟩ = ez at *
  go_wp2_with fail
  refine SM.out.mono ?_
  rintro _ wa ⟨rfl, ba⟩
  have Ha := below_then HW' HW'.size ba
  clear SM ba HW'
  go_wp2_with (refine at_op (.build 42 #[(0, .const (.int .i64 3))]) rfl ?_; go_must (refine wpList_bldG 42 _ rfl (by go_simp) #[(0, .int .i64 3)] (by simp [Act.eval, Act.put]) (EB.out _) ?_))
  refine (hear_nil ez _).mono ?_
  rintro _ wb ⟨rfl, bb⟩
  have Hb := below_then Ha Ha.size bb
  clear Ha bb
  go_wp2_with fail
  refine (hang_nil _).mono ?_
  rintro _ wc ⟨rfl, rfl⟩
  go_wp2_with fail
  refine (dstate_nil _).mono ?_
  rintro _ wc ⟨rfl, rfl⟩
  go_wp2_with fail
  refine (dmsg_nil _).mono ?_
  rintro _ wc ⟨ds, rfl, hM, bc⟩
  have Hc := below_then Hb Hb.size bc
  have SZ : Hid (Calls prog 21 #[.agg ds.toArray, .agg msgZ.toArray] wc (RetB (.bool true) wc)) := Hh (by
   have := same_owns hM (MsgOwn.zero wc)
   rwa [decide_eq_true rfl] at this)
  clear Hb bc hM
  go_wp2_with fail
  refine SZ.out.mono ?_
  rintro _ wd ⟨rfl, bd⟩
  have Hd := below_then Hc Hc.size bd
  go_wp2_with fail
  go_ret
  exact RetB.mk rfl Hd
 | true =>
  have HC := Hh (hang_any g d wr HD.out)
  have hol := hangD_len d
  unfold DialRet at HC
  have RC := Hh (fun V h => rhang_any gr d A c V h)
  unfold RDialRet at RC
  obtain ⟨Lg, hbg⟩ := HD.out.blk
  have hgl := HR.out.lt
  generalize hangD d = r at *
  go_wp2_with fail
  refine HC.out.mono ?_
  rintro _ wa ⟨va, rfl, hOa, hDa, ga⟩
  have hRa := HR.out.far ga hbg
  have hSa : Below w.heap.size w wa := below_grown HW ga HW.size (by omega)
  clear HC hbg
  go_wp2_with fail
  refine (RC.out _ hRa).mono ?_
  rintro _ wb ⟨vb, rfl, hOb, hRb, gb⟩
  obtain ⟨_, _, hbr, _⟩ := hRa.blk
  have hDb := hDa.far gb hbr
  have hSb : Below w.heap.size w wb := below_grown hSa gb hSa.size (by omega)
  have hOab := hOa.grown gb hgl
  obtain ⟨A1, c1, hv1, hu1, _⟩ := hOab
  obtain ⟨A2, c2, hv2, hu2, _⟩ := hOb
  subst hv1 hv2
  have SO := Hh (sameouts_any A1 A2 c1 c2 _ _ wb hu1 hu2 (by omega) (by omega))
  rw [decide_eq_true rfl] at SO
  have HDb := Hh hDb
  have HRb := Hh hRb
  clear hSa ga gb hRa hDa hOa hbr hu1 hu2 RC hDb hRb
  go_wp2_with fail
  refine SO.out.mono ?_
  rintro _ wc ⟨rfl, bc⟩
  have HW' := below_then hSb hSb.size bc
  have hD' := HDb.out.below bc
  have hR' := HRb.out.below bc
  clear SO bc HDb HRb hSb
  have SM := Hh (same28_any _ _ _ _ _ _ hD' hR')
  have EB := Hh (fun W => run_bec28 W)
  clear hD' hR'
  generalize evC ⟨3, Adr.zero, 0, 0, []⟩ = ez at *
  go_wp2_with fail
  refine SM.out.mono ?_
  rintro _ wa ⟨rfl, ba⟩
  have Ha := below_then HW' HW'.size ba
  clear SM ba HW'
  go_wp2_with (refine at_op (.build 42 #[(0, .const (.int .i64 3))]) rfl ?_; go_must (refine wpList_bldG 42 _ rfl (by go_simp) #[(0, .int .i64 3)] (by simp [Act.eval, Act.put]) (EB.out _) ?_))
  refine (hear_nil ez _).mono ?_
  rintro _ wb ⟨rfl, bb⟩
  have Hb := below_then Ha Ha.size bb
  clear Ha bb
  go_wp2_with fail
  refine (hang_nil _).mono ?_
  rintro _ wc ⟨rfl, rfl⟩
  go_wp2_with fail
  refine (dstate_nil _).mono ?_
  rintro _ wc ⟨rfl, rfl⟩
  go_wp2_with fail
  refine (dmsg_nil _).mono ?_
  rintro _ wc ⟨ds, rfl, hM, bc⟩
  have Hc := below_then Hb Hb.size bc
  have SZ : Hid (Calls prog 21 #[.agg ds.toArray, .agg msgZ.toArray] wc (RetB (.bool true) wc)) := Hh (by
   have := same_owns hM (MsgOwn.zero wc)
   rwa [decide_eq_true rfl] at this)
  clear Hb bc hM
  go_wp2_with fail
  refine SZ.out.mono ?_
  rintro _ wd ⟨rfl, bd⟩
  have Hd := below_then Hc Hc.size bd
  go_wp2_with fail
  go_ret
  exact RetB.mk rfl Hd
end Go.Proofs.YthnbcmlnpdabhaaGreat

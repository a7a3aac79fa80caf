/-
  Layer 28, the laws' own: DialPieces.
-/
import Derived.Test.YthnbcmlnpdabhaaGreatDq3q
namespace Go.Proofs.YthnbcmlnpdabhaaGreat
open _root_.Go.Proofs.Tryz
open Go.RowKit
set_option maxRecDepth 100000
set_option linter.unusedVariables false
set_option linter.unusedSimpArgs false
theorem run_bea (p : Int) (W : World) : (Instr.build 42 #[(0, .int .i64 3), (3, .int .i64 p)]).run prog W = .ok (.agg (evC ⟨3, Adr.zero, 0, p, []⟩).toArray) W := by kernel_rfl
theorem run_beb (p : Int) (s : List UInt8) (W : World) : (Instr.build 42 #[(0, .int .i64 4), (3, .int .i64 p), (4, .string (bs s))]).run prog W = .ok (.agg (evC ⟨4, Adr.zero, 0, p, s⟩).toArray) W := by kernel_rfl
theorem heard_len {y : Qy} {s : List UInt8} {d : Dl} (h : Heard y s d) (h0 : d.st = 0) : d.heard = s := by
 obtain ⟨_, h⟩ := h
 rcases h with ⟨_, _, h2, _⟩ | ⟨_, _, _, h4, _⟩
 ·
  rw [h2] at h0; cases h0
 ·
  exact h4
theorem flat_take (l : List (List UInt8)) (k : Nat) (h : k < l.length) : (l.take (k + 1)).flatten = (l.take k).flatten ++ l[k] := by
 rw [List.take_succ_eq_append_getElem h, List.flatten_append]; simp
theorem hearP_any (g : Nat) (y : Qy) (d : Dl) (s dt : List UInt8) (w : World) (h : DialAt w g d) (hh : Heard y s d) (hb : s.length + dt.length ≤ 8796093022208) :
  Calls prog 18 #[.pointer (some ⟨g, 0, none⟩), .agg (evC ⟨4, Adr.zero, 0, y.port, dt⟩).toArray] w (fun e w' => ∃ v d', e = .returned v ∧ DialAt w' g d' ∧ Heard y (s ++ dt) d' ∧ w.grownBy w' (some g)) := by
 by_cases h0 : d.st = 0
 ·
  refine (hear_any g d ⟨4, Adr.zero, 0, y.port, dt⟩ w h rfl (by rw [heard_len hh h0]; exact hb)).mono ?_
  rintro e w' ⟨v, he, _, hD, hg⟩
  exact ⟨v, _, he, hD, hh.step ⟨4, Adr.zero, 0, y.port, dt⟩ rfl rfl, hg⟩
 ·
  have hx : ∀ x : List UInt8, DialAt w g { d with heard := x } := fun x => by
   obtain ⟨p, ⟨vn, ds, k1, k2, k3, k4⟩, k5, k6⟩ := h
   exact ⟨p, ⟨vn, ds, k1, k2, k3, k4⟩, fun e => absurd e h0, fun e => absurd e h0⟩
  have hh' : Heard y s { d with heard := [] } := by
   obtain ⟨h1, h2⟩ := hh
   refine ⟨h1, ?_⟩
   rcases h2 with ⟨m, a, b, c⟩ | ⟨_, b, _⟩
   ·
    exact .inl ⟨m, a, b, c⟩
   ·
    exact absurd b h0
  refine (hear_any g { d with heard := [] } ⟨4, Adr.zero, 0, y.port, dt⟩ w (hx []) rfl (by simp; omega)).mono ?_
  rintro e w' ⟨v, he, _, hD, hg⟩
  exact ⟨v, _, he, hD, hh'.step ⟨4, Adr.zero, 0, y.port, dt⟩ rfl rfl, hg⟩
theorem DialAt.two {w w' : World} {g g2 : Nat} {d : Dl} {L : List Value} (h : DialAt w g d) (hg : w.grownBy w' (some g2)) (hb : Blk w g2 152 L) (hne : g ≠ g2) : DialAt w' g d := by
 obtain ⟨q, ⟨vn, ds, k1, k2, k3, k4⟩, k5⟩ := h
 obtain ⟨last, ts, b0, b1, hpl, hbk, hc, rr⟩ := k1
 exact ⟨q, ⟨vn, ds, ⟨last, ts, b0, b1, hpl, hbk.grown hg (by intro e; injection e with e; exact hne e), Chain.grown hb hg _ _ hc, rr⟩, k2, k3.dial hg hb, k4.dial hg hb⟩, k5⟩
set_option maxHeartbeats 8000000 in
theorem dialPieces_any (cs : List Value) (y : Qy) (A : Option Addr) (c : Nat) (Al : Option Addr) (cl : Nat) (l : List (List UInt8)) (w : World) (h1 : QyIs w cs y A c) (hT : NmR w Al cl l) :
  Calls prog 3 #[.agg cs.toArray, .slice Al l.length cl] w (RetB (.bool true) w) := by
 have hcl : cs.length = 23 := by rw [h1.hcs]; exact qyC_len h1.ip
 have L20 : cs[20]? = some (.slice A y.q.name.length c) := by rw [h1.hcs]; exact qyC_at h1.ip 2
 have L18 : cs[18]? = some (.int .i64 y.port) := by rw [h1.hcs]; exact qyC_at h1.ip 0
 have FW := Hh (fun w' (b : Below w.heap.size w w') => fewN_any A c y.q.name w' (h1.nm.below b))
 have TO := Hh (fun w' (b : Below w.heap.size w w') => to_any cs y A c w' (h1.below b))
 have DN := Hh (fun w' (b : Below w.heap.size w w') hn => dnew_any cs y A c w' (h1.below b) hn)
 have RF := Hh (fun t w' (b : Below w.heap.size w w') hq => rframe_any cs y A c t w' (h1.below b) hq)
 have HT := Hh hT
 have hll := hT.2.2.1
 clear h1 hT
 have B1 := Blk.new w 30 cs
 have HB : Below w.heap.size w (w.alloc (.cells cs.toArray 30)) := (Below.refl _ _).alloc (Nat.le_refl _) _
 go_enter func3, ntmps3
 go_wp2_with fail
 refine (works28_any _).mono ?_
 rintro _ w1 ⟨rfl, b1⟩
 have C1 := B1.below b1 B1.lt
 have HB1 := below_then HB HB.size b1
 clear B1 HB b1
 have a20 := C1.cell_ 20 L20
 by_cases h40 : 40 < l.length
 case pos =>
  have h40' : (40 : Int) < l.length := by omega
  clear h40 FW TO DN RF
  go_wp2_with fail
  refine (works28_any _).mono ?_
  rintro _ w3 ⟨rfl, b3⟩
  have HB3 := below_then HB1 HB1.size b3
  go_wp2_with fail
  go_ret
  exact RetB.mk rfl HB3
 have h40' : ¬ (40 : Int) < l.length := by omega
 by_cases hf : lsum y.q.name ≤ 400
 case neg =>
  rw [decide_eq_false hf] at FW
  clear hf TO DN RF
  generalize y.q.name.length = nl at *
  go_wp2_with fail
  refine (FW.out _ HB1).mono ?_
  rintro _ w3 ⟨rfl, rfl⟩
  go_wp2_with fail
  refine (works28_any _).mono ?_
  rintro _ w3 ⟨rfl, b3⟩
  have HB3 := below_then HB1 HB1.size b3
  go_wp2_with fail
  go_ret
  exact RetB.mk rfl HB3
 rw [decide_eq_true hf] at FW
 have hnl : y.q.name.length ≤ 100000 := by have := lsum_ge y.q.name; omega
 replace RF := Hh (fun t w' b => RF.out t w' b (by omega))
 clear hf
 go_wp2_with fail
 refine (FW.out _ HB1).mono ?_
 rintro _ w3 ⟨rfl, rfl⟩
 clear FW a20
 go_wp2_with (refine at_op (.load 30 (.tmp 2)) rfl ?_; go_must (refine wpList_ldB rfl _ _ rfl w.heap.size 0 rfl C1 23 (by omega) _ underlying30 rfl qrInfo cs (tk0 (by omega)) ?_))
 refine (TO.out _ HB1).mono ?_
 rintro _ w3 ⟨rfl, b3⟩
 have C3 := C1.below b3 C1.lt
 have HB3 := below_then HB1 HB1.size b3
 clear C1 HB1 b3
 go_wp2_with fail
 refine (DN.out _ HB3 hnl).mono ?_
 rintro _ w4 ⟨g, v4, rfl, hD4, hO4, b4, hg4⟩
 have C4 := C3.below b4 C3.lt
 have HB4 := below_then HB3 HB3.size b4
 have hgw : w.heap.size < g := Nat.lt_of_lt_of_le C3.lt hg4
 have HD4 := Hh hD4
 clear C3 HB3 b4 hg4 hO4 hD4
 go_wp2_with (refine at_op (.load 30 (.tmp 2)) rfl ?_; go_must (refine wpList_ldB rfl _ _ rfl w.heap.size 0 rfl C4 23 (by omega) _ underlying30 rfl qrInfo cs (tk0 (by omega)) ?_))
 refine (TO.out _ HB4).mono ?_
 rintro _ w5 ⟨rfl, b5⟩
 have C5 := C4.below b5 C4.lt
 have HB5 := below_then HB4 HB4.size b5
 have hD5 := HD4.out.below b5
 have HD5 := Hh hD5
 clear C4 HB4 b5 TO HD4 hD5
 go_wp2_with fail
 refine (DN.out _ HB5 hnl).mono ?_
 rintro _ w6 ⟨g2, v6, rfl, hD6, hO6, b6, hg6⟩
 have C6 := C5.below b6 C5.lt
 have HB6 := below_then HB5 HB5.size b6
 have hE6 := HD5.out.below b6
 have hgg : g < g2 := Nat.lt_of_lt_of_le HD5.out.lt hg6
 have ST1 := Hh (dstate_any g _ w6 hE6)
 have ST2 := Hh (dstate_any g2 _ w6 hD6)
 clear C5 HB5 b6 DN hg6 hO6 HD5
 by_cases he : errP y = 0
 case neg =>
  have e1 : (newD y).1.st = 2 := by unfold newD; rw [if_neg he]
  rw [e1] at ST1 ST2
  clear he e1 hD6 hE6 RF
  go_wp2_with fail
  refine ST1.out.mono ?_
  rintro _ w7 ⟨rfl, rfl⟩
  go_wp2_with fail
  refine ST2.out.mono ?_
  rintro _ w7 ⟨rfl, rfl⟩
  go_wp2_with fail
  go_ret
  exact RetB.mk rfl HB6
 have e1 : (newD y).1.st = 0 := by unfold newD; rw [if_pos he]
 rw [e1] at ST1
 have eh : (newD y).1.heard = [] := newD_heard y
 have HO := Hh (heard_open he ⟨3, Adr.zero, 0, y.port, []⟩ rfl rfl)
 have HC1 := Hh (hear_any g _ ⟨3, Adr.zero, 0, y.port, []⟩ w6 hE6 rfl (by rw [eh]; simp))
 have HC2 := Hh (fun V (h : DialAt V g2 (newD y).1) => hear_any g2 _ ⟨3, Adr.zero, 0, y.port, []⟩ V h rfl (by rw [eh]; simp))
 unfold DialRet at HC1 HC2
 have EA := Hh (fun W => run_bea y.port W)
 have c18 := C6.cell_ 18 L18
 have HD6 := Hh hD6
 obtain ⟨Lg, hbg⟩ := hE6.blk
 have hg2l := hD6.lt
 clear he e1 eh ST2 hE6 hD6
 generalize (hearD (newD y).1 ⟨3, Adr.zero, 0, y.port, []⟩) = r at *
 generalize (newD y).1 = d0 at *
 generalize evC ⟨3, Adr.zero, 0, y.port, []⟩ = E1 at *
 have HYP : Hid (∀ g d s dt V, DialAt V g d → Heard y s d → s.length + dt.length ≤ 8796093022208 → Calls prog 18 #[.pointer (some ⟨g, 0, none⟩), .agg (evC ⟨4, Adr.zero, 0, y.port, dt⟩).toArray] V (fun e w' => ∃ v d', e = .returned v ∧ DialAt w' g d' ∧ Heard y (s ++ dt) d' ∧ V.grownBy w' (some g))) := Hh (fun g d s dt V h hh hb => hearP_any g y d s dt V h hh hb)
 have EBB := Hh (fun (dt : List UInt8) W => run_beb y.port dt W)
 obtain ⟨p, hp⟩ : ∃ p, Hid (y.port = p) := ⟨_, Hh rfl⟩
 rw [hp.out] at HYP EBB EA c18 L18
 clear hp
 go_wp2_with fail
 refine ST1.out.mono ?_
 rintro _ w7 ⟨rfl, rfl⟩
 clear ST1
 go_wp2_with (refine at_op (.build 42 #[(0, .const (.int .i64 3)), (3, .tmp 58)]) rfl ?_; go_must (refine wpList_bld rfl 42 _ rfl #[(0, .int .i64 3), (3, .int .i64 p)] (by simp [Act.eval, Act.put]) (EA.out _) ?_))
 refine HC1.out.mono ?_
 rintro _ w7 ⟨v7, rfl, _, hD7, g7⟩
 have C7 := C6.grown g7 (by simp; omega)
 have HB7 := below_grown HB6 g7 HB6.size (by omega)
 have hE7 := HD6.out.two g7 hbg (by omega)
 have d18 := C7.cell_ 18 L18
 have HC3 := Hh (HC2.out _ hE7)
 have HD7 := Hh hD7
 obtain ⟨Lg2, hbg2⟩ := hE7.blk
 clear HC1 HC2 hbg HD6 hE7 HB6 C6 c18 g7 hD7
 go_wp2_with (refine at_op (.build 42 #[(0, .const (.int .i64 3)), (3, .tmp 63)]) rfl ?_; go_must (refine wpList_bld rfl 42 _ rfl #[(0, .int .i64 3), (3, .int .i64 p)] (by simp [Act.eval, Act.put]) (EA.out _) ?_))
 refine HC3.out.mono ?_
 rintro _ w8 ⟨v8, rfl, _, hE8, g8⟩
 have C8 := C7.grown g8 (by simp; omega)
 have HB8 := below_grown HB7 g8 HB7.size (by omega)
 have hD8 := HD7.out.two g8 hbg2 (by omega)
 clear HC3 hbg2 HD7 HB7 C7 d18 g8 EA
 go_wp2_with fail
 go_loopw [9, 10] (fun sv iv wr => ∃ (k : Nat) (d : Dl), k ≤ l.length ∧ iv = .int .i64 k ∧ sv = .string (bs (l.take k).flatten) ∧ (l.take k).flatten.length ≤ 500 * k ∧ DialAt wr g d ∧ Heard y (l.take k).flatten d ∧ DialAt wr g2 r.1 ∧ Blk wr w.heap.size 30 cs ∧ Below w.heap.size w wr) (fun _ iv _ => l.length - (intOf iv).toNat)
 case atStart => exact ⟨0, r.1, Nat.zero_le _, rfl, rfl, by simp, hD8, HO.out, hE8, C8, HB8⟩
 clear hD8 hE8 C8 HB8
 obtain ⟨k, d, hk, rfl, rfl, hfl, hD, hH, hE, C, HW⟩ := hrel
 by_cases hlt : k < l.length
 case pos =>
  have hlt' : (k : Int) < l.length := by omega
  obtain ⟨ba, oa, hA1, la1, xa⟩ := HT.out.1 (by omega)
  have xs1 : wr.cell? ⟨ba, oa + k, none⟩ = some (.string (bs l[k])) := (HW.cell (p := ⟨ba, oa + k, none⟩) la1).trans (xa k hlt)
  have XS : Hid (∀ V, Below w.heap.size w V → V.cell? ⟨ba, oa + k, none⟩ = some (.string (bs l[k]))) := Hh (fun V hV => (hV.cell (p := ⟨ba, oa + k, none⟩) la1).trans (xa k hlt))
  have hm : (l[k]).length ≤ 140737488355328 := HT.out.2.2.2 _ (List.getElem_mem hlt)
  have HFT := Hh (flat_take l k hlt)
  clear xa
  subst hA1
  generalize l[k] = t at *
  by_cases h5 : 500 < t.length
  case pos =>
   have h5' : (500 : Int) < t.length := by omega
   clear h5 hD hE hH HFT
   go_wp2_with fail
   go_ret
   exact RetB.mk rfl HW
  have h5' : ¬ (500 : Int) < t.length := by omega
  have hd18 := C.cell_ 18 L18
  have HCx := Hh (HYP.out g d _ t wr.drew (hD.below (Below.refl _ _).drew) hH (by omega))
  have EB := Hh (fun W => EBB.out t W)
  have hEd := hE.below (Below.refl _ wr).drew
  obtain ⟨Lgd, hbgd⟩ := (hD.below (Below.refl _ wr).drew).blk
  have HEd := Hh hEd
  have hel := evC_len (e := ⟨4, Adr.zero, 0, p, t⟩) rfl
  clear hD hH hE hEd
  generalize evC ⟨4, Adr.zero, 0, p, t⟩ = E2 at *
  generalize (l.take k).flatten = s at *
  go_wp2_with fail
  refine wp_region_held_drew (S := fun V => Blk V w.heap.size 30 cs ∧ Below w.heap.size w V) (by kernel_rfl) ⟨C.drew, HW.drew⟩ (fun hS => ?_)
  refine held_val 0 (some 84) (v := .pointer (some ⟨g, 0, none⟩)) rfl rfl (by kernel_rfl) (by kernel_rfl) (by kernel_rfl) (fun _ _ _ h => h) (by kernel_rfl) (fun W hW => rfl) hS ?_
  simp only [Act.put, lsA, lsB, lsC]
  refine held_val 1 (some 85) (v := .pointer (some ⟨w.heap.size, 18, none⟩)) rfl rfl (by kernel_rfl) (by kernel_rfl) (by kernel_rfl) (fun _ _ _ h => h) (by kernel_rfl) (fun W hW => rfl) hS ?_
  simp only [Act.put, lsA, lsB, lsC]
  refine held_ld 2 (some 86) (v := .int .i64 p) 3 (.tmp 85) ⟨w.heap.size, 18, none⟩ rfl rfl rfl rfl (by kernel_rfl) (by kernel_rfl) (by kernel_rfl) (fun _ _ _ h => h) (by kernel_rfl) (fun V hV => run_load1 underlying3 rfl (hV.1.cell_ 18 L18)) hS ?_
  simp only [Act.put, lsA, lsB, lsC]
  refine held_val 3 (some 87) (v := .slice (some ⟨ba, oa, none⟩) l.length cl) rfl rfl (by kernel_rfl) (by kernel_rfl) (by kernel_rfl) (fun _ _ _ h => h) (by kernel_rfl) (fun W hW => rfl) hS ?_
  simp only [Act.put, lsA, lsB, lsC]
  refine held_val 4 (some 88) (v := .int .i64 k) rfl rfl (by kernel_rfl) (by kernel_rfl) (by kernel_rfl) (fun _ _ _ h => h) (by kernel_rfl) (fun W hW => rfl) hS ?_
  simp only [Act.put, lsA, lsB, lsC]
  refine held_val 5 (some 89) (v := .pointer (some ⟨ba, oa + k, none⟩)) rfl rfl (by kernel_rfl) (by kernel_rfl) (by kernel_rfl) (fun _ _ _ h => h) (by kernel_rfl) (fun W hW => exec_ixS (.tmp 87) (.tmp 88) rfl rfl rfl hlt W) hS ?_
  simp only [Act.put, lsA, lsB, lsC]
  refine held_ld 6 (some 90) (v := .string (bs t)) 9 (.tmp 89) ⟨ba, oa + k, none⟩ rfl rfl rfl rfl (by kernel_rfl) (by kernel_rfl) (by kernel_rfl) (fun _ _ _ h => h) (by kernel_rfl) (fun V hV => run_load1 underlying9 rfl (XS.out V hV.2)) hS ?_
  simp only [Act.put, lsA, lsB, lsC]
  refine held_val 7 (some 91) (v := .agg E2.toArray) rfl rfl (by kernel_rfl) (by kernel_rfl) (by kernel_rfl) (fun _ _ _ h => h) (by kernel_rfl) (fun W hW => exec_bld 42 _ rfl #[(0, .int .i64 4), (3, .int .i64 p), (4, .string (bs t))] (by kernel_rfl) (EB.out W)) hS ?_
  simp only [Act.put, lsA, lsB, lsC]
  refine ord_one 8 (by kernel_rfl) ?_
  refine opw_call 8 (some 92) 18 #[.pointer (some ⟨g, 0, none⟩), .agg E2.toArray] rfl rfl (by kernel_rfl) (by go_simp) HCx.out ?_
  rintro _ wa ⟨va, da, rfl, hDa, hHa, ga⟩
  have Ca := hS.1.grown ga (by simp; omega)
  have HWa := below_grown hS.2 ga hS.2.size (by omega)
  have hEa := HEd.out.two ga hbgd (by omega)
  refine ⟨_, rfl, ⟨Ca, HWa⟩, ?_⟩
  clear hS ga HEd hbgd HCx EB XS xs1 hd18
  simp only [Act.put, lsA, lsB, lsC]
  refine wpAnyH_done (by kernel_rfl) ?_ _
  rw [← HFT.out] at hHa
  have hfl2 : (l.take (k + 1)).flatten.length ≤ 500 * (k + 1) := by rw [HFT.out, List.length_append]; omega
  go_wp2_with fail
  go_roundw
  case rel => exact ⟨k + 1, da, by omega, by go_num, by rw [HFT.out], hfl2, hDa, hHa, hEa, Ca, HWa⟩
  case measure => simp [intOf]; omega
 obtain rfl : k = l.length := by omega
 have hlt' : ¬ (l.length : Int) < l.length := by omega
 rw [List.take_of_length_le (Nat.le_refl _)] at hfl hH ⊢
 have hd18 := C.cell_ 18 L18
 have EB := Hh (fun W => EBB.out l.flatten W)
 have HCy := Hh (HYP.out g2 r.1 [] l.flatten wr hE HO.out (by simp only [List.length_nil]; omega))
 obtain ⟨Lg2, hbg2⟩ := hE.blk
 have HD := Hh hD
 have HH := Hh hH
 have hsl : l.flatten.length ≤ 20000 := by omega
 have FS := Hh (fun V => frames_any l.flatten V (by omega))
 clear hD hH hE HO HYP EBB hfl
 simp only [List.nil_append] at HCy
 generalize evC ⟨4, Adr.zero, 0, p, l.flatten⟩ = E2 at *
 generalize l.flatten = s at *
 go_wp2_with (refine at_op (.build 42 #[(0, .const (.int .i64 4)), (3, .tmp 95), (4, .tmp 96)]) rfl ?_; go_must (refine wpList_bld rfl 42 _ rfl #[(0, .int .i64 4), (3, .int .i64 p), (4, .string (bs s))] (by simp [Act.eval, Act.put]) (EB.out _) ?_))
 refine HCy.out.mono ?_
 rintro _ w9 ⟨v9, d2, rfl, hE9, hH9, g9⟩
 have C9 := C.grown g9 (by simp; omega)
 have HW9 := below_grown HW g9 HW.size (by omega)
 have hD9 := HD.out.two g9 hbg2 (by omega)
 have HH2 := Hh hH9
 have HE9 := Hh hE9
 have HD9 := Hh hD9
 clear hE9 hH9 hD9 g9 HCy HD hbg2 C HW hd18 EB
 unfold FsRet at FS
 go_wp2_with fail
 refine (FS.out _).mono ?_
 rintro _ wa ⟨v, rfl, hTx, ba⟩
 obtain ⟨A1, c1, hv, -, -⟩ := hTx.form
 subst hv
 have Ca := C9.below ba C9.lt
 have HWa := below_then HW9 HW9.size ba
 have hDa := HD9.out.below ba
 have hEa := HE9.out.below ba
 have hfn : (frames s).length ≤ 20000 := by have := frames_le s.length s (Nat.le_refl _); omega
 clear FS C9 HW9 HD9 HE9 ba
 obtain ⟨fl, hfl⟩ : ∃ fl, Hid (frames s = fl) := ⟨_, Hh rfl⟩
 rw [hfl.out] at hTx hfn ⊢
 generalize ((s.length - (restF s).length : Nat) : Int) = kk at *
 have HTX := Hh hTx
 go_wp2_with fail
 go_loopw [11, 14] (fun gv iv wr => ∃ (k : Nat) (b : Bool), k ≤ fl.length ∧ iv = .int .i64 k ∧ gv = .bool b ∧ Hid ((b = false ∧ firstA y (fl.take k) = none) ∨ (b = true ∧ (firstA y fl).isSome = true)) ∧ Below wa.heap.size wa wr) (fun _ iv _ => fl.length - (intOf iv).toNat)
 case atStart => exact ⟨0, false, Nat.zero_le _, rfl, rfl, Hh (.inl ⟨rfl, rfl⟩), Below.refl _ _⟩
 obtain ⟨k, b, hk, rfl, rfl, HB, hW⟩ := hrel
 by_cases hgo : k < fl.length ∧ b = false
 case pos =>
  obtain ⟨hlt, rfl⟩ := hgo
  have hlt' : (k : Int) < fl.length := by omega
  have hno : firstA y (fl.take k) = none := by
   rcases HB.out with ⟨_, h⟩ | ⟨h, _⟩
   ·
    exact h
   ·
    cases h
  obtain ⟨A', c', hA, hTy, hc⟩ := (HTX.out.below hW).form
  injection hA with hA1 hA2 hA3
  subst hA1 hA3
  obtain ⟨bb, ob, hA, lb, xb⟩ := hTy (by omega)
  subst hA
  have CW := Ca.below hW Ca.lt
  have HWr := below_then HWa HWa.size hW
  have FR := Hh (fun W (b : Below wr.heap.size wr W) => RF.out fl[k] W (below_then HWr HWr.size b))
  have XS : Hid (∀ V, Below wr.heap.size wr V → V.cell? ⟨bb, ob + k, none⟩ = some (.string (bs fl[k]))) := Hh (fun V hV => (hV.cell (p := ⟨bb, ob + k, none⟩) lb).trans (xb k hlt))
  have HY : Hid ((frameP y (decM fl[k])).2 = true → firstA y fl = some (frameP y (decM fl[k])).1) := Hh (fun hf => firstA_take_yes hlt hno hf)
  have HNO : Hid ((frameP y (decM fl[k])).2 = false → firstA y (fl.take (k + 1)) = none) := Hh (fun hf => firstA_take_no hlt hno hf)
  clear xb hTy hc hno HB
  generalize frameP y (decM fl[k]) = F at *
  generalize fl[k] = t at *
  go_upto_region 26 with fail
  go_cut [15, 16] (fun v7 v8 wx => ∃ gz es2, v7 = .pointer (some ⟨gz, 0, none⟩) ∧ v8 = .bool F.2 ∧ Blk wx gz 50 es2 ∧ MsgOwn wx es2 F.1 ∧ Below wr.heap.size wr wx)
  case first =>
   refine wp_region_held_drew (S := fun V => Below wr.heap.size wr V) (by kernel_rfl) (Below.refl _ _).drew (fun hS => ?_)
   refine held_ld 0 (some 115) (v := .agg cs.toArray) 30 (.tmp 2) ⟨w.heap.size, 0, none⟩ rfl rfl rfl rfl (by kernel_rfl) (by kernel_rfl) (by kernel_rfl) (fun _ _ _ h => h) (by kernel_rfl) (fun V hV => (CW.below hV CW.lt).loads 30 0 23 (by omega) _ underlying30 rfl qrInfo cs (tk0 (by omega))) hS ?_
   simp only [Act.put, lsA, lsB, lsC]
   refine held_val 1 (some 116) (v := .slice (some ⟨bb, ob, none⟩) fl.length c1) rfl rfl (by kernel_rfl) (by kernel_rfl) (by kernel_rfl) (fun _ _ _ h => h) (by kernel_rfl) (fun W hW => rfl) hS ?_
   simp only [Act.put, lsA, lsB, lsC]
   refine held_val 2 (some 117) (v := .int .i64 k) rfl rfl (by kernel_rfl) (by kernel_rfl) (by kernel_rfl) (fun _ _ _ h => h) (by kernel_rfl) (fun W hW => rfl) hS ?_
   simp only [Act.put, lsA, lsB, lsC]
   refine held_val 3 (some 118) (v := .pointer (some ⟨bb, ob + k, none⟩)) rfl rfl (by kernel_rfl) (by kernel_rfl) (by kernel_rfl) (fun _ _ _ h => h) (by kernel_rfl) (fun W hW => exec_ixS (.tmp 116) (.tmp 117) rfl rfl rfl hlt W) hS ?_
   simp only [Act.put, lsA, lsB, lsC]
   refine held_ld 4 (some 119) (v := .string (bs t)) 9 (.tmp 118) ⟨bb, ob + k, none⟩ rfl rfl rfl rfl (by kernel_rfl) (by kernel_rfl) (by kernel_rfl) (fun _ _ _ h => h) (by kernel_rfl) (fun V hV => run_load1 underlying9 rfl (XS.out V hV)) hS ?_
   simp only [Act.put, lsA, lsB, lsC]
   refine ord_two 5 9 (by kernel_rfl) ?_ ?_
   ·
    refine opw_call 5 (some 120) 20 #[.agg cs.toArray, .string (bs t)] rfl rfl (by kernel_rfl) (by go_simp) (FR.out _ hS) ?_
    rintro _ w9 ⟨es2, rfl, hM9, b9⟩
    have hel := hM9.len
    have he1 := Hh hM9.one
    have hS3 : Below wr.heap.size wr w9 := below_then hS hS.size b9
    refine ⟨_, rfl, hS3, ?_⟩
    clear hS
    have hS := hS3
    clear hS3
    simp only [Act.put, lsA, lsB, lsC]
    (refine held_val 6 (some 114) rfl rfl (by kernel_rfl) (by kernel_rfl) (by kernel_rfl) (fun _ _ _ h => h) (by kernel_rfl) (fun W hW => rfl) hS ?_; simp only [Act.put, lsA, lsB, lsC])
    (refine held_val 7 (some 121) rfl rfl (by kernel_rfl) (by kernel_rfl) (by kernel_rfl) (fun _ _ _ h => h) (by kernel_rfl) (fun W hW => rfl) hS ?_; simp only [Act.put, lsA, lsB, lsC])
    (refine held_val 8 (some 122) rfl rfl (by kernel_rfl) (by kernel_rfl) (by kernel_rfl) (fun _ _ _ h => h) (by kernel_rfl) (fun W hW => rfl) hS ?_; simp only [Act.put, lsA, lsB, lsC])
    refine ord_one 9 (by kernel_rfl) ?_
    generalize hWW : w9 = WW at *
    refine opw_run 9 (some 15) (v := .pointer (some ⟨WW.heap.size, 0, none⟩)) (w' := WW.alloc (.cells msgZ.toArray 50)) rfl rfl (by kernel_rfl) (by kernel_rfl) ?_
    have kn : Below WW.heap.size WW (WW.alloc (.cells msgZ.toArray 50)) := (Below.refl _ _).alloc (Nat.le_refl _) _
    have Bz := Blk.new WW 50 msgZ
    have hS4 := below_then hS hS.size kn
    have hz : wr.heap.size ≤ WW.heap.size := hS.size
    refine ⟨hS4, ?_⟩
    clear hS
    have hS := hS4
    clear hS4
    simp only [Act.put, lsA, lsB, lsC]
    replace hM9 := hM9.below kn
    clear kn
    generalize WW.heap.size = gz at *
    refine held_stB 10 none 50 (.tmp 15) (.tmp 121) (by kernel_rfl) rfl rfl rfl (by kernel_rfl) gz 0 rfl es2 rfl Bz (by have := msgZ_len; omega) (by rw [hel]; exact msgInfo) he1.out ?_
    intro wa Ba ga _
    replace Ba : Blk wa gz 50 es2 := wholeT Ba (by have := msgZ_len; omega)
    have hMa := hM9.blk ga Bz
    have hS5 := below_grown hS ga hS.size hz
    refine ⟨hS5, ?_⟩
    clear hS ga Bz hM9
    have hS := hS5
    clear hS5
    simp only [Act.put, lsA, lsB, lsC]
    (refine held_val 11 (some 16) rfl rfl (by kernel_rfl) (by kernel_rfl) (by kernel_rfl) (fun _ _ _ h => h) (by kernel_rfl) (fun W hW => rfl) hS ?_; simp only [Act.put, lsA, lsB, lsC])
    refine wpAnyH_done (by kernel_rfl) ?_ _
    go_wp2_with fail
    go_meet
    case rel => exact ⟨gz, es2, rfl, rfl, Ba, hMa, hS⟩
   ·
    obtain ⟨WW, hWW⟩ : ∃ WW, wr.drew = WW := ⟨_, rfl⟩
    rw [hWW] at hS ⊢
    refine opw_run 9 (some 15) (v := .pointer (some ⟨WW.heap.size, 0, none⟩)) (w' := WW.alloc (.cells msgZ.toArray 50)) rfl rfl (by kernel_rfl) (by kernel_rfl) ?_
    have kn : Below WW.heap.size WW (WW.alloc (.cells msgZ.toArray 50)) := (Below.refl _ _).alloc (Nat.le_refl _) _
    have Bz := Blk.new WW 50 msgZ
    have hS4 := below_then hS hS.size kn
    have hz : wr.heap.size ≤ WW.heap.size := hS.size
    refine ⟨hS4, ?_⟩
    clear hS
    have hS := hS4
    clear hS4
    simp only [Act.put, lsA, lsB, lsC]
    clear kn
    refine ord_one 5 (by kernel_rfl) ?_
    refine opw_call 5 (some 120) 20 #[.agg cs.toArray, .string (bs t)] rfl rfl (by kernel_rfl) (by go_simp) (FR.out _ hS) ?_
    rintro _ w9 ⟨es2, rfl, hM9, b9⟩
    have hel := hM9.len
    have he1 := Hh hM9.one
    have hS3 : Below wr.heap.size wr w9 := below_then hS hS.size b9
    refine ⟨_, rfl, hS3, ?_⟩
    clear hS
    have hS := hS3
    clear hS3
    simp only [Act.put, lsA, lsB, lsC]
    replace Bz := Bz.below b9 Bz.lt
    (refine held_val 6 (some 114) rfl rfl (by kernel_rfl) (by kernel_rfl) (by kernel_rfl) (fun _ _ _ h => h) (by kernel_rfl) (fun W hW => rfl) hS ?_; simp only [Act.put, lsA, lsB, lsC])
    (refine held_val 7 (some 121) rfl rfl (by kernel_rfl) (by kernel_rfl) (by kernel_rfl) (fun _ _ _ h => h) (by kernel_rfl) (fun W hW => rfl) hS ?_; simp only [Act.put, lsA, lsB, lsC])
    (refine held_val 8 (some 122) rfl rfl (by kernel_rfl) (by kernel_rfl) (by kernel_rfl) (fun _ _ _ h => h) (by kernel_rfl) (fun W hW => rfl) hS ?_; simp only [Act.put, lsA, lsB, lsC])
    generalize WW.heap.size = gz at *
    refine held_stB 10 none 50 (.tmp 15) (.tmp 121) (by kernel_rfl) rfl rfl rfl (by kernel_rfl) gz 0 rfl es2 rfl Bz (by have := msgZ_len; omega) (by rw [hel]; exact msgInfo) he1.out ?_
    intro wa Ba ga _
    replace Ba : Blk wa gz 50 es2 := wholeT Ba (by have := msgZ_len; omega)
    have hMa := hM9.blk ga Bz
    have hS5 := below_grown hS ga hS.size hz
    refine ⟨hS5, ?_⟩
    clear hS ga Bz hM9
    have hS := hS5
    clear hS5
    simp only [Act.put, lsA, lsB, lsC]
    (refine held_val 11 (some 16) rfl rfl (by kernel_rfl) (by kernel_rfl) (by kernel_rfl) (fun _ _ _ h => h) (by kernel_rfl) (fun W hW => rfl) hS ?_; simp only [Act.put, lsA, lsB, lsC])
    refine wpAnyH_done (by kernel_rfl) ?_ _
    go_wp2_with fail
    go_meet
    case rel => exact ⟨gz, es2, rfl, rfl, Ba, hMa, hS⟩
  obtain ⟨gz, es2, rfl, rfl, Bz, hMz, bz⟩ := hcut
  have HWz := below_then hW hW.size bz
  have hDz := hDa.below HWz
  clear FR XS CW bz HWr
  cases hf : F.2 with
  | false =>
   have HN := Hh (HNO.out hf)
   clear HNO HY hf hMz Bz hDz
   go_wp2_with fail
   go_roundw
   case rel => exact ⟨k + 1, false, by omega, by go_num, rfl, Hh (.inl ⟨rfl, HN.out⟩), HWz⟩
   case measure => simp [intOf]; omega
  | true =>
   have hfy := HY.out hf
   have hmm : d.msg = F.1 := HH.out.msg_of (by rw [hfl.out]; exact hfy)
   have HYS : Hid ((firstA y fl).isSome = true) := Hh (by rw [hfy]; rfl)
   have hmd : decide (d.msg = F.1) = true := decide_eq_true hmm
   have HMD := Hh hmd
   clear hfy hmm hmd HY HNO
   go_wp2_with fail
   refine wp_region_held_drew (S := fun V => Below wc.heap.size wc V) (by kernel_rfl) (Below.refl _ _).drew (fun hS => ?_)
   refine held_val 0 (some 124) (v := .pointer (some ⟨g, 0, none⟩)) rfl rfl (by kernel_rfl) (by kernel_rfl) (by kernel_rfl) (fun _ _ _ h => h) (by kernel_rfl) (fun W hW => rfl) hS ?_
   simp only [Act.put, lsA, lsB, lsC]
   refine held_ld 2 (some 126) (v := .agg es2.toArray) 50 (.tmp 15) ⟨gz, 0, none⟩ rfl rfl rfl rfl (by kernel_rfl) (by kernel_rfl) (by kernel_rfl) (fun _ _ _ h => h) (by kernel_rfl) (fun V hV => (Bz.below hV Bz.lt).loads 50 0 14 (by have := hMz.len; omega) _ underlying50 rfl msgInfo es2 (by have := hMz.len; rw [List.drop_zero, List.take_of_length_le (by omega)])) hS ?_
   simp only [Act.put, lsA, lsB, lsC]
   refine ord_one 1 (by kernel_rfl) ?_
   refine opw_call 1 (some 125) 22 #[.pointer (some ⟨g, 0, none⟩)] rfl rfl (by kernel_rfl) (by go_simp) (dmsg_any g d _ (hDz.below hS)) ?_
   rintro _ wm ⟨dm, rfl, hMm, bm⟩
   have hS2 : Below wc.heap.size wc wm := below_then hS hS.size bm
   refine ⟨_, rfl, hS2, ?_⟩
   clear hS bm
   simp only [Act.put, lsA, lsB, lsC]
   refine ord_one 3 (by kernel_rfl) ?_
   have SS := same_owns hMm (hMz.below hS2)
   rw [HMD.out] at SS
   refine opw_call 3 (some 127) 21 #[.agg dm.toArray, .agg es2.toArray] rfl rfl (by kernel_rfl) (by go_simp) SS ?_
   rintro _ wn ⟨rfl, bn⟩
   have hS : Below wc.heap.size wc wn := below_then hS2 hS2.size bn
   refine ⟨_, rfl, hS, ?_⟩
   clear hS2 bn SS hMm
   simp only [Act.put, lsA, lsB, lsC]
   refine held_val 4 (some 128) (v := .bool false) rfl rfl (by kernel_rfl) (by kernel_rfl) (by kernel_rfl) (fun _ _ _ h => h) (by kernel_rfl) (fun W hW => by kernel_rfl) hS ?_
   simp only [Act.put, lsA, lsB, lsC]
   refine wpAnyH_done (by kernel_rfl) ?_ _
   have hWf := below_then HWz HWz.size hS
   clear hS Bz hMz hDz
   go_wp2_with fail
   go_roundw
   case rel => exact ⟨k + 1, true, by omega, by go_num, rfl, Hh (.inr ⟨rfl, HYS.out⟩), hWf⟩
   case measure => simp [intOf]; omega
 have hgot := HH.out.got
 rw [hfl.out] at hgot
 have hgb : (d.st == 1) = b := by
  rw [hgot]
  rcases HB.out with ⟨h1, h2⟩ | ⟨h1, h2⟩
  ·
   have hkl : ¬ k < fl.length := fun h => hgo ⟨h, h1⟩
   rw [List.take_of_length_le (by omega)] at h2
   rw [h2, h1]; rfl
  ·
   rw [h2, h1]
 obtain ⟨hss, hms⟩ := HH.out.same HH2.out
 have hDf := hDa.below hW
 have hEf := hEa.below hW
 have HWf := below_then HWa HWa.size hW
 have ST1 := Hh (dstate_any g d wr hDf)
 have ST2 := Hh (dstate_any g2 d2 wr hEf)
 rw [← hss] at ST2
 have ME1 := Hh (dmsg_any g d wr hDf)
 have ME2 := Hh (fun V (h : Below wr.heap.size wr V) => dmsg_any g2 d2 V (hEf.below h))
 rw [← hms] at ME2
 have EX : (¬ (k : Int) < fl.length) ∨ ((k : Int) < fl.length ∧ b = true) := by
  by_cases hkn : k < fl.length
  ·
   refine .inr ⟨by omega, ?_⟩
   cases b with
   | true => rfl
   | false => exact absurd ⟨hkn, rfl⟩ hgo
  ·
   exact .inl (by omega)
 clear HB hgo hgot hss hms hDa hEa hDf hEf HH HH2 hW HWa RF Ca
 generalize d.msg = mm at *
 generalize d.st = st at *
 rcases EX with hx1 | ⟨hx1, rfl⟩
 ·
  go_wp2_with fail
  refine ST1.out.mono ?_
  rintro _ w1 ⟨rfl, rfl⟩
  go_wp2_with fail
  refine ST1.out.mono ?_
  rintro _ w1 ⟨rfl, rfl⟩
  go_wp2_with fail
  refine ST2.out.mono ?_
  rintro _ w1 ⟨rfl, rfl⟩
  go_wp2_with fail
  refine ME1.out.mono ?_
  rintro _ w2 ⟨dm, rfl, hM1, bm⟩
  go_wp2_with fail
  refine (ME2.out _ bm).mono ?_
  rintro _ w3 ⟨dn, rfl, hM2, bn⟩
  have SS := Hh (same_owns (hM1.below bn) hM2)
  rw [decide_eq_true rfl] at SS
  have H3 := below_then (below_then HWf HWf.size bm) (below_then HWf HWf.size bm).size bn
  clear hM1 hM2 bm bn
  go_wp2_with fail
  refine SS.out.mono ?_
  rintro _ w4 ⟨rfl, bo⟩
  have H4 := below_then H3 H3.size bo
  go_wp2_with fail
  go_ret
  exact RetB.mk rfl H4
 ·
  go_wp2_with fail
  refine ST1.out.mono ?_
  rintro _ w1 ⟨rfl, rfl⟩
  go_wp2_with fail
  refine ST1.out.mono ?_
  rintro _ w1 ⟨rfl, rfl⟩
  go_wp2_with fail
  refine ST2.out.mono ?_
  rintro _ w1 ⟨rfl, rfl⟩
  go_wp2_with fail
  refine ME1.out.mono ?_
  rintro _ w2 ⟨dm, rfl, hM1, bm⟩
  go_wp2_with fail
  refine (ME2.out _ bm).mono ?_
  rintro _ w3 ⟨dn, rfl, hM2, bn⟩
  have SS := Hh (same_owns (hM1.below bn) hM2)
  rw [decide_eq_true rfl] at SS
  have H3 := below_then (below_then HWf HWf.size bm) (below_then HWf HWf.size bm).size bn
  clear hM1 hM2 bm bn
  go_wp2_with fail
  refine SS.out.mono ?_
  rintro _ w4 ⟨rfl, bo⟩
  have H4 := below_then H3 H3.size bo
  go_wp2_with fail
  go_ret
  exact RetB.mk rfl H4
end Go.Proofs.YthnbcmlnpdabhaaGreat

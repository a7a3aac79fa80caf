/-
  Layer 28, the reference: Hear.
-/
import Derived.Test.YthnbcmlnpdabhaaGreatHYq
import Derived.Test.YthnbcmlnpdabhaaGreatDc5q
namespace Go.Proofs.YthnbcmlnpdabhaaGreat
open _root_.Go.Proofs.Tryz
open Go.RowKit
set_option maxRecDepth 100000
set_option linter.unusedVariables false
set_option linter.unusedSimpArgs false
set_option maxHeartbeats 4000000 in
theorem rhear_any (g : Nat) (d : Dl) (e : Ev) (A : Option Addr) (c : Nat) (w : World) (h : RDialAt w g d A c) (hN : NmR w A c d.y.q.name) (hA : 0 < d.y.q.name.length → ∀ a, A = some a → a.block ≠ g) (hq : lsum d.y.q.name ≤ 1000) (hoc : d.oc) (hip : e.fr.ip.length = 16) (hb : d.heard.length + e.data.length ≤ 8796093022208) :
  Calls prog 27 #[.pointer (some ⟨g, 0, none⟩), .agg (evC e).toArray] w (RDialRet g A c (hearD d e) w) := by
 have hel := evC_len hip
 have E0 : (evC e)[0]? = some (.int .i64 e.kind) := rfl
 have E20 : (evC e)[20]? = some (.int .i64 e.port) := evC_at hip 1
 have E21 : (evC e)[21]? = some (.string (bs e.data)) := evC_at hip 2
 have HX : Below w.heap.size w (w.alloc (.cells (evC e).toArray 42)) := (Below.refl _ _).alloc (Nat.le_refl _) _
 have E := Blk.new w 42 (evC e)
 have HNm := Hh (fun W (b : Below w.heap.size w W) => hN.below b)
 obtain ⟨L, ds, hbk, hL, _, _, _, _, c18, _, _, _, c25, _⟩ := (h.below HX).blk
 replace c18 := hbk.cell_ 18 c18
 replace c25 := hbk.cell_ 25 c25
 have d20 := E.cell_ 20 E20
 obtain ⟨R, hR⟩ : ∃ R, Hid (hearD d e = R) := ⟨_, Hh rfl⟩
 rw [hR.out]
 have HOC := Hh hoc
 have hgl0 := h.lt
 clear hbk hL hip E20 hN hoc
 generalize hes : evC e = es at *
 clear hes
 by_cases hs : d.st = 0
 case neg =>
  have HR2 : Hid (R = (d, [])) := Hh (by rw [← hR.out]; unfold hearD; rw [if_pos (.inl hs)])
  have hs' : (d.st != 0) = true := by simpa using hs
  have HH := Lib.hid h
  clear hs hR HOC HNm h
  go_enter func27, ntmps27
  go_wp2_with fail
  go_quiet (fail)
  go_wp2_with fail
  go_ret
  rw [HR2.out]
  exact ⟨_, rfl, OusN.nil _ _, HH.out.below (below_drewN HX _), grown_of_below (below_drewN HX _) _⟩
 rw [hs] at c25
 by_cases hpo : e.port = d.y.port
 case neg =>
  have HR2 : Hid (R = (d, [])) := Hh (by rw [← hR.out]; unfold hearD; rw [if_pos (.inr hpo)])
  have hpo' : (e.port != d.y.port) = true := by simpa using hpo
  clear hpo hR HOC HNm
  go_enter func27, ntmps27
  go_wp2_with fail
  go_quiet (fail)
  go_wp2_with fail
  go_ret
  rw [HR2.out]
  exact ⟨_, rfl, OusN.nil _ _, h.below (below_drewN HX _), grown_of_below (below_drewN HX _) _⟩
 have H0 : Hid (¬ (d.st ≠ 0 ∨ e.port ≠ d.y.port)) := Hh (by rw [hs, hpo]; simp)
 have HS := Hh hs
 rw [hpo] at d20
 clear hs hpo
 by_cases hk3 : e.kind = 3
 case pos =>
  rw [hk3] at E0
  cases hop : d.op with
  | true =>
   have HR2 : Hid (R = (d, [])) := Hh (by rw [← hR.out]; unfold hearD; rw [if_neg H0.out, if_pos hk3, if_pos hop])
   clear hk3 hR HOC HNm
   go_enter func27, ntmps27
   go_wp2_with fail
   go_quiet (fail)
   obtain ⟨W, hW⟩ : ∃ W, W = (w.alloc (.cells es.toArray 42)).drewN nq := ⟨_, rfl⟩
   rw [← hW]
   have HW : Below w.heap.size w W := hW ▸ below_drewN HX _
   have EW : Blk W w.heap.size 42 es := hW ▸ E.drewN _
   have JW := h.below HW
   clear hW c18 c25 d20 E h HX
   obtain ⟨L, ds, hbk, hL, _, _, _, _, _, _, c23, c24, c25, _⟩ := JW.blk
   have a23 := hbk.cell_ 23 c23
   have a24 := hbk.cell_ 24 c24
   have a25 := hbk.cell_ 25 c25
   have f23 := hbk.frozen 23
   have f24 := hbk.frozen 24
   have f25 := hbk.frozen 25
   have hgl := hbk.lt
   have d0 := EW.cell_ 0 E0
   have d21 := EW.cell_ 21 E21
   clear c23 c24 c25 EW hL
   rw [hop] at a24
   clear hop hbk
   go_wp2_with fail
   go_ret
   rw [HR2.out]
   exact ⟨_, rfl, OusN.nil _ _, JW, grown_of_below HW _⟩
  | false =>
   have HR2 : Hid (R = ({ d with op := true }, [⟨3, d.y.sv, d.y.port, d.oct⟩])) := Hh (by rw [← hR.out]; unfold hearD; rw [if_neg H0.out, if_pos hk3, if_neg (by rw [hop]; decide)])
   clear hk3 hR
   go_enter func27, ntmps27
   go_wp2_with fail
   go_quiet (fail)
   obtain ⟨W, hW⟩ : ∃ W, W = (w.alloc (.cells es.toArray 42)).drewN nq := ⟨_, rfl⟩
   rw [← hW]
   have HW : Below w.heap.size w W := hW ▸ below_drewN HX _
   have EW : Blk W w.heap.size 42 es := hW ▸ E.drewN _
   have JW := h.below HW
   clear hW c18 c25 d20 E h HX
   obtain ⟨L, ds, hbk, hL, _, _, _, _, _, _, c23, c24, c25, _⟩ := JW.blk
   have a23 := hbk.cell_ 23 c23
   have a24 := hbk.cell_ 24 c24
   have a25 := hbk.cell_ 25 c25
   have f23 := hbk.frozen 23
   have f24 := hbk.frozen 24
   have f25 := hbk.frozen 25
   have hgl := hbk.lt
   have d0 := EW.cell_ 0 E0
   have d21 := EW.cell_ 21 E21
   clear c23 c24 c25 EW hL
   rw [hop] at a24
   have J6 : RDialAt (W.setCell ⟨g, 24, none⟩ (.bool true)) g { d with op := true } A c := JW.set 1 (by omega) (.bool true) rfl rfl rfl
   have G6 : w.grownBy (W.setCell ⟨g, 24, none⟩ (.bool true)) (some g) := grown_trans (grown_of_below HW _) (grown_set (World.grownBy.refl _ _) _ _) (.inl rfl)
   have N6 : NmR (W.setCell ⟨g, 24, none⟩ (.bool true)) A c d.y.q.name := (HNm.out W HW).grown (grown_set (World.grownBy.refl _ _) _ _) hA
   have HOCT : Hid (d.oct = putB 2 (octP d.y).length ++ octP d.y) := Hh (HOC.out HS.out).2
   have hol : Hid ((octP d.y).length ≤ 65535) := Hh (by
    rcases ask_plain d.y.q d.y.id false with h | ⟨_, h, _⟩
    ·
     exact absurd (HOC.out HS.out).1 h
    ·
     exact h)
   clear hop JW HOC HNm a23 a25 f23 f25 d21 hbk
   obtain ⟨L6, _, hb6, hL6, _, _, _, hq3, _, c19, _⟩ := J6.blk
   have BU := Hh (fun V (b : Below (W.setCell ⟨g, 24, none⟩ (.bool true)).heap.size (W.setCell ⟨g, 24, none⟩ (.bool true)) V) => refBuild_any A c d.y.q d.y.id false V (N6.below b))
   have OC := Hh (fun V (b : Below (W.setCell ⟨g, 24, none⟩ (.bool true)).heap.size (W.setCell ⟨g, 24, none⟩ (.bool true)) V) => (J6.below b).out 3 d.oct)
   rw [HOCT.out] at OC
   have HJ := Hh J6
   have HQ3 := Hh hq3
   clear J6 N6 hq3
   go_wp2_with fail
   clear a24 f24 d0
   generalize hV6 : W.setCell ⟨g, 24, none⟩ (.bool true) = V6 at *
   clear hV6
   unfold qC at HQ3
   refine wp_region_held_drew (S := fun V => Below V6.heap.size V6 V) (by kernel_rfl) (Below.refl _ _).drew (fun hS => ?_)
   (refine held_val 0 (some 38) rfl rfl (by kernel_rfl) (by kernel_rfl) (by kernel_rfl) (fun _ _ _ h => h) (by kernel_rfl) (fun W hW => rfl) hS ?_; simp only [Act.put, lsA, lsB, lsC])
   refine held_val 1 (some 39) (v := .pointer (some ⟨g, 0, none⟩)) rfl rfl (by kernel_rfl) (by kernel_rfl) (by kernel_rfl) (fun _ _ _ h => h) (by kernel_rfl) (fun W hW => by kernel_rfl) hS ?_
   simp only [Act.put, lsA, lsB, lsC]
   refine held_val 2 (some 40) (v := .pointer (some ⟨g, 0, none⟩)) rfl rfl (by kernel_rfl) (by kernel_rfl) (by kernel_rfl) (fun _ _ _ h => h) (by kernel_rfl) (fun W hW => rfl) hS ?_
   simp only [Act.put, lsA, lsB, lsC]
   refine held_val 3 (some 41) (v := .pointer (some ⟨g, 20, none⟩)) rfl rfl (by kernel_rfl) (by kernel_rfl) (by kernel_rfl) (fun _ _ _ h => h) (by kernel_rfl) (fun W hW => rfl) hS ?_
   simp only [Act.put, lsA, lsB, lsC]
   refine held_ld 4 (some 42) 28 (.tmp 41) ⟨g, 20, none⟩ rfl rfl rfl rfl (by kernel_rfl) (by kernel_rfl) (by kernel_rfl) (fun _ _ _ h => h) (by kernel_rfl) (fun V hV => (hb6.below hV hb6.lt).loads 28 20 3 (by omega) _ underlying28 rfl qInfo _ HQ3.out) hS ?_
   simp only [Act.put, lsA, lsB, lsC]
   (refine held_val 5 (some 43) rfl rfl (by kernel_rfl) (by kernel_rfl) (by kernel_rfl) (fun _ _ _ h => h) (by kernel_rfl) (fun W hW => rfl) hS ?_; simp only [Act.put, lsA, lsB, lsC])
   refine held_val 6 (some 44) (v := .pointer (some ⟨g, 0, none⟩)) rfl rfl (by kernel_rfl) (by kernel_rfl) (by kernel_rfl) (fun _ _ _ h => h) (by kernel_rfl) (fun W hW => by kernel_rfl) hS ?_
   simp only [Act.put, lsA, lsB, lsC]
   refine held_val 7 (some 45) (v := .pointer (some ⟨g, 0, none⟩)) rfl rfl (by kernel_rfl) (by kernel_rfl) (by kernel_rfl) (fun _ _ _ h => h) (by kernel_rfl) (fun W hW => rfl) hS ?_
   simp only [Act.put, lsA, lsB, lsC]
   refine held_val 8 (some 46) (v := .pointer (some ⟨g, 19, none⟩)) rfl rfl (by kernel_rfl) (by kernel_rfl) (by kernel_rfl) (fun _ _ _ h => h) (by kernel_rfl) (fun W hW => rfl) hS ?_
   simp only [Act.put, lsA, lsB, lsC]
   refine held_ld 9 (some 47) 3 (.tmp 46) ⟨g, 19, none⟩ rfl rfl rfl rfl (by kernel_rfl) (by kernel_rfl) (by kernel_rfl) (fun _ _ _ h => h) (by kernel_rfl) (fun V hV => run_load1 underlying3 rfl ((hb6.below hV hb6.lt).cell_ 19 c19)) hS ?_
   simp only [Act.put, lsA, lsB, lsC]
   refine ord_one 10 (by kernel_rfl) ?_
   refine opw_call 10 (some 48) 82 #[.agg #[.slice A d.y.q.name.length c, .int .i64 d.y.q.ty, .int .i64 d.y.q.cl], .int .i64 d.y.id, .bool false] rfl rfl (by kernel_rfl) (by go_simp) (BU.out _ hS) ?_
   rintro _ w8 ⟨rfl, b8⟩
   have hS2 : Below V6.heap.size V6 w8 := below_then hS hS.size b8
   refine ⟨_, rfl, hS2, ?_⟩
   clear hS b8
   have hS := hS2
   clear hS2
   simp only [Act.put, lsA, lsB, lsC]
   refine held_val 11 (some 37) (v := .tuple #[.string (bs (encM (askM d.y.q d.y.id false) false).1), .int .i64 (encM (askM d.y.q d.y.id false) false).2]) rfl rfl (by kernel_rfl) (by kernel_rfl) (by kernel_rfl) (fun _ _ _ h => h) (by kernel_rfl) (fun W hW => rfl) hS ?_
   simp only [Act.put, lsA, lsB, lsC]
   refine held_val 12 (some 49) (v := .string (bs (encM (askM d.y.q d.y.id false) false).1)) rfl rfl (by kernel_rfl) (by kernel_rfl) (by kernel_rfl) (fun _ _ _ h => h) (by kernel_rfl) (fun W hW => rfl) hS ?_
   simp only [Act.put, lsA, lsB, lsC]
   refine held_val 13 (some 50) (v := .int .i64 (encM (askM d.y.q d.y.id false) false).2) rfl rfl (by kernel_rfl) (by kernel_rfl) (by kernel_rfl) (fun _ _ _ h => h) (by kernel_rfl) (fun W hW => rfl) hS ?_
   simp only [Act.put, lsA, lsB, lsC]
   refine held_val 14 (some 5) (v := .string (bs (encM (askM d.y.q d.y.id false) false).1)) rfl rfl (by kernel_rfl) (by kernel_rfl) (by kernel_rfl) (fun _ _ _ h => h) (by kernel_rfl) (fun W hW => rfl) hS ?_
   simp only [Act.put, lsA, lsB, lsC]
   refine held_val 15 (some 6) (v := .int .i64 (encM (askM d.y.q d.y.id false) false).2) rfl rfl (by kernel_rfl) (by kernel_rfl) (by kernel_rfl) (fun _ _ _ h => h) (by kernel_rfl) (fun W hW => rfl) hS ?_
   simp only [Act.put, lsA, lsB, lsC]
   refine wpAnyH_done (by kernel_rfl) ?_ _
   have RPu := Hh (fun V => refPut_any 2 (octP d.y).length V)
   rw [show hw 2 = 2 from rfl] at RPu
   unfold octP at *
   generalize (encM (askM d.y.q d.y.id false) false).1 = o1 at *
   have hol' := hol.out
   have hpl := putB_length 2 (o1.length : Int)
   have hpl2 : (putB 2 (o1.length : Int)).length ≤ 2 := by omega
   clear BU hb6 c19 HQ3 hpl
   go_wp2_with fail
   refine (RPu.out _).mono ?_
   rintro _ w9 ⟨rfl, b9⟩
   have hS9 := below_then hS hS.size b9
   clear hS b9 RPu
   go_wp2_with fail
   refine (OC.out _ hS9).mono ?_
   rintro _ w10 ⟨v, rfl, hO, b10⟩
   have hSa := below_then hS9 hS9.size b10
   go_wp2_with fail
   go_ret
   rw [HR2.out]
   refine ⟨_, rfl, ?_, HJ.out.below hSa, grown_below G6 hSa⟩
   rw [HOCT.out]
   exact hO.mono (Nat.le_trans G6.size hS9.size)
 have hk3' : (e.kind == 3) = false := by simpa using hk3
 by_cases hk4 : e.kind = 4
 case pos =>
  rw [hk4] at E0
  cases hop : d.op with
  | true =>
   have HR2 : Hid (R = match firstA d.y (frames (d.heard ++ e.data)) with
    | some m => ({ d with heard := d.heard ++ e.data, msg := m, st := 1 }, [⟨4, d.y.sv, d.y.port, []⟩])
    | none => ({ d with heard := d.heard ++ e.data }, [])) := Hh (by rw [← hR.out]; unfold hearD; rw [if_neg H0.out, if_neg hk3, if_pos hk4, if_pos hop]; rfl)
   clear hk3 hk4 hk3' hR
   go_enter func27, ntmps27
   go_wp2_with fail
   go_quiet (fail)
   obtain ⟨W, hW⟩ : ∃ W, W = (w.alloc (.cells es.toArray 42)).drewN nq := ⟨_, rfl⟩
   rw [← hW]
   have HW : Below w.heap.size w W := hW ▸ below_drewN HX _
   have EW : Blk W w.heap.size 42 es := hW ▸ E.drewN _
   have JW := h.below HW
   clear hW c18 c25 d20 E h HX
   obtain ⟨L, ds, hbk, hL, _, _, _, _, _, _, c23, c24, c25, _⟩ := JW.blk
   have a23 := hbk.cell_ 23 c23
   have a24 := hbk.cell_ 24 c24
   have a25 := hbk.cell_ 25 c25
   have f23 := hbk.frozen 23
   have f24 := hbk.frozen 24
   have f25 := hbk.frozen 25
   have hgl := hbk.lt
   have d0 := EW.cell_ 0 E0
   have d21 := EW.cell_ 21 E21
   clear c23 c24 c25 EW hL
   rw [hop] at a24
   have HBL := Hh hbk
   clear hop hbk
   go_wp2_with fail
   go_region
   have J6 : RDialAt (W.setCell ⟨g, 23, none⟩ (.string (bs (d.heard ++ e.data)))).drew g { d with heard := d.heard ++ e.data } A c := (JW.set (d' := { d with heard := d.heard ++ e.data }) 0 (by omega) (.string (bs (d.heard ++ e.data))) rfl rfl rfl).below (Below.refl _ _).drew
   have G6 : w.grownBy (W.setCell ⟨g, 23, none⟩ (.string (bs (d.heard ++ e.data)))).drew (some g) := grown_drew (grown_trans (grown_of_below HW _) (grown_set (World.grownBy.refl _ _) _ _) (.inl rfl))
   have N6 : NmR (W.setCell ⟨g, 23, none⟩ (.string (bs (d.heard ++ e.data)))).drew A c d.y.q.name := (HNm.out W HW).grown (grown_drew (grown_set (World.grownBy.refl _ _) _ _)) hA
   have d0' : (W.setCell ⟨g, 23, none⟩ (.string (bs (d.heard ++ e.data)))).drew.cell? ⟨w.heap.size, 0, none⟩ = some (.int .i64 4) := by
    have := grown_cell (grown_drew (grown_set (World.grownBy.refl W (some g)) 23 (.string (bs (d.heard ++ e.data))))) ⟨w.heap.size, 0, none⟩ (by have := d0; exact World.block_lt_of_cell? _ _ this) (by simp; omega)
    rw [this]; exact d0
   have FC := Hh (rfirst_any g { d with heard := d.heard ++ e.data } A c _ J6 N6 hq (by simpa using hb))
   have HJ := Hh J6
   have HF : Hid (R = if (firstP { d with heard := d.heard ++ e.data }).2 then ({ d with heard := d.heard ++ e.data, msg := (firstP { d with heard := d.heard ++ e.data }).1, st := 1 }, [⟨4, d.y.sv, d.y.port, []⟩]) else ({ d with heard := d.heard ++ e.data }, [])) := Hh (by
    rw [HR2.out]
    have e1 : firstP { d with heard := d.heard ++ e.data } = match firstA d.y (frames (d.heard ++ e.data)) with
     | some m => (m, true)
     | none => (Msg.zero, false) := rfl
    rw [e1]
    cases firstA d.y (frames (d.heard ++ e.data)) <;> rfl)
   clear HR2 J6 N6 JW HBL HNm a23 a24 a25 f23 f24 f25 d0 d21 HOC
   generalize firstP { d with heard := d.heard ++ e.data } = F at *
   generalize hV6 : (W.setCell ⟨g, 23, none⟩ (.string (bs (d.heard ++ e.data)))).drew = V6 at *
   clear hV6
   go_wp2_with fail
   refine FC.out.mono ?_
   rintro _ w7 ⟨ds2, rfl, hM7, b7⟩
   have hdl := hM7.len
   have hd1 := Hh hM7.one
   have J7 := HJ.out.below b7
   have G7 := grown_below G6 b7
   have d0'' := (b7.cell (p := ⟨w.heap.size, 0, none⟩) (World.block_lt_of_cell? _ _ d0')).trans d0'
   clear FC HJ G6 b7 d0'
   go_wp2_with (refine at_op (.store 50 (.tmp 7) (.tmp 80)) rfl ?_; go_must (refine wpList_stB rfl _ _ _ rfl w7.heap.size 0 rfl ds2 rfl (Blk.new' _ _ msgZ _ rfl) (by rw [hdl, msgZ_len]; omega) (by rw [hdl]; exact msgInfo) hd1.out ?_))
   intro w8 B8 g8 zs
   clear zs
   replace B8 : Blk w8 w7.heap.size 50 ds2 := wholeT B8 (by have := msgZ_len; omega)
   have k8 : Below w7.heap.size w7 w8 := below_grown ((Below.refl _ _).alloc (Nat.le_refl _) _) g8 (by simp) (Nat.le_refl _)
   have J8 := J7.below k8
   have G8 := grown_below G7 k8
   have M8 := hM7.below k8
   have d08 := (k8.cell (p := ⟨w.heap.size, 0, none⟩) (World.block_lt_of_cell? _ _ d0'')).trans d0''
   clear g8 k8 J7 G7 hM7 d0''
   generalize w7.heap.size = g7 at *
   cases hf : F.2 with
   | false =>
    have HR3 : Hid (R = ({ d with heard := d.heard ++ e.data }, [])) := Hh (by rw [HF.out, hf]; rfl)
    have HJ8 := Hh J8
    clear hf HF B8 M8 J8
    go_wp2_with fail
    go_ret
    rw [HR3.out]
    exact ⟨_, rfl, OusN.nil _ _, HJ8.out, G8⟩
   | true =>
    have HR3 : Hid (R = ({ d with heard := d.heard ++ e.data, msg := F.1, st := 1 }, [⟨4, d.y.sv, d.y.port, []⟩])) := Hh (by rw [HF.out, hf]; rfl)
    obtain ⟨L8, _, hb8, hL8, _, _, _, _, _, _, _, _, _, _, _, hput⟩ := J8.blk
    have HP := Hh hput
    clear hf HF hput J8
    go_wp2_with (first
     | (refine at_op (.load 50 (.tmp 7)) rfl ?_; go_must (refine wpList_ldB rfl _ _ rfl g7 0 rfl B8 14 (by omega) _ underlying50 rfl msgInfo ds2 (tk0 (by omega)) ?_))
     | (refine at_op (.store 50 (.tmp 86) (.tmp 84)) rfl ?_; go_must (refine wpList_stB rfl _ _ _ rfl g 26 rfl ds2 rfl hb8 (by rw [hdl, hL8]; omega) (by rw [hdl]; exact msgInfo) hd1.out ?_)))
    intro w9 B9 g9 zs
    clear zs
    have J9 := HP.out w9 ds2 F.1 g9 (by rw [hdl]; first | exact B9 | (rw [List.append_assoc]; exact B9)) M8
    have G9 := grown_trans G8 g9 (.inl rfl)
    obtain ⟨L9, _, hb9, _, _, _, _, _, _, _, _, _, c25, _⟩ := J9.blk
    have a25 := hb9.cell_ 25 c25
    have f25 := hb9.frozen 25
    have hgl9 := hb9.lt
    have Ja : RDialAt (w9.setCell ⟨g, 25, none⟩ (.int .i64 1)) g { d with heard := d.heard ++ e.data, msg := F.1, st := 1 } A c := J9.set 2 (by omega) (.int .i64 1) rfl rfl rfl
    have Ga : w.grownBy (w9.setCell ⟨g, 25, none⟩ (.int .i64 1)) (some g) := grown_trans G9 (grown_set (World.grownBy.refl _ _) _ _) (.inl rfl)
    have OC := Hh (Ja.out 4 [])
    have HJ := Hh Ja
    clear HP B9 g9 M8 B8 hb8 G8 J9 G9 Ja hb9 c25
    go_wp2_with fail
    refine OC.out.mono ?_
    rintro _ wb ⟨v, rfl, hO, bb⟩
    go_wp2_with fail
    go_ret
    rw [HR3.out]
    exact ⟨_, rfl, hO.mono Ga.size, HJ.out.below bb, grown_below Ga bb⟩
  | false =>
   have HR2 : Hid (R = (d, [])) := Hh (by rw [← hR.out]; unfold hearD; rw [if_neg H0.out, if_neg hk3, if_pos hk4, if_neg (by rw [hop]; decide)])
   clear hk3 hk4 hk3' hR HOC HNm
   go_enter func27, ntmps27
   go_wp2_with fail
   go_quiet (fail)
   obtain ⟨W, hW⟩ : ∃ W, W = (w.alloc (.cells es.toArray 42)).drewN nq := ⟨_, rfl⟩
   rw [← hW]
   have HW : Below w.heap.size w W := hW ▸ below_drewN HX _
   have EW : Blk W w.heap.size 42 es := hW ▸ E.drewN _
   have JW := h.below HW
   clear hW c18 c25 d20 E h HX
   obtain ⟨L, ds, hbk, hL, _, _, _, _, _, _, c23, c24, c25, _⟩ := JW.blk
   have a23 := hbk.cell_ 23 c23
   have a24 := hbk.cell_ 24 c24
   have a25 := hbk.cell_ 25 c25
   have f23 := hbk.frozen 23
   have f24 := hbk.frozen 24
   have f25 := hbk.frozen 25
   have hgl := hbk.lt
   have d0 := EW.cell_ 0 E0
   have d21 := EW.cell_ 21 E21
   clear c23 c24 c25 EW hL
   rw [hop] at a24
   clear hop hbk
   go_wp2_with fail
   go_ret
   rw [HR2.out]
   exact ⟨_, rfl, OusN.nil _ _, JW, grown_of_below HW _⟩
 have hk4' : (e.kind == 4) = false := by simpa using hk4
 by_cases hk5 : e.kind = 5
 case pos =>
  have HR2 : Hid (R = ({ d with st := 2 }, [])) := Hh (by rw [← hR.out]; unfold hearD; rw [if_neg H0.out, if_neg hk3, if_neg hk4, if_pos hk5])
  rw [hk5] at E0
  clear hk3 hk4 hk5 hk3' hk4' hR HOC HNm
  go_enter func27, ntmps27
  go_wp2_with fail
  go_quiet (fail)
  obtain ⟨W, hW⟩ : ∃ W, W = (w.alloc (.cells es.toArray 42)).drewN nq := ⟨_, rfl⟩
  rw [← hW]
  have HW : Below w.heap.size w W := hW ▸ below_drewN HX _
  have EW : Blk W w.heap.size 42 es := hW ▸ E.drewN _
  have JW := h.below HW
  clear hW c18 c25 d20 E h HX
  obtain ⟨L, ds, hbk, hL, _, _, _, _, _, _, c23, c24, c25, _⟩ := JW.blk
  have a23 := hbk.cell_ 23 c23
  have a24 := hbk.cell_ 24 c24
  have a25 := hbk.cell_ 25 c25
  have f23 := hbk.frozen 23
  have f24 := hbk.frozen 24
  have f25 := hbk.frozen 25
  have hgl := hbk.lt
  have d0 := EW.cell_ 0 E0
  have d21 := EW.cell_ 21 E21
  clear c23 c24 c25 EW hL
  have J6 : RDialAt (W.setCell ⟨g, 25, none⟩ (.int .i64 2)) g { d with st := 2 } A c := JW.set 2 (by omega) (.int .i64 2) rfl rfl rfl
  have G6 : w.grownBy (W.setCell ⟨g, 25, none⟩ (.int .i64 2)) (some g) := grown_trans (grown_of_below HW _) (grown_set (World.grownBy.refl _ _) _ _) (.inl rfl)
  have HJ := Hh J6
  clear J6 JW hbk
  go_wp2_with fail
  go_ret
  rw [HR2.out]
  exact ⟨_, rfl, OusN.nil _ _, HJ.out, G6⟩
 have HR2 : Hid (R = (d, [])) := Hh (by rw [← hR.out]; unfold hearD; rw [if_neg H0.out, if_neg hk3, if_neg hk4, if_neg hk5])
 have hk5' : (e.kind == 5) = false := by simpa using hk5
 clear hk3 hk4 hk5 hR HOC HNm
 generalize e.kind = kd at *
 go_enter func27, ntmps27
 go_wp2_with fail
 go_quiet (fail)
 obtain ⟨W, hW⟩ : ∃ W, W = (w.alloc (.cells es.toArray 42)).drewN nq := ⟨_, rfl⟩
 rw [← hW]
 have HW : Below w.heap.size w W := hW ▸ below_drewN HX _
 have EW : Blk W w.heap.size 42 es := hW ▸ E.drewN _
 have JW := h.below HW
 clear hW c18 c25 d20 E h HX
 obtain ⟨L, ds, hbk, hL, _, _, _, _, _, _, c23, c24, c25, _⟩ := JW.blk
 have a23 := hbk.cell_ 23 c23
 have a24 := hbk.cell_ 24 c24
 have a25 := hbk.cell_ 25 c25
 have f23 := hbk.frozen 23
 have f24 := hbk.frozen 24
 have f25 := hbk.frozen 25
 have hgl := hbk.lt
 have d0 := EW.cell_ 0 E0
 have d21 := EW.cell_ 21 E21
 clear c23 c24 c25 EW hL
 clear hbk
 go_wp2_with fail
 go_ret
 rw [HR2.out]
 exact ⟨_, rfl, OusN.nil _ _, JW, grown_of_below HW _⟩
end Go.Proofs.YthnbcmlnpdabhaaGreat

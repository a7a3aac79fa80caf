/-
  Layer 25, the reference: Reply.
-/
import Derived.Test.YtlmgdogblbigpaaHE
import Derived.Test.YtlmgdogblbigpaaGB
import Derived.Test.YtlmgdogblbigpaaGW
import Derived.Test.YtlmgdogblbigpaaGQ
namespace Go.Proofs.Ytlmgdogblbigpaa
open Go.RowKit
set_option maxRecDepth 100000
set_option linter.unusedVariables false
set_option linter.unusedSimpArgs false

set_option maxHeartbeats 4000000 in
theorem refreply_any (cs ds : List Value) (y : Qy) (m : Msg) (A : Option Addr) (c : Nat) (Aq Aa Au Ae : Option Addr) (cq ca cu ce : Nat) (w : World) (h1 : QyIs w cs y A c) (h2 : MsgIs w ds m Aq Aa Au Ae cq ca cu ce) (hsm : lsum y.q.name ≤ 1000) (hsq : ∀ x ∈ m.qs, lsum x.name ≤ 1000) :
    Calls Try.prog 37 #[.agg cs.toArray, .agg ds.toArray] w (RetB (.bool (replyB y m)) w) := by
  obtain ⟨t1, ht1⟩ : ∃ t1 : TypeId, t1 = 63 := ⟨_, rfl⟩
  have hip := h1.ip
  have hl1 : cs.length = 23 := by rw [h1.hcs]; exact qyC_len hip
  have L19 : cs[19]? = some (.int .i64 y.id) := by rw [h1.hcs]; exact qyC_at hip 1
  have L20 : cs[20]? = some (.slice A y.q.name.length c) := by rw [h1.hcs]; exact qyC_at hip 2
  have L21 : cs[21]? = some (.int .i64 y.q.ty) := by rw [h1.hcs]; exact qyC_at hip 3
  have L22 : cs[22]? = some (.int .i64 y.q.cl) := by rw [h1.hcs]; exact qyC_at hip 4
  have M0 : ds[0]? = some (.int .i64 m.hd.id) := by rw [h2.hcs]; rfl
  have M1 : ds[1]? = some (.bool m.hd.qr) := by rw [h2.hcs]; rfl
  have M2 : ds[2]? = some (.int .i64 m.hd.op) := by rw [h2.hcs]; rfl
  have M10 : ds[10]? = some (.slice Aq m.qs.length cq) := by rw [h2.hcs]; rfl
  have hq := h2.hq
  have lq := h2.lq
  have B2 := Blk.new' (w.alloc (.cells cs.toArray t1)) 52 ds (w.heap.size + 1) (by simp)
  have B1 := (Blk.new w t1 cs).alloc (.cells ds.toArray 52)
  have HB : Below w.heap.size w ((w.alloc (.cells cs.toArray t1)).alloc (.cells ds.toArray 52)) := ((Below.refl _ _).alloc (Nat.le_refl _) _).alloc (by simp) _
  have a19 := B1.cell_ 19 L19
  have a20 := B1.cell_ 20 L20
  have a21 := B1.cell_ 21 L21
  have a22 := B1.cell_ 22 L22
  have d0 := B2.cell_ 0 M0
  have d1 := B2.cell_ 1 M1
  have d2 := B2.cell_ 2 M2
  have d10 := B2.cell_ 10 M10
  subst ht1
  obtain ⟨O, hO⟩ : ∃ O, Hid (replyB y m = O) := ⟨_, Lib.hid rfl⟩
  rw [hO.out]
  have hN := Lib.hid h1.nm
  have HQ := Lib.hid hq
  have L20' := L20
  have hq3 : (cs.drop 20).take 3 = [.slice A y.q.name.length c, .int .i64 y.q.ty, .int .i64 y.q.cl] := by rw [h1.hcs]; exact qyC_q hip
  clear h1 h2 hip L19 L20 L21 L22 M0 M1 M2 M10 hq
  cases hqr : m.hd.qr with
  | false =>
    obtain rfl : O = false := by rw [← hO.out]; unfold replyB; rw [hqr]; rfl
    rw [hqr] at d1
    clear hqr hO
    go_enter Try.func37, Try.ntmps37
    go_wp2_with fail
    go_ret
    exact RetB.mk rfl HB
  | true =>
  rw [hqr] at d1
  by_cases hop : m.hd.op = 0
  case neg =>
    obtain rfl : O = false := by rw [← hO.out]; unfold replyB; rw [decide_eq_false hop]; simp
    have hop' : (m.hd.op != 0) = true := by simpa using hop
    clear hqr hO hop
    go_enter Try.func37, Try.ntmps37
    go_wp2_with fail
    go_ret
    exact RetB.mk rfl HB
  rw [hop] at d2
  by_cases hid : m.hd.id = y.id
  case neg =>
    obtain rfl : O = false := by rw [← hO.out]; unfold replyB; rw [decide_eq_false hid]; simp
    have hid' : (m.hd.id != y.id) = true := by simpa using hid
    clear hqr hO hop hid
    go_enter Try.func37, Try.ntmps37
    go_wp2_with fail
    go_ret
    exact RetB.mk rfl HB
  by_cases hll : m.qs.length = 1
  case neg =>
    obtain rfl : O = false := by rw [← hO.out]; exact replyB_no hll
    have hll' : ((m.qs.length : Int) != 1) = true := by simp; omega
    rw [hid] at d0
    clear hqr hO hop hid hll
    go_enter Try.func37, Try.ntmps37
    go_wp2_with fail
    go_ret
    exact RetB.mk rfl HB
  obtain ⟨x, hx⟩ := List.length_eq_one_iff.1 hll
  have HQ' : QsR w Aq [x] := hx ▸ HQ.out
  obtain ⟨ba, oa, eA, hba, hel⟩ := HQ' (by simp)
  subst eA
  obtain ⟨An, cn, hr, hNx⟩ := hel 0 (by simp)
  have hbw := hba
  have hrg := range_below hr HB hba
  have hOf : fitQ x y.q = O := by rw [← hO.out, replyB_one hx, hqr, decide_eq_true hop, decide_eq_true hid]; rfl
  have HOF := Lib.hid hOf
  rw [hid] at d0
  rw [hll] at d10
  replace hrg : ((w.alloc (.cells cs.toArray 63)).alloc (.cells ds.toArray 52)).rangeAt ba oa [.slice An x.name.length cn, .int .i64 x.ty, .int .i64 x.cl] := hrg
  have hsx : lsum x.name ≤ 1000 := hsq x (by rw [hx]; simp)
  have SM := Lib.hid (fun w' (b : Below w.heap.size w w') => refsame_any An A x.name y.q.name cn c w' (hNx.below b) (hN.out.below b) (by have := lsum_ge x.name; omega) (by have := lsum_ge y.q.name; omega))
  have L20 := Lib.hid L20'
  have HC := Lib.hid (show cs.length = 23 from hl1)
  have MQ := Lib.hid d10
  have hsub := Lib.hid (show (cs.drop 20).take 3 = [.slice A y.q.name.length c, .int .i64 y.q.ty, .int .i64 y.q.cl] from hq3)
  clear hqr hO hop hid hll hx HQ' hel hr HQ hN hNx hOf a20 a21 a22 lq hba hl1 hsm hsq hsx hq3 L20'
  unfold fitQ at HOF
  generalize y.q.ty = ty at *
  generalize y.q.cl = cl at *
  generalize x.ty = xt at *
  generalize x.cl = xl at *
  obtain ⟨s, hs⟩ : ∃ s, Hid (decide (lowN x.name = lowN y.q.name) = s) := ⟨_, Lib.hid rfl⟩
  rw [hs.out] at SM HOF
  clear hs
  generalize y.q.name.length = nl at *
  generalize x.name.length = xn at *
  go_enter Try.func37, Try.ntmps37
  go_wp2_with fail
  obtain ⟨W, hW⟩ : ∃ W, W = (w.alloc (.cells cs.toArray 63)).alloc (.cells ds.toArray 52) := ⟨_, rfl⟩
  rw [← hW] at B1 B2 HB hrg d10 ⊢
  clear hW d0 d1 d2 a19 MQ
  refine wp_region_held_drew (S := fun V => Below W.heap.size W V) (by kernel_rfl) (Below.refl _ _).drew (fun hS => ?_)
  (refine held_val 0 (some 31) rfl rfl (by kernel_rfl) (by kernel_rfl) (by kernel_rfl) (fun _ _ _ h => h) (by kernel_rfl) (fun W hW => rfl) hS ?_; simp only [Act.put, List.setIfInBounds_toArray, List.set_cons_zero, List.set_cons_succ])
  refine held_ld 1 (some 32) 49 (.tmp 31) ⟨w.heap.size + 1, 10, none⟩ rfl rfl rfl rfl (by kernel_rfl) (by kernel_rfl) (by kernel_rfl) (fun _ _ _ h => h) (by kernel_rfl) (fun V hV => run_load1 Try.underlying49 rfl ((hV.cell (p := ⟨w.heap.size + 1, 10, none⟩) B2.lt).trans d10)) hS ?_
  simp only [Act.put, List.setIfInBounds_toArray, List.set_cons_zero, List.set_cons_succ]
  refine held_val 2 (some 33) (v := .pointer (some ⟨ba, oa, none⟩)) rfl rfl (by kernel_rfl) (by kernel_rfl) (by kernel_rfl) (fun _ _ _ h => h) (by kernel_rfl) (fun V hV => by go_simp) hS ?_
  simp only [Act.put, List.setIfInBounds_toArray, List.set_cons_zero, List.set_cons_succ]
  refine held_ld 3 (some 34) 61 (.tmp 33) ⟨ba, oa, none⟩ rfl rfl rfl rfl (by kernel_rfl) (by kernel_rfl) (by kernel_rfl) (fun _ _ _ h => h) (by kernel_rfl) (fun V hV => run_loadAt_mid V ba oa 61 [.slice An xn cn, .int .i64 xt, .int .i64 xl] _ (range_below hrg hV (Nat.lt_of_lt_of_le hbw HB.size)) Try.underlying61 rfl qInfo) hS ?_
  simp only [Act.put, List.setIfInBounds_toArray, List.set_cons_zero, List.set_cons_succ]
  (refine held_val 4 (some 35) rfl rfl (by kernel_rfl) (by kernel_rfl) (by kernel_rfl) (fun _ _ _ h => h) (by kernel_rfl) (fun W hW => rfl) hS ?_; simp only [Act.put, List.setIfInBounds_toArray, List.set_cons_zero, List.set_cons_succ])
  refine held_ld 5 (some 36) 61 (.tmp 35) ⟨w.heap.size, 20, none⟩ rfl rfl rfl rfl (by kernel_rfl) (by kernel_rfl) (by kernel_rfl) (fun _ _ _ h => h) (by kernel_rfl) (fun V hV => (B1.below hV B1.lt).loads 61 20 3 (by rw [HC.out]; omega) _ Try.underlying61 rfl qInfo _ hsub.out) hS ?_
  simp only [Act.put, List.setIfInBounds_toArray, List.set_cons_zero, List.set_cons_succ]
  have HBw := Lib.hid HB
  refine ord_two 6 7 (by kernel_rfl) ?_ ?_
  · refine opw_run 6 (some 5) (v := .pointer (some ⟨W.heap.size, 0, none⟩)) (w' := W.drew.alloc (.cells qZ.toArray 61)) rfl rfl (by kernel_rfl) (by kernel_rfl) ?_
    have bb1 : Below W.heap.size W (W.drew.alloc (.cells qZ.toArray 61)) := ((Below.refl W.heap.size W).drew).alloc (Nat.le_refl _) _
    refine ⟨bb1, ?_⟩
    simp only [Act.put, List.setIfInBounds_toArray, List.set_cons_zero, List.set_cons_succ]
    refine ord_one 7 (by kernel_rfl) ?_
    refine opw_run 7 (some 6) (v := .pointer (some ⟨(W.drew.alloc (.cells qZ.toArray 61)).heap.size, 0, none⟩)) (w' := (W.drew.alloc (.cells qZ.toArray 61)).alloc (.cells qZ.toArray 61)) rfl rfl (by kernel_rfl) (by kernel_rfl) ?_
    have bb2 : Below W.heap.size W ((W.drew.alloc (.cells qZ.toArray 61)).alloc (.cells qZ.toArray 61)) := bb1.alloc bb1.size _
    refine ⟨bb2, ?_⟩
    simp only [Act.put, List.setIfInBounds_toArray, List.set_cons_zero, List.set_cons_succ]
    have E1 : Blk ((W.drew.alloc (.cells qZ.toArray 61)).alloc (.cells qZ.toArray 61)) W.heap.size 61 qZ := (Blk.new W.drew 61 qZ).alloc _
    have E2 : Blk ((W.drew.alloc (.cells qZ.toArray 61)).alloc (.cells qZ.toArray 61)) (W.drew.alloc (.cells qZ.toArray 61)).heap.size 61 qZ := Blk.new _ 61 qZ
    have hne : W.heap.size < (W.drew.alloc (.cells qZ.toArray 61)).heap.size := by
      have := World.size_alloc (w := W.drew) (o := .cells qZ.toArray 61)
      have h2 : W.drew.heap.size = W.heap.size := rfl
      omega
    have C5 := E1
    have C6 := E2
    refine held_stB 8 none 61 (.tmp 5) (.tmp 34) (by kernel_rfl) rfl rfl rfl (by kernel_rfl) (W.heap.size) 0 rfl [.slice An xn cn, .int .i64 xt, .int .i64 xl] rfl C5 (by simp [qZ]) qInfo (by simp [Value.oneCell']) ?_
    intro wx D5 g5 s5
    replace D5 : Blk wx (W.heap.size) 61 [.slice An xn cn, .int .i64 xt, .int .i64 xl] := by simpa [qZ] using D5
    have D6 := C6.grown g5 (by simp only [ne_eq, Option.some.injEq]; omega)
    have bx : Below W.heap.size W wx := below_grown bb2 g5 bb2.size (by omega)
    refine ⟨bx, ?_⟩
    simp only [Act.put, List.setIfInBounds_toArray, List.set_cons_zero, List.set_cons_succ]
    refine held_stB 9 none 61 (.tmp 6) (.tmp 36) (by kernel_rfl) rfl rfl rfl (by kernel_rfl) ((W.drew.alloc (.cells qZ.toArray 61)).heap.size) 0 rfl [.slice A nl c, .int .i64 ty, .int .i64 cl] rfl D6 (by simp [qZ]) qInfo (by simp [Value.oneCell']) ?_
    intro wz F6 g6 s6
    replace F6 : Blk wz ((W.drew.alloc (.cells qZ.toArray 61)).heap.size) 61 [.slice A nl c, .int .i64 ty, .int .i64 cl] := by simpa [qZ] using F6
    have F5 := D5.grown g6 (by simp only [ne_eq, Option.some.injEq]; omega)
    have bz : Below W.heap.size W wz := below_grown bx g6 bx.size (by omega)
    have HBz := below_then HBw.out HBw.out.size bz
    refine ⟨bz, ?_⟩
    clear hS C5 C6 D5 D6 E1 E2 g5 g6 bb1 bb2 bx s5 s6 B1 B2 hrg HB
    have hS := bz
    have C5 := F5
    have C6 := F6
    clear F5 F6
    generalize (W.drew.alloc (.cells qZ.toArray 61)).heap.size = h6 at *
    generalize W.heap.size = h5 at *
    simp only [Act.put, List.setIfInBounds_toArray, List.set_cons_zero, List.set_cons_succ]
    refine wpAnyH_done (by kernel_rfl) ?_ _
    clear hS
    have p0 := C5.cell_ 0 rfl
    have p1 := C5.cell_ 1 rfl
    have p2 := C5.cell_ 2 rfl
    have r0 := C6.cell_ 0 rfl
    have r1 := C6.cell_ 1 rfl
    have r2 := C6.cell_ 2 rfl
    go_wp2_with fail
    refine (SM.out _ HBz).mono ?_
    rintro _ w9 ⟨rfl, b9⟩
    have HB9 := below_then HBz HBz.size b9
    have D5 := C5.below b9 C5.lt
    have D6 := C6.below b9 C6.lt
    clear p0 p1 p2 r0 r1 r2 b9
    have p1 := D5.cell_ 1 rfl
    have p2 := D5.cell_ 2 rfl
    have r1 := D6.cell_ 1 rfl
    have r2 := D6.cell_ 2 rfl
    cases s with
    | false =>
      obtain rfl : O = false := by rw [← HOF.out]; simp
      clear HOF SM C5 C6 D5 D6
      go_wp2_with fail
      go_ret
      exact RetB.mk rfl HB9
    | true =>
    by_cases hty : xt = ty
    case neg =>
      obtain rfl : O = false := by rw [← HOF.out, decide_eq_false hty]; rfl
      have hty' : (xt == ty) = false := by simpa using hty
      clear HOF SM C5 C6 D5 D6 hty
      go_wp2_with fail
      go_ret
      exact RetB.mk rfl HB9
    have hty' : (xt == ty) = true := by simpa using hty
    by_cases hcl : xl = cl
    case neg =>
      obtain rfl : O = false := by rw [← HOF.out, decide_eq_false hcl]; simp
      have hcl' : (xl == cl) = false := by simpa using hcl
      clear HOF SM C5 C6 D5 D6 hty hcl
      go_wp2_with fail
      go_ret
      exact RetB.mk rfl HB9
    have hcl' : (xl == cl) = true := by simpa using hcl
    obtain rfl : O = true := by rw [← HOF.out, decide_eq_true hty, decide_eq_true hcl]; rfl
    clear HOF SM C5 C6 D5 D6 hty hcl
    go_wp2_with fail
    go_ret
    exact RetB.mk rfl HB9
  · refine opw_run 7 (some 6) (v := .pointer (some ⟨W.heap.size, 0, none⟩)) (w' := W.drew.alloc (.cells qZ.toArray 61)) rfl rfl (by kernel_rfl) (by kernel_rfl) ?_
    have bb1 : Below W.heap.size W (W.drew.alloc (.cells qZ.toArray 61)) := ((Below.refl W.heap.size W).drew).alloc (Nat.le_refl _) _
    refine ⟨bb1, ?_⟩
    simp only [Act.put, List.setIfInBounds_toArray, List.set_cons_zero, List.set_cons_succ]
    refine ord_one 6 (by kernel_rfl) ?_
    refine opw_run 6 (some 5) (v := .pointer (some ⟨(W.drew.alloc (.cells qZ.toArray 61)).heap.size, 0, none⟩)) (w' := (W.drew.alloc (.cells qZ.toArray 61)).alloc (.cells qZ.toArray 61)) rfl rfl (by kernel_rfl) (by kernel_rfl) ?_
    have bb2 : Below W.heap.size W ((W.drew.alloc (.cells qZ.toArray 61)).alloc (.cells qZ.toArray 61)) := bb1.alloc bb1.size _
    refine ⟨bb2, ?_⟩
    simp only [Act.put, List.setIfInBounds_toArray, List.set_cons_zero, List.set_cons_succ]
    have E1 : Blk ((W.drew.alloc (.cells qZ.toArray 61)).alloc (.cells qZ.toArray 61)) W.heap.size 61 qZ := (Blk.new W.drew 61 qZ).alloc _
    have E2 : Blk ((W.drew.alloc (.cells qZ.toArray 61)).alloc (.cells qZ.toArray 61)) (W.drew.alloc (.cells qZ.toArray 61)).heap.size 61 qZ := Blk.new _ 61 qZ
    have hne : W.heap.size < (W.drew.alloc (.cells qZ.toArray 61)).heap.size := by
      have := World.size_alloc (w := W.drew) (o := .cells qZ.toArray 61)
      have h2 : W.drew.heap.size = W.heap.size := rfl
      omega
    have C5 := E2
    have C6 := E1
    refine held_stB 8 none 61 (.tmp 5) (.tmp 34) (by kernel_rfl) rfl rfl rfl (by kernel_rfl) ((W.drew.alloc (.cells qZ.toArray 61)).heap.size) 0 rfl [.slice An xn cn, .int .i64 xt, .int .i64 xl] rfl C5 (by simp [qZ]) qInfo (by simp [Value.oneCell']) ?_
    intro wx D5 g5 s5
    replace D5 : Blk wx ((W.drew.alloc (.cells qZ.toArray 61)).heap.size) 61 [.slice An xn cn, .int .i64 xt, .int .i64 xl] := by simpa [qZ] using D5
    have D6 := C6.grown g5 (by simp only [ne_eq, Option.some.injEq]; omega)
    have bx : Below W.heap.size W wx := below_grown bb2 g5 bb2.size (by omega)
    refine ⟨bx, ?_⟩
    simp only [Act.put, List.setIfInBounds_toArray, List.set_cons_zero, List.set_cons_succ]
    refine held_stB 9 none 61 (.tmp 6) (.tmp 36) (by kernel_rfl) rfl rfl rfl (by kernel_rfl) (W.heap.size) 0 rfl [.slice A nl c, .int .i64 ty, .int .i64 cl] rfl D6 (by simp [qZ]) qInfo (by simp [Value.oneCell']) ?_
    intro wz F6 g6 s6
    replace F6 : Blk wz (W.heap.size) 61 [.slice A nl c, .int .i64 ty, .int .i64 cl] := by simpa [qZ] using F6
    have F5 := D5.grown g6 (by simp only [ne_eq, Option.some.injEq]; omega)
    have bz : Below W.heap.size W wz := below_grown bx g6 bx.size (by omega)
    have HBz := below_then HBw.out HBw.out.size bz
    refine ⟨bz, ?_⟩
    clear hS C5 C6 D5 D6 E1 E2 g5 g6 bb1 bb2 bx s5 s6 B1 B2 hrg HB
    have hS := bz
    have C5 := F5
    have C6 := F6
    clear F5 F6
    generalize (W.drew.alloc (.cells qZ.toArray 61)).heap.size = h6 at *
    generalize W.heap.size = h5 at *
    simp only [Act.put, List.setIfInBounds_toArray, List.set_cons_zero, List.set_cons_succ]
    refine wpAnyH_done (by kernel_rfl) ?_ _
    clear hS
    have p0 := C5.cell_ 0 rfl
    have p1 := C5.cell_ 1 rfl
    have p2 := C5.cell_ 2 rfl
    have r0 := C6.cell_ 0 rfl
    have r1 := C6.cell_ 1 rfl
    have r2 := C6.cell_ 2 rfl
    go_wp2_with fail
    refine (SM.out _ HBz).mono ?_
    rintro _ w9 ⟨rfl, b9⟩
    have HB9 := below_then HBz HBz.size b9
    have D5 := C5.below b9 C5.lt
    have D6 := C6.below b9 C6.lt
    clear p0 p1 p2 r0 r1 r2 b9
    have p1 := D5.cell_ 1 rfl
    have p2 := D5.cell_ 2 rfl
    have r1 := D6.cell_ 1 rfl
    have r2 := D6.cell_ 2 rfl
    cases s with
    | false =>
      obtain rfl : O = false := by rw [← HOF.out]; simp
      clear HOF SM C5 C6 D5 D6
      go_wp2_with fail
      go_ret
      exact RetB.mk rfl HB9
    | true =>
    by_cases hty : xt = ty
    case neg =>
      obtain rfl : O = false := by rw [← HOF.out, decide_eq_false hty]; rfl
      have hty' : (xt == ty) = false := by simpa using hty
      clear HOF SM C5 C6 D5 D6 hty
      go_wp2_with fail
      go_ret
      exact RetB.mk rfl HB9
    have hty' : (xt == ty) = true := by simpa using hty
    by_cases hcl : xl = cl
    case neg =>
      obtain rfl : O = false := by rw [← HOF.out, decide_eq_false hcl]; simp
      have hcl' : (xl == cl) = false := by simpa using hcl
      clear HOF SM C5 C6 D5 D6 hty hcl
      go_wp2_with fail
      go_ret
      exact RetB.mk rfl HB9
    have hcl' : (xl == cl) = true := by simpa using hcl
    obtain rfl : O = true := by rw [← HOF.out, decide_eq_true hty, decide_eq_true hcl]; rfl
    clear HOF SM C5 C6 D5 D6 hty hcl
    go_wp2_with fail
    go_ret
    exact RetB.mk rfl HB9
end Go.Proofs.Ytlmgdogblbigpaa
/-
  Layer 25, the laws' own: works.
-/
namespace Go.Proofs.Ytlmgdogblbigpaa
open Go.RowKit
set_option maxRecDepth 100000
set_option linter.unusedVariables false
set_option linter.unusedSimpArgs false

def sv25 : Adr := ⟨4, [1, 2, 3, 4, 0, 0, 0, 0, 0, 0, 0, 0, 0, 0, 0, 0], 0⟩
def y25 : Qy := ⟨sv25, 5000, 7, ⟨[[65]], 1, 1⟩⟩
def hd25 : Hd := { Hd.zero with id := 7, qr := true }
def m25 : Msg := ⟨hd25, [⟨[[97]], 1, 1⟩], [], [], []⟩
def b25 : List UInt8 := [0, 7, 128, 0, 0, 1, 0, 0, 0, 0, 0, 0, 1, 97, 0, 0, 1, 0, 1]
def e25 : Ev := ⟨2, sv25, 53, 5000, b25⟩
def f25 : Ev := ⟨2, sv25, 54, 5000, b25⟩
theorem enc25 : encM m25 true = (b25, 0) := by kernel_rfl
theorem pack25 : packP y25 e25 = (m25, true) := by kernel_rfl
theorem pack25f : packP y25 f25 = (Msg.zero, false) := by kernel_rfl
theorem of25 (w : World) : Calls Try.prog 81 #[.int .i64 1, .int .i64 2, .int .i64 3, .int .i64 4] w (RetB (.agg sv25.cells.toArray) w) := by
  show Calls Try.prog 81 #[.int .i64 1, .int .i64 2, .int .i64 3, .int .i64 4] w (RetB (.agg #[.int .i64 4, .int .u8 1, .int .u8 2, .int .u8 3, .int .u8 4, .int .u8 0, .int .u8 0, .int .u8 0, .int .u8 0, .int .u8 0, .int .u8 0, .int .u8 0, .int .u8 0, .int .u8 0, .int .u8 0, .int .u8 0, .int .u8 0, .int .i64 0]) w)
  have B2 := Blk.new w 59 Adr.zero.cells
  have CB : Below w.heap.size w (w.alloc (.cells Adr.zero.cells.toArray 59)) := (Below.refl _ _).alloc (Nat.le_refl _) _
  go_enter Try.func81, Try.ntmps81
  go_wp2_with (refine at_op (.store 59 (.tmp 8) (.tmp 18)) rfl ?_; go_must (refine wpList_stB rfl 59 (.tmp 8) (.tmp 18) rfl w.heap.size 0 rfl sv25.cells rfl B2 (by decide) adInfoM sv25.cells_one ?_))
  intro w3 B3 g3 _
  replace B3 : Blk w3 w.heap.size 59 sv25.cells := B3
  have HB3 := below_grown CB g3 CB.size (Nat.le_refl _)
  clear g3 CB B2
  go_wp2_with fail
  refine ret_cell rfl w.heap.size rfl B3 _ Try.underlying59 rfl adInfoM rfl ?_
  exact RetB.mk rfl HB3
theorem run_be25 (b : List UInt8) (W : World) : (Instr.build 70 #[(0, .int .i64 2), (1, .agg sv25.cells.toArray), (2, .int .i64 53), (3, .int .i64 5000), (4, .string (bs b))]).run Try.prog W = .ok (.agg (evC ⟨2, sv25, 53, 5000, b⟩).toArray) W := by kernel_rfl
def evZ : List Value := evC ⟨0, Adr.zero, 0, 0, []⟩
theorem evZ_len : evZ.length = 22 := rfl
theorem MsgOwn.far8 {w w' : World} {g : Nat} {cs L : List Value} {m : Msg} (h : MsgOwn w cs m) (hg : w.grownBy w' (some g)) (hb : Blk w g 70 L) : MsgOwn w' cs m := by
  obtain ⟨vq, va, vu, ve, h1, h2, h3, h4, h5, l⟩ := h
  exact ⟨vq, va, vu, ve, h1, h2.blk hg hb (by decide) (by decide), h3.blk hg hb (by decide) (by decide), h4.blk hg hb (by decide) (by decide), h5.blk hg hb (by decide) (by decide), l⟩
theorem evInfo : (Try.prog.info? 70).map (·.size) = some 22 := by kernel_rfl
theorem m25_is (w : World) (gn gq : Nat) (hn : Blk w gn 9 [.string ⟨#[97]⟩]) (hq : Blk w gq 61 [.slice (some ⟨gn, 0, none⟩) 1 1, .int .i64 1, .int .i64 1]) : MsgIs w (msgC hd25 (.slice (some ⟨gq, 0, none⟩) 1 1) nilS nilS nilS) m25 (some ⟨gq, 0, none⟩) none none none 1 0 0 0 := by
  refine ⟨rfl, fun _ => ⟨gq, 0, rfl, hq.lt, fun i hi => ?_⟩, fun h => absurd h (by decide), fun h => absurd h (by decide), fun h => absurd h (by decide), by decide, by decide, by decide, by decide⟩
  obtain rfl : i = 0 := by simp [m25] at hi; omega
  refine ⟨some ⟨gn, 0, none⟩, 1, hq.range 0 3 (by simp), fun _ => ⟨gn, 0, rfl, hn.lt, fun j hj => ?_⟩, by show (1 : Nat) ≤ 1; decide, by show (1 : Nat) ≤ 17592186044416; decide, by
    intro l hl
    simp [m25] at hl
    subst hl; simp⟩
  obtain rfl : j = 0 := by
    have : ([[97]] : List (List UInt8)).length = 1 := rfl
    have h2 : j < ([[97]] : List (List UInt8)).length := hj
    omega
  exact hn.cell_ 0 rfl
theorem y25_is (w : World) (gn : Nat) (hn : Blk w gn 9 [.string ⟨#[65]⟩]) : QyIs w (qyC (.slice (some ⟨gn, 0, none⟩) 1 1) y25) y25 (some ⟨gn, 0, none⟩) 1 := by
  refine ⟨rfl, rfl, fun _ => ⟨gn, 0, rfl, hn.lt, fun j hj => ?_⟩, by show (1 : Nat) ≤ 1; decide, by show (1 : Nat) ≤ 17592186044416; decide, by
    intro l hl
    simp [y25] at hl
    subst hl; simp⟩
  obtain rfl : j = 0 := by
    have h2 : j < ([[65]] : List (List UInt8)).length := hj
    have : ([[65]] : List (List UInt8)).length = 1 := rfl
    omega
  exact hn.cell_ 0 rfl
set_option maxHeartbeats 4000000 in
theorem works25_any (w : World) : Calls Try.prog 34 #[] w (RetB (.bool true) w) := by
  go_enter Try.func34, Try.ntmps34
  go_wp2_with fail
  refine (of25 _).mono ?_
  rintro _ w1 ⟨rfl, b1⟩
  have RB : Hid (∀ W : World, (Instr.build 66 #[(0, .agg sv25.cells.toArray), (1, .int .i64 5000), (2, .int .i64 7), (3, .agg #[.slice (some ⟨w1.heap.size, 0, none⟩) 1 1, .int .i64 1, .int .i64 1])]).run Try.prog W = .ok (.agg (qyC (.slice (some ⟨w1.heap.size, 0, none⟩) 1 1) y25).toArray) W) := Lib.hid (fun W => run_bqy y25 rfl (some ⟨w1.heap.size, 0, none⟩) 1 1 W)
  have EB := Lib.hid (fun W => run_be25 b25 W)
  have YI := Lib.hid (fun w' h => y25_is w' w1.heap.size h)
  have hQl : (qyC (.slice (some ⟨w1.heap.size, 0, none⟩) 1 1) y25).length = 23 := rfl
  have hQ1 := Lib.hid (qyC_one (y := y25) (vn := .slice (some ⟨w1.heap.size, 0, none⟩) 1 1) rfl)
  have SQ : Hid (((qyC (.slice (some ⟨w1.heap.size, 0, none⟩) 1 1) y25).drop 0).take 18 = sv25.cells) := Lib.hid (qyC_ad rfl)
  have hEl : (evC ⟨2, sv25, 53, 5000, b25⟩).length = 22 := rfl
  have hE1 := Lib.hid (evC_one (e := ⟨2, sv25, 53, 5000, b25⟩))
  have HE : Hid (∀ w' cs, QyIs w' cs y25 (some ⟨w1.heap.size, 0, none⟩) 1 → Calls Try.prog 38 #[.agg cs.toArray, .agg (evC e25).toArray] w' (FrRet (m25, true) w')) := Lib.hid (fun w' cs h => by
    have := packet_any cs y25 _ 1 e25 w' h rfl (by decide)
    rwa [pack25] at this)
  have HF : Hid (∀ w' cs, QyIs w' cs y25 (some ⟨w1.heap.size, 0, none⟩) 1 → Calls Try.prog 38 #[.agg cs.toArray, .agg ((evC e25).set 19 (.int .i64 54)).toArray] w' (FrRet (Msg.zero, false) w')) := Lib.hid (fun w' cs h => by
    have := packet_any cs y25 _ 1 f25 w' h rfl (by decide)
    rwa [pack25f] at this)
  replace hEl : (evC e25).length = 22 := hEl
  replace hE1 : Hid (∀ v ∈ evC e25, v.oneCell' = true) := hE1
  replace EB : Hid (∀ W : World, (Instr.build 70 #[(0, .int .i64 2), (1, .agg sv25.cells.toArray), (2, .int .i64 53), (3, .int .i64 5000), (4, .string (bs b25))]).run Try.prog W = .ok (.agg (evC e25).toArray) W) := EB
  generalize sv25.cells = sc at *
  generalize qyC (.slice (some ⟨w1.heap.size, 0, none⟩) 1 1) y25 = Q at *
  generalize evC e25 = E at *
  go_wp2_with (first
    | (refine at_op (.build 66 #[(0, .tmp 10), (1, .const (.int .i64 5000)), (2, .const (.int .i64 7)), (3, .tmp 12)]) rfl ?_; go_must (refine wpList_bld rfl 66 _ rfl #[(0, .agg sc.toArray), (1, .int .i64 5000), (2, .int .i64 7), (3, .agg #[.slice (some ⟨w1.heap.size, 0, none⟩) 1 1, .int .i64 1, .int .i64 1])] (by simp [Act.eval, Act.put]) (RB.out _) ?_))
    | (refine at_op (.store 66 (.tmp 1) (.tmp 13)) rfl ?_; go_must (refine wpList_stB rfl 66 (.tmp 1) (.tmp 13) rfl (w1.heap.size + 1) 0 rfl Q rfl (Blk.new' _ _ qyZ _ (by simp)) (by have := qyZ_len; omega) (by rw [hQl]; exact qyInfo) hQ1.out ?_)))
  intro w2 B1 g2 sw2
  rw [List.drop_of_length_le (by have := qyZ_len; omega), List.append_nil] at B1
  have N2 : Blk w2 w1.heap.size 9 [.string ⟨#[65]⟩] := Blk.grown ((Blk.new' w1 9 [.string ⟨#[65]⟩] _ rfl).alloc _) g2 (by simp)
  have kk : ∀ o1 o2, Below w1.heap.size w1 ((w1.alloc o1).alloc o2) := fun o1 o2 => ((Below.refl _ _).alloc (Nat.le_refl _) _).alloc (by simp) _
  have H2 := below_grown (below_then b1 b1.size (kk _ _)) g2 (by have := b1.size; simp; omega) (by have := b1.size; omega)
  have hg0 : w.heap.size ≤ w1.heap.size := b1.size
  have hgny : w1.heap.size < w1.heap.size + 1 := by omega
  clear sw2 b1 g2 kk RB
  generalize w1.heap.size + 1 = gy at *
  generalize w1.heap.size = gn at *
  have MB := Blk.new' ((w2.alloc (.cells #[.string ⟨#[97]⟩] 9)).alloc (.cells #[.slice (some ⟨w2.heap.size, 0, none⟩) 1 1, .int .i64 1, .int .i64 1] 61)) 52 msgZ (w2.heap.size + 1 + 1) (by simp)
  go_wp2_with (refine at_op (.store 52 (.tmp 2) (.tmp 18)) rfl ?_; go_must (refine wpList_stB rfl 52 (.tmp 2) (.tmp 18) rfl (w2.heap.size + 1 + 1) 0 rfl (msgC hd25 (.slice (some ⟨w2.heap.size + 1, 0, none⟩) 1 1) nilS nilS nilS) rfl MB (by have := msgZ_len; rw [msgC_len]; omega) (by rw [msgC_len]; exact msgInfo) (msgC_one _ rfl rfl rfl rfl) ?_))
  intro w3 B2 g3 sw3
  replace B2 := whole14 B2 (by have := msgZ_len; have := msgC_len hd25 (.slice (some ⟨w2.heap.size + 1, 0, none⟩) 1 1) nilS nilS nilS; omega)
  have kk : ∀ o1 o2 o3, Below w2.heap.size w2 (((w2.alloc o1).alloc o2).alloc o3) := fun o1 o2 o3 => (((Below.refl _ _).alloc (Nat.le_refl _) _).alloc (by simp) _).alloc (by simp; omega) _
  have k3 : Below w2.heap.size w2 w3 := below_grown (kk _ _ _) g3 (by simp; omega) (by omega)
  have P3 : Blk w3 w2.heap.size 9 [.string ⟨#[97]⟩] := Blk.grown (((Blk.new' w2 9 [.string ⟨#[97]⟩] _ rfl).alloc _).alloc _) g3 (by simp; omega)
  have Q3 : Blk w3 (w2.heap.size + 1) 61 [.slice (some ⟨w2.heap.size, 0, none⟩) 1 1, .int .i64 1, .int .i64 1] := Blk.grown ((Blk.new' (w2.alloc (.cells #[.string ⟨#[97]⟩] 9)) 61 [.slice (some ⟨w2.heap.size, 0, none⟩) 1 1, .int .i64 1, .int .i64 1] _ (by simp)).alloc _) g3 (by simp)
  have MI := Lib.hid (m25_is w3 _ _ P3 Q3)
  have MF := Lib.hid (fun w' h1 h2 => m25_is w' w2.heap.size (w2.heap.size + 1) h1 h2)
  have hgp : w2.heap.size < w2.heap.size + 1 := by omega
  have hgq : w2.heap.size + 1 < w2.heap.size + 1 + 1 := by omega
  have H3 := below_then H2 H2.size k3
  have B13 := B1.below k3 B1.lt
  have N3 := N2.below k3 N2.lt
  have hgm : gy < w2.heap.size + 1 + 1 := by have := B1.lt; omega
  clear sw3 g3 kk k3 H2 B1 N2 MB
  have hml : (msgC hd25 (.slice (some ⟨w2.heap.size + 1, 0, none⟩) 1 1) nilS nilS nilS).length = 14 := rfl
  generalize msgC hd25 (.slice (some ⟨w2.heap.size + 1, 0, none⟩) 1 1) nilS nilS nilS = M at *
  generalize w2.heap.size + 1 + 1 = gm at *
  generalize w2.heap.size + 1 = gq at *
  generalize w2.heap.size = gp at *
  have EN := Lib.hid (fun w' (b : Below w3.heap.size w3 w') => refmencode_any _ m25 true _ _ _ _ _ _ _ _ w' (MI.out.below b) (by decide) (by decide))
  rw [enc25] at EN
  generalize b25 = bb at *
  go_wp2_with (refine at_op (.load 52 (.tmp 2)) rfl ?_; go_must (refine wpList_ldB rfl 52 (.tmp 2) rfl gm 0 rfl B2 14 (by omega) _ Try.underlying52 rfl msgInfo M (by rw [List.drop_zero, List.take_of_length_le (by omega)]) ?_))
  refine (EN.out _ (Below.refl _ _)).mono ?_
  rintro _ w4 ⟨rfl, b4⟩
  have H4 := below_then H3 H3.size b4
  have B14 := B13.below b4 B13.lt
  have B24 := B2.below b4 B2.lt
  have N4 := N3.below b4 N3.lt
  have M4 := MI.out.below b4
  have P4 := P3.below b4 P3.lt
  have T4 := Q3.below b4 Q3.lt
  clear P3 Q3 b4 EN MI H3 B13 B2 N3
  go_wp2_with (first
    | (refine at_op (.load 59 (.tmp 24)) rfl ?_; go_must (refine wpList_ldB rfl 59 (.tmp 24) rfl gy 0 rfl B14 18 (by omega) _ Try.underlying59 rfl adInfoM _ SQ.out ?_))
    | (refine at_op (.build 70 #[(0, .const (.int .i64 2)), (1, .tmp 25), (2, .const (.int .i64 53)), (3, .const (.int .i64 5000)), (4, .tmp 26)]) rfl ?_; go_must (refine wpList_bld rfl 70 _ rfl #[(0, .int .i64 2), (1, .agg sc.toArray), (2, .int .i64 53), (3, .int .i64 5000), (4, .string (bs bb))] (by simp [Act.eval, Act.put]) (EB.out _) ?_))
    | (refine at_op (.store 70 (.tmp 5) (.tmp 27)) rfl ?_; go_must (refine wpList_stB rfl 70 (.tmp 5) (.tmp 27) rfl w4.heap.size 0 rfl E rfl (Blk.new' _ _ evZ _ rfl) (by have := evZ_len; omega) (by rw [hEl]; exact evInfo) hE1.out ?_)))
  intro w5 B5 g5 sw5
  rw [List.drop_of_length_le (by have := evZ_len; omega), List.append_nil] at B5
  have k5 : Below w4.heap.size w4 w5 := below_grown ((Below.refl _ _).alloc (Nat.le_refl _) _) g5 (by simp) (Nat.le_refl _)
  have H5 := below_then H4 H4.size k5
  have B15 := B14.below k5 B14.lt
  have B25 := B24.below k5 B24.lt
  have N5 := N4.below k5 N4.lt
  have M5 := M4.below k5
  have P5 := P4.below k5 P4.lt
  have T5 := T4.below k5 T4.lt
  have hge : gm < w4.heap.size := B24.lt
  clear sw5 k5 g5 EB H4 B14 B24 N4 M4
  generalize w4.heap.size = ge at *
  have PC := Lib.hid (HE.out w5 Q (YI.out w5 N5))
  clear HE SQ hE1 hQ1
  go_wp2_with (first
    | (refine at_op (.load 66 (.tmp 1)) rfl ?_; go_must (refine wpList_ldB rfl 66 (.tmp 1) rfl gy 0 rfl B15 23 (by omega) _ Try.underlying66 rfl qyInfo Q (by rw [List.drop_zero, List.take_of_length_le (by omega)]) ?_))
    | (refine at_op (.load 70 (.tmp 5)) rfl ?_; go_must (refine wpList_ldB rfl 70 (.tmp 5) rfl ge 0 rfl B5 22 (by omega) _ Try.underlying70 rfl evInfo E (by rw [List.drop_zero, List.take_of_length_le (by omega)]) ?_)))
  refine PC.out.mono ?_
  rintro _ w6 ⟨dx, rfl, hX6, b6⟩
  have hxl := hX6.len
  have hx1 := Lib.hid hX6.one
  have H6 := below_then H5 H5.size b6
  have B16 := B15.below b6 B15.lt
  have B26 := B25.below b6 B25.lt
  have B56 := B5.below b6 B5.lt
  have N6 := N5.below b6 N5.lt
  have M6 := M5.below b6
  have P6 := P5.below b6 P5.lt
  have T6 := T5.below b6 T5.lt
  have hg6 : ge < w6.heap.size := B56.lt
  clear PC b6 H5 B15 B25 B5 N5 M5
  go_wp2_with (refine at_op (.store 52 (.tmp 6) (.tmp 32)) rfl ?_; go_must (refine wpList_stB rfl 52 (.tmp 6) (.tmp 32) rfl w6.heap.size 0 rfl dx rfl (Blk.new' _ _ msgZ _ rfl) (by rw [hxl, msgZ_len]; omega) (by rw [hxl]; exact msgInfo) hx1.out ?_))
  intro w7 B67 g7 sw7
  replace B67 := whole14 B67 (by have := msgZ_len; omega)
  have k7 : Below w6.heap.size w6 w7 := below_grown ((Below.refl _ _).alloc (Nat.le_refl _) _) g7 (by simp) (Nat.le_refl _)
  have H7 := below_then H6 H6.size k7
  have B17 := B16.below k7 B16.lt
  have B27 := B26.below k7 B26.lt
  have B57 := B56.below k7 B56.lt
  have N7 := N6.below k7 N6.lt
  have M7 := M6.below k7
  have P7 := P6.below k7 P6.lt
  have T7 := T6.below k7 T6.lt
  have hX7 := hX6.below k7
  clear sw7 g7 k7 H6 B16 B26 B56 N6 M6 hX6 hx1
  generalize w6.heap.size = gx at *
  go_wp2_with (refine at_op (.store 3 (.tmp 34) (.const (.int .i64 54))) rfl ?_; go_must (refine wpList_stC rfl 3 (.tmp 34) (.const (.int .i64 54)) rfl ge 19 rfl (.int .i64 54) rfl B57 (by omega) intInfo1 rfl rfl ?_))
  intro w8 B58 g8 sw8
  have k8 : Below ge w7 w8 := below_grown (Below.refl _ _) g8 (Nat.le_of_lt B57.lt) (Nat.le_refl _)
  have H8 := below_grown H7 g8 H7.size (by omega)
  have B18 := B17.grown g8 (by simp; omega)
  have B28 := B27.grown g8 (by simp; omega)
  have B68 := B67.grown g8 (by simp; omega)
  have N8 := N7.grown g8 (by simp; omega)
  have hX8 : MsgOwn w8 dx m25 := hX7.far8 g8 B57
  have P8 := P7.grown g8 (by simp; omega)
  have T8 := T7.grown g8 (by simp; omega)
  have M8 := MF.out w8 P8 T8
  have PF := Lib.hid (HF.out w8 Q (YI.out w8 N8))
  have hel : (E.set 19 (.int .i64 54)).length = 22 := by rw [List.length_set]; exact hEl
  clear sw8 g8 k8 H7 B17 B27 B57 B67 N7 M7 hX7 HF YI
  generalize E.set 19 (.int .i64 54) = F at *
  go_wp2_with (first
    | (refine at_op (.load 66 (.tmp 1)) rfl ?_; go_must (refine wpList_ldB rfl 66 (.tmp 1) rfl gy 0 rfl B18 23 (by omega) _ Try.underlying66 rfl qyInfo Q (by rw [List.drop_zero, List.take_of_length_le (by omega)]) ?_))
    | (refine at_op (.load 70 (.tmp 5)) rfl ?_; go_must (refine wpList_ldB rfl 70 (.tmp 5) rfl ge 0 rfl B58 22 (by omega) _ Try.underlying70 rfl evInfo F (by rw [List.drop_zero, List.take_of_length_le (by omega)]) ?_)))
  refine PF.out.mono ?_
  rintro _ w9 ⟨dz, rfl, hZ9, b9⟩
  have hzl := hZ9.len
  have hz1 := Lib.hid hZ9.one
  have H9 := below_then H8 H8.size b9
  have B29 := B28.below b9 B28.lt
  have B69 := B68.below b9 B68.lt
  have M9 := M8.below b9
  have hX9 := hX8.below b9
  clear PF b9 H8 B18 B28 B58 B68 N8 M8 hX8
  go_wp2_with (refine at_op (.store 52 (.tmp 8) (.tmp 39)) rfl ?_; go_must (refine wpList_stB rfl 52 (.tmp 8) (.tmp 39) rfl w9.heap.size 0 rfl dz rfl (Blk.new' _ _ msgZ _ rfl) (by rw [hzl, msgZ_len]; omega) (by rw [hzl]; exact msgInfo) hz1.out ?_))
  intro wa Bz ga swa
  have ka : Below w9.heap.size w9 wa := below_grown ((Below.refl _ _).alloc (Nat.le_refl _) _) ga (by simp) (Nat.le_refl _)
  have Ha := below_then H9 H9.size ka
  have B2a := B29.below ka B29.lt
  have B6a := B69.below ka B69.lt
  have SA := Lib.hid (same_own (hX9.below ka) (M9.below ka))
  rw [decide_eq_true rfl] at SA
  clear swa ga ka H9 B29 B69 M9 hX9 hZ9 hz1 Bz
  go_wp2_with (first
    | (refine at_op (.load 52 (.tmp 6)) rfl ?_; go_must (refine wpList_ldG 52 (.tmp 6) rfl (by go_simp) gx 0 rfl B6a 14 (by omega) _ Try.underlying52 rfl msgInfo dx (by rw [List.drop_zero, List.take_of_length_le (by omega)]) ?_))
    | (refine at_op (.load 52 (.tmp 2)) rfl ?_; go_must (refine wpList_ldG 52 (.tmp 2) rfl (by go_simp) gm 0 rfl B2a 14 (by omega) _ Try.underlying52 rfl msgInfo M (by rw [List.drop_zero, List.take_of_length_le (by omega)]) ?_)))
  refine SA.out.mono ?_
  rintro _ wb ⟨rfl, bb⟩
  have Hb := below_then Ha Ha.size bb
  clear bb SA Ha B2a B6a
  go_wp2_with fail
  go_ret
  exact RetB.mk rfl Hb
end Go.Proofs.Ytlmgdogblbigpaa
/-
  Layer 14, the laws' own: Small, and the questions' names.
-/
namespace Go.Proofs.Ytlmgdogblbigpaa
open Go.RowKit
set_option maxRecDepth 100000
set_option linter.unusedVariables false
set_option linter.unusedSimpArgs false

/-- What Small tells. -/
def SmallNm (m : Msg) (w : World) (e : Ending) (w' : World) : Prop := ∃ n : Int, e = .returned (.int .i64 n) ∧ (n = 0 ∨ n = 1) ∧ (n = 0 → m.qs.length ≤ 20 ∧ m.an.length ≤ 30 ∧ m.au.length ≤ 20 ∧ m.ex.length ≤ 20 ∧ ∀ q ∈ m.qs, lsum q.name ≤ 400) ∧ Below w.heap.size w w'
set_option maxHeartbeats 4000000 in
theorem small14n_any (cs : List Value) (m : Msg) (Aq Aa Au Ae : Option Addr) (cq ca cu ce : Nat) (w : World) (h : MsgIs w cs m Aq Aa Au Ae cq ca cu ce) :
    Calls Try.prog 27 #[.agg cs.toArray] w (SmallNm m w) := by
  have hcs := h.hcs
  have hl : cs.length = 14 := by rw [hcs]; exact msgC_len _ _ _ _ _
  have L10 : cs[10]? = some (.slice Aq m.qs.length cq) := by rw [hcs]; rfl
  have L11 : cs[11]? = some (.slice Aa m.an.length ca) := by rw [hcs]; rfl
  have L12 : cs[12]? = some (.slice Au m.au.length cu) := by rw [hcs]; rfl
  have L13 : cs[13]? = some (.slice Ae m.ex.length ce) := by rw [hcs]; rfl
  have lq := h.lq
  have la := h.la
  have lu := h.lu
  have le := h.le
  have hq := h.hq
  have ha := h.ha
  have hu := h.hu
  have he := h.he
  unfold SmallNm
  clear h hcs
  generalize m.qs = Q at *
  generalize m.an = LA at *
  generalize m.au = LU at *
  generalize m.ex = LE at *
  have B1 := Blk.new w 52 cs
  have HB1 : Below w.heap.size w (w.alloc (.cells cs.toArray 52)) := (Below.refl _ _).alloc (Nat.le_refl _) _
  have c10 := B1.cell_ 10 L10
  have c11 := B1.cell_ 11 L11
  have c12 := B1.cell_ 12 L12
  have c13 := B1.cell_ 13 L13
  by_cases h1 : 20 < Q.length
  case pos =>
    have h1' : (20 : Int) < Q.length := by omega
    clear h1
    go_enter Try.func27, Try.ntmps27
    go_wp2_with fail
    go_ret
    exact ⟨1, rfl, .inr rfl, fun h => absurd h (by decide), HB1⟩
  have h1' : ¬ (20 : Int) < Q.length := by omega
  by_cases h2 : 30 < LA.length
  case pos =>
    have h2' : (30 : Int) < LA.length := by omega
    clear h1 h2
    go_enter Try.func27, Try.ntmps27
    go_wp2_with fail
    go_ret
    exact ⟨1, rfl, .inr rfl, fun h => absurd h (by decide), HB1⟩
  have h2' : ¬ (30 : Int) < LA.length := by omega
  by_cases h3 : 20 < LU.length
  case pos =>
    have h3' : (20 : Int) < LU.length := by omega
    clear h1 h2 h3
    go_enter Try.func27, Try.ntmps27
    go_wp2_with fail
    go_ret
    exact ⟨1, rfl, .inr rfl, fun h => absurd h (by decide), HB1⟩
  have h3' : ¬ (20 : Int) < LU.length := by omega
  by_cases h4 : 20 < LE.length
  case pos =>
    have h4' : (20 : Int) < LE.length := by omega
    clear h1 h2 h3 h4
    go_enter Try.func27, Try.ntmps27
    go_wp2_with fail
    go_ret
    exact ⟨1, rfl, .inr rfl, fun h => absurd h (by decide), HB1⟩
  have h4' : ¬ (20 : Int) < LE.length := by omega
  have FIN : Q.length ≤ 20 ∧ LA.length ≤ 30 ∧ LU.length ≤ 20 ∧ LE.length ≤ 20 := ⟨by omega, by omega, by omega, by omega⟩
  have FN := Lib.hid FIN
  clear FIN h1 h2 h3 h4
  go_enter Try.func27, Try.ntmps27
  go_wp2_with fail
  obtain ⟨w1, hw1⟩ : ∃ w1, w1 = w.alloc (.cells cs.toArray 52) := ⟨_, rfl⟩
  rw [← hw1] at B1 HB1 ⊢
  clear hw1 c10 c11 c12 c13
  have hb : Below w1.heap.size w1 w1 := Below.refl _ _
  have cc := B1.cell_ 10 L10
  go_loopw [3] (fun iv wr => ∃ k : Nat, k ≤ Q.length ∧ iv = .int .i64 k ∧ Below w1.heap.size w1 wr ∧ Hid (∀ i (h : i < Q.length), i < k → lsum Q[i].name ≤ 400)) (fun iv _ => Q.length - (intOf iv).toNat)
  case atStart => exact ⟨0, Nat.zero_le _, rfl, hb, Lib.hid (fun i _ h => absurd h (by omega))⟩
  clear hb cc
  obtain ⟨k, hk, rfl, hb, HNm⟩ := hrel
  have Br := B1.below hb B1.lt
  have cc := Br.cell_ 10 L10
  by_cases hlt : k < Q.length
  case pos =>
    have hlt' : (k : Int) < Q.length := by omega
    have HBr := below_then HB1 HB1.size hb
    obtain ⟨ba, oa, hA, hba, hel⟩ := hq (by omega)
    subst hA
    obtain ⟨An, cn, hrg, hN⟩ := hel k hlt
    have hRk := range_below hrg HBr hba
    have c0 : wr.cell? ⟨ba, oa + k * 3, none⟩ = some (.slice An Q[k].name.length cn) := hRk 0 _ rfl
    have CK := Lib.hid (fewN_any An cn Q[k].name wr (hN.below HBr))
    clear hel hrg hN hRk
    obtain ⟨b, hbb⟩ : ∃ b, Hid (decide (lsum (Q[k]'hlt).name ≤ 400) = b) := ⟨_, Lib.hid rfl⟩
    rw [hbb.out] at CK
    generalize (Q[k]'hlt).name.length = nl at *
    go_wp2_with fail
    refine CK.out.mono ?_
    rintro _ w4 ⟨rfl, rfl⟩
    cases b with
    | false =>
      go_wp2_with fail
      go_ret
      exact ⟨1, rfl, .inr rfl, fun h => absurd h (by decide), HBr⟩
    | true =>
      go_wp2_with fail
      go_roundw
      case rel => exact ⟨k + 1, by omega, by go_num, hb, Lib.hid (fun i h1 h2 => by
        by_cases hi : i = k
        · subst hi; exact of_decide_eq_true hbb.out
        · exact HNm.out i h1 (by omega))⟩
      case measure => simp [intOf]; omega
  have HNm2 : Hid (∀ i (h : i < Q.length), lsum Q[i].name ≤ 400) := Lib.hid (fun i h => HNm.out i h (by omega))
  clear HNm
  obtain rfl : k = Q.length := by omega
  have hlt' : ¬ (Q.length : Int) < Q.length := by omega
  clear hlt hk hq
  go_wp2_with fail
  go_loopw [4] (fun iv wr => ∃ k : Nat, k ≤ LA.length ∧ iv = .int .i64 k ∧ Below w1.heap.size w1 wr) (fun iv _ => LA.length - (intOf iv).toNat)
  case atStart => exact ⟨0, Nat.zero_le _, rfl, hb⟩
  clear hb cc
  obtain ⟨k, hk, rfl, hb⟩ := hrel
  have Br := B1.below hb B1.lt
  have cc := Br.cell_ 11 L11
  by_cases hlt : k < LA.length
  case pos =>
    have hlt' : (k : Int) < LA.length := by omega
    have HBr := below_then HB1 HB1.size hb
    obtain ⟨ba, oa, hA, hba, hel⟩ := ha (by omega)
    subst hA
    obtain ⟨ck, hrg, hRR⟩ := hel k hlt
    have hRk := range_below hrg HBr hba
    have ckl := hRR.len
    have CK := Lib.hid (fun w' (b : Below w.heap.size w w') => small13_any ck LA[k] w' (hRR.below b))
    clear hel hrg hRR
    go_wp2_with (refine at_op (.load 86 (.tmp 54)) rfl ?_; go_must (refine wpList_ldR rfl 86 (.tmp 54) rfl ba (oa + k * 33) rfl ck hRk _ Try.underlying86 rfl (by rw [ckl]; exact rrInfo) ?_))
    refine (CK.out _ HBr).mono ?_
    rintro _ w4 ⟨b, rfl, b4⟩
    have HB4 := below_then HBr HBr.size b4
    have hb4 := below_then hb hb.size b4
    clear CK b4 HBr hb hRk cc Br
    cases b with
    | false =>
      go_wp2_with fail
      go_ret
      exact ⟨1, rfl, .inr rfl, fun h => absurd h (by decide), HB4⟩
    | true =>
      go_wp2_with fail
      go_roundw
      case rel => exact ⟨k + 1, by omega, by go_num, hb4⟩
      case measure => simp [intOf]; omega
  obtain rfl : k = LA.length := by omega
  have hlt' : ¬ (LA.length : Int) < LA.length := by omega
  clear hlt hk ha
  go_wp2_with fail
  go_loopw [5] (fun iv wr => ∃ k : Nat, k ≤ LU.length ∧ iv = .int .i64 k ∧ Below w1.heap.size w1 wr) (fun iv _ => LU.length - (intOf iv).toNat)
  case atStart => exact ⟨0, Nat.zero_le _, rfl, hb⟩
  clear hb cc
  obtain ⟨k, hk, rfl, hb⟩ := hrel
  have Br := B1.below hb B1.lt
  have cc := Br.cell_ 12 L12
  by_cases hlt : k < LU.length
  case pos =>
    have hlt' : (k : Int) < LU.length := by omega
    have HBr := below_then HB1 HB1.size hb
    obtain ⟨ba, oa, hA, hba, hel⟩ := hu (by omega)
    subst hA
    obtain ⟨ck, hrg, hRR⟩ := hel k hlt
    have hRk := range_below hrg HBr hba
    have ckl := hRR.len
    have CK := Lib.hid (fun w' (b : Below w.heap.size w w') => small13_any ck LU[k] w' (hRR.below b))
    clear hel hrg hRR
    go_wp2_with (refine at_op (.load 86 (.tmp 68)) rfl ?_; go_must (refine wpList_ldR rfl 86 (.tmp 68) rfl ba (oa + k * 33) rfl ck hRk _ Try.underlying86 rfl (by rw [ckl]; exact rrInfo) ?_))
    refine (CK.out _ HBr).mono ?_
    rintro _ w4 ⟨b, rfl, b4⟩
    have HB4 := below_then HBr HBr.size b4
    have hb4 := below_then hb hb.size b4
    clear CK b4 HBr hb hRk cc Br
    cases b with
    | false =>
      go_wp2_with fail
      go_ret
      exact ⟨1, rfl, .inr rfl, fun h => absurd h (by decide), HB4⟩
    | true =>
      go_wp2_with fail
      go_roundw
      case rel => exact ⟨k + 1, by omega, by go_num, hb4⟩
      case measure => simp [intOf]; omega
  obtain rfl : k = LU.length := by omega
  have hlt' : ¬ (LU.length : Int) < LU.length := by omega
  clear hlt hk hu
  go_wp2_with fail
  go_loopw [6] (fun iv wr => ∃ k : Nat, k ≤ LE.length ∧ iv = .int .i64 k ∧ Below w1.heap.size w1 wr) (fun iv _ => LE.length - (intOf iv).toNat)
  case atStart => exact ⟨0, Nat.zero_le _, rfl, hb⟩
  clear hb cc
  obtain ⟨k, hk, rfl, hb⟩ := hrel
  have Br := B1.below hb B1.lt
  have cc := Br.cell_ 13 L13
  by_cases hlt : k < LE.length
  case pos =>
    have hlt' : (k : Int) < LE.length := by omega
    have HBr := below_then HB1 HB1.size hb
    obtain ⟨ba, oa, hA, hba, hel⟩ := he (by omega)
    subst hA
    obtain ⟨ck, hrg, hRR⟩ := hel k hlt
    have hRk := range_below hrg HBr hba
    have ckl := hRR.len
    have CK := Lib.hid (fun w' (b : Below w.heap.size w w') => small13_any ck LE[k] w' (hRR.below b))
    clear hel hrg hRR
    go_wp2_with (refine at_op (.load 86 (.tmp 82)) rfl ?_; go_must (refine wpList_ldR rfl 86 (.tmp 82) rfl ba (oa + k * 33) rfl ck hRk _ Try.underlying86 rfl (by rw [ckl]; exact rrInfo) ?_))
    refine (CK.out _ HBr).mono ?_
    rintro _ w4 ⟨b, rfl, b4⟩
    have HB4 := below_then HBr HBr.size b4
    have hb4 := below_then hb hb.size b4
    clear CK b4 HBr hb hRk cc Br
    cases b with
    | false =>
      go_wp2_with fail
      go_ret
      exact ⟨1, rfl, .inr rfl, fun h => absurd h (by decide), HB4⟩
    | true =>
      go_wp2_with fail
      go_roundw
      case rel => exact ⟨k + 1, by omega, by go_num, hb4⟩
      case measure => simp [intOf]; omega
  obtain rfl : k = LE.length := by omega
  have hlt' : ¬ (LE.length : Int) < LE.length := by omega
  clear hlt hk he
  have HBr := below_then HB1 HB1.size hb
  go_wp2_with fail
  go_ret
  exact ⟨0, rfl, .inl rfl, fun _ => ⟨FN.out.1, FN.out.2.1, FN.out.2.2.1, FN.out.2.2.2, fun q hq => by
    obtain ⟨i, hi, rfl⟩ := List.mem_iff_getElem.1 hq
    exact HNm2.out i hi⟩, HBr⟩
end Go.Proofs.Ytlmgdogblbigpaa
/-
  What the reading of a query, and of an event, says of its cells.
-/
namespace Go.Proofs.Ytlmgdogblbigpaa
open Go.ChangeShapes Go.WideShapes Go.ChangeAt Go.RowKit
set_option linter.unusedVariables false
set_option linter.unusedSimpArgs false

section
variable {H : Type} {enc : TypeId × Value → H} {w : World} {cs : List Value}
theorem seen_qy (h : SeenW enc Try.prog w 63 cs) : ∃ (y : Qy) (A : Option Addr) (c : Nat), QyIs w cs y A c := by
  have c23 : Try.prog.cellsOf 63 = 23 := by kernel_rfl
  have c1 : Try.prog.cellsOf 3 = 1 := by kernel_rfl
  have ca : Try.prog.cellsOf 59 = 18 := by kernel_rfl
  have cq : Try.prog.cellsOf 61 = 3 := by kernel_rfl
  obtain ⟨hl, hf⟩ := h.struct Try.underlying63
  rw [c23] at hl
  have h0 : SeenW enc Try.prog w 59 ((cs.drop 0).take (Try.prog.cellsOf 59)) := hf 0 _ rfl
  have h1 : SeenW enc Try.prog w 3 ((cs.drop 18).take (Try.prog.cellsOf 3)) := hf 1 _ rfl
  have h2 : SeenW enc Try.prog w 3 ((cs.drop 19).take (Try.prog.cellsOf 3)) := hf 2 _ rfl
  have h3 : SeenW enc Try.prog w 61 ((cs.drop 20).take (Try.prog.cellsOf 61)) := hf 3 _ rfl
  rw [ca] at h0
  rw [c1] at h1 h2
  rw [cq] at h3
  obtain ⟨ad, i16, e0⟩ := seen_adr h0
  obtain ⟨po, e1⟩ := seen_int h1
  obtain ⟨id, e2⟩ := seen_int h2
  obtain ⟨q, An, cn, e3, hN⟩ := seen_q h3
  refine ⟨⟨ad, po, id, q⟩, An, cn, ?_, i16, hN⟩
  show cs.drop 0 = _
  rw [dsplit cs 0 18 18 rfl, e0, dsplit cs 18 1 19 rfl, e1, dsplit cs 19 1 20 rfl, e2, dsplit cs 20 3 23 rfl, e3, List.drop_of_length_le (by omega)]
  rfl
theorem seen_ev (h : SeenW enc Try.prog w 70 cs) : ∃ e : Ev, cs = evC e ∧ e.fr.ip.length = 16 ∧ e.data.length ≤ maxLen := by
  have c22 : Try.prog.cellsOf 70 = 22 := by kernel_rfl
  have c1 : Try.prog.cellsOf 3 = 1 := by kernel_rfl
  have ca : Try.prog.cellsOf 59 = 18 := by kernel_rfl
  have cs1 : Try.prog.cellsOf 9 = 1 := by kernel_rfl
  obtain ⟨hl, hf⟩ := h.struct Try.underlying70
  rw [c22] at hl
  have h0 : SeenW enc Try.prog w 3 ((cs.drop 0).take (Try.prog.cellsOf 3)) := hf 0 _ rfl
  have h1 : SeenW enc Try.prog w 59 ((cs.drop 1).take (Try.prog.cellsOf 59)) := hf 1 _ rfl
  have h2 : SeenW enc Try.prog w 3 ((cs.drop 19).take (Try.prog.cellsOf 3)) := hf 2 _ rfl
  have h3 : SeenW enc Try.prog w 3 ((cs.drop 20).take (Try.prog.cellsOf 3)) := hf 3 _ rfl
  have h4 : SeenW enc Try.prog w 9 ((cs.drop 21).take (Try.prog.cellsOf 9)) := hf 4 _ rfl
  rw [ca] at h1
  rw [c1] at h0 h2 h3
  rw [cs1] at h4
  obtain ⟨kd, e0⟩ := seen_int h0
  obtain ⟨ad, i16, e1⟩ := seen_adr h1
  obtain ⟨fp, e2⟩ := seen_int h2
  obtain ⟨po, e3⟩ := seen_int h3
  obtain ⟨dt, e4, dl⟩ := h4.string Try.underlying9
  refine ⟨⟨kd, ad, fp, po, dt⟩, ?_, i16, Nat.le_trans dl (by decide)⟩
  show cs.drop 0 = _
  rw [dsplit cs 0 1 1 rfl, e0, dsplit cs 1 18 19 rfl, e1, dsplit cs 19 1 20 rfl, e2, dsplit cs 20 1 21 rfl, e3, dsplit cs 21 1 22 rfl, e4, List.drop_of_length_le (by omega)]
  rfl
end
end Go.Proofs.Ytlmgdogblbigpaa
/-
  Layer 25, the laws' own: MatchReplies.
-/
namespace Go.Proofs.Ytlmgdogblbigpaa
open Go.RowKit
set_option maxRecDepth 100000
set_option linter.unusedVariables false
set_option linter.unusedSimpArgs false

set_option maxHeartbeats 4000000 in
theorem matchReplies_any (cs ds : List Value) (y : Qy) (m : Msg) (A : Option Addr) (c : Nat) (Aq Aa Au Ae : Option Addr) (cq ca cu ce : Nat) (w : World) (h1 : QyIs w cs y A c) (h2 : MsgIs w ds m Aq Aa Au Ae cq ca cu ce) :
    Calls Try.prog 7 #[.agg cs.toArray, .agg ds.toArray] w (RetB (.bool true) w) := by
  have hcl : cs.length = 23 := by rw [h1.hcs]; exact qyC_len h1.ip
  have hdl : ds.length = 14 := by rw [h2.hcs]; exact msgC_len _ _ _ _ _
  have L20 : cs[20]? = some (.slice A y.q.name.length c) := by rw [h1.hcs]; exact qyC_at h1.ip 2
  have SM := Lib.hid (fun w' (b : Below w.heap.size w w') => small14n_any ds m Aq Aa Au Ae cq ca cu ce w' (h2.below b))
  have FW := Lib.hid (fun w' (b : Below w.heap.size w w') => fewN_any A c y.q.name w' (h1.nm.below b))
  have TO := Lib.hid (fun w' (b : Below w.heap.size w w') => to_any cs y A c w' (h1.below b))
  have RP := Lib.hid (fun w' (b : Below w.heap.size w w') => reply_any cs ds y m A c Aq Aa Au Ae cq ca cu ce w' (h1.below b) (h2.below b))
  have RF := Lib.hid (fun w' (b : Below w.heap.size w w') hq hs => refreply_any cs ds y m A c Aq Aa Au Ae cq ca cu ce w' (h1.below b) (h2.below b) hq hs)
  unfold SmallNm at SM
  clear h1 h2
  have B1 : Blk ((w.alloc (.cells cs.toArray 63)).alloc (.cells ds.toArray 52)) w.heap.size 63 cs := (Blk.new w 63 cs).alloc _
  have B2 : Blk ((w.alloc (.cells cs.toArray 63)).alloc (.cells ds.toArray 52)) (w.heap.size + 1) 52 ds := Blk.new' _ 52 ds _ (by simp)
  have HB : Below w.heap.size w ((w.alloc (.cells cs.toArray 63)).alloc (.cells ds.toArray 52)) := ((Below.refl _ _).alloc (Nat.le_refl _) _).alloc (by simp) _
  go_enter Try.func7, Try.ntmps7
  go_wp2_with (refine at_op (.load 52 (.tmp 3)) rfl ?_; go_must (refine wpList_ldB rfl 52 (.tmp 3) rfl (w.heap.size + 1) 0 rfl B2 14 (by omega) _ Try.underlying52 rfl msgInfo ds (by rw [List.drop_zero, List.take_of_length_le (by omega)]) ?_))
  refine (SM.out _ HB).mono ?_
  rintro _ w1 ⟨n, rfl, h01, hsm, b1⟩
  have C1 := B1.below b1 B1.lt
  have C2 := B2.below b1 B2.lt
  have HB1 := below_then HB HB.size b1
  clear B1 B2 HB b1 SM
  rcases h01 with rfl | rfl
  case inr =>
    clear hsm FW TO RP RF
    go_wp2_with fail
    refine (works25_any _).mono ?_
    rintro _ w2 ⟨rfl, b2⟩
    have HB2 := below_then HB1 HB1.size b2
    clear b2
    go_wp2_with fail
    go_ret
    exact RetB.mk rfl HB2
  obtain ⟨_, _, _, _, hnm⟩ := hsm rfl
  have HNM := Lib.hid hnm
  clear hsm hnm
  have a20 := C1.cell_ 20 L20
  by_cases hf : lsum y.q.name ≤ 400
  case neg =>
    rw [decide_eq_false hf] at FW
    clear hf TO RP RF HNM
    generalize y.q.name.length = nl at *
    go_wp2_with fail
    refine (FW.out _ HB1).mono ?_
    rintro _ w2 ⟨rfl, rfl⟩
    go_wp2_with fail
    refine (works25_any _).mono ?_
    rintro _ w2 ⟨rfl, b2⟩
    have HB2 := below_then HB1 HB1.size b2
    clear b2
    go_wp2_with fail
    go_ret
    exact RetB.mk rfl HB2
  rw [decide_eq_true hf] at FW
  replace RF := Lib.hid (fun w' b => RF.out w' b (by omega) (fun x hx => Nat.le_trans (HNM.out x hx) (by omega)))
  clear hf HNM
  generalize replyB y m = b at *
  generalize y.q.name.length = nl at *
  go_wp2_with fail
  refine (FW.out _ HB1).mono ?_
  rintro _ w2 ⟨rfl, rfl⟩
  clear FW a20
  go_wp2_with fail
  refine wp_region_old (by kernel_rfl) (by kernel_rfl) ?_
  refine wpQuiet_call 34 #[] rfl (fun W => by go_simp) (fun W hW => RetB.old hW (works25_any W)) ?_
  simp only [Act.put, List.setIfInBounds_toArray, List.set_cons_zero, List.set_cons_succ]
  (refine wpQuiet_val (v := (.bool true)) rfl (fun W hW => by first | (go_simp; done) | (go_simp; omega)) ?_; simp only [Act.put, List.setIfInBounds_toArray, List.set_cons_zero, List.set_cons_succ])
  refine wpQuiet_ld 63 (.tmp 2) rfl ⟨w.heap.size, 0, none⟩ rfl rfl (fun W hW => (C1.below hW C1.lt).loads 63 0 23 (by omega) _ Try.underlying63 rfl qrInfo cs (by rw [List.drop_zero, List.take_of_length_le (by omega)])) ?_
  simp only [Act.put, List.setIfInBounds_toArray, List.set_cons_zero, List.set_cons_succ]
  refine wpQuiet_call 36 #[.agg cs.toArray] rfl (fun W => by go_simp) (fun W hW => RetB.old hW (TO.out W (below_then HB1 HB1.size hW))) ?_
  simp only [Act.put, List.setIfInBounds_toArray, List.set_cons_zero, List.set_cons_succ]
  refine wpQuiet_ld 52 (.tmp 3) rfl ⟨w.heap.size + 1, 0, none⟩ rfl rfl (fun W hW => (C2.below hW C2.lt).loads 52 0 14 (by omega) _ Try.underlying52 rfl msgInfo ds (by rw [List.drop_zero, List.take_of_length_le (by omega)])) ?_
  simp only [Act.put, List.setIfInBounds_toArray, List.set_cons_zero, List.set_cons_succ]
  refine wpQuiet_call 35 #[.agg cs.toArray, .agg ds.toArray] rfl (fun W => by go_simp) (fun W hW => RetB.old hW (RP.out W (below_then HB1 HB1.size hW))) ?_
  simp only [Act.put, List.setIfInBounds_toArray, List.set_cons_zero, List.set_cons_succ]
  refine wpQuiet_ld 63 (.tmp 2) rfl ⟨w.heap.size, 0, none⟩ rfl rfl (fun W hW => (C1.below hW C1.lt).loads 63 0 23 (by omega) _ Try.underlying63 rfl qrInfo cs (by rw [List.drop_zero, List.take_of_length_le (by omega)])) ?_
  simp only [Act.put, List.setIfInBounds_toArray, List.set_cons_zero, List.set_cons_succ]
  refine wpQuiet_ld 52 (.tmp 3) rfl ⟨w.heap.size + 1, 0, none⟩ rfl rfl (fun W hW => (C2.below hW C2.lt).loads 52 0 14 (by omega) _ Try.underlying52 rfl msgInfo ds (by rw [List.drop_zero, List.take_of_length_le (by omega)])) ?_
  simp only [Act.put, List.setIfInBounds_toArray, List.set_cons_zero, List.set_cons_succ]
  refine wpQuiet_call 37 #[.agg cs.toArray, .agg ds.toArray] rfl (fun W => by go_simp) (fun W hW => RetB.old hW (RF.out W (below_then HB1 HB1.size hW))) ?_
  simp only [Act.put, List.setIfInBounds_toArray, List.set_cons_zero, List.set_cons_succ]
  (refine wpQuiet_val (v := (.bool true)) rfl (fun W hW => by first | (go_simp; done) | (go_simp; omega)) ?_; simp only [Act.put, List.setIfInBounds_toArray, List.set_cons_zero, List.set_cons_succ])
  (refine wpQuiet_val (v := (.bool true)) rfl (fun W hW => by first | (go_simp; done) | (go_simp; omega)) ?_; simp only [Act.put, List.setIfInBounds_toArray, List.set_cons_zero, List.set_cons_succ])
  (refine wpQuiet_val (v := (.bool true)) rfl (fun W hW => by first | (go_simp; done) | (go_simp; omega)) ?_; simp only [Act.put, List.setIfInBounds_toArray, List.set_cons_zero, List.set_cons_succ])
  refine wpQuiet_nil ?_
  intro w4 hB4
  have HB4 := below_then HB1 HB1.size hB4
  clear C1 C2 HB1 hB4 TO RP RF
  go_wp2_with fail
  go_ret
  exact RetB.mk rfl HB4
end Go.Proofs.Ytlmgdogblbigpaa

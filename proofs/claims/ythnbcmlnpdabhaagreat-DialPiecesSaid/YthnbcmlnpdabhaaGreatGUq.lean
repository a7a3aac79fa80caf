/-
  The reference's layer 13: Check.
-/
import Derived.Test.YthnbcmlnpdabhaaGreatRd10q
namespace Go.Proofs.YthnbcmlnpdabhaaGreat
open _root_.Go.Proofs.Tryz
open Go.RowKit
set_option maxRecDepth 100000
set_option linter.unusedVariables false
set_option linter.unusedSimpArgs false
def withR (r : RR) : RR :=
 if kindR r.ty r.cl = 1 ∨ kindR r.ty r.cl = 28 then { bareR r with ad := r.ad }
 else if kindR r.ty r.cl = 5 ∨ kindR r.ty r.cl = 12 then { bareR r with tg := r.tg }
 else if kindR r.ty r.cl = 33 then { bareR r with pri := r.pri, we := r.we, po := r.po, tg := r.tg }
 else if kindR r.ty r.cl = 6 then { bareR r with tg := r.tg, ml := r.ml, nums := r.nums }
 else { bareR r with raw := r.raw }
theorem withR_eq (r : RR) : decide (withR r = r) = bareB (clearR r) := by
 have key : ∀ x : RR, decide (x = r) = bareB (clearR r) ↔ (x = r ↔ bareB (clearR r) = true) := fun x => by rw [Bool.eq_iff_iff, decide_eq_true_eq]
 rw [key]
 clear key
 rcases kindR_cases r.ty r.cl with h | h | (h | h) | h | h | h
 all_goals
  unfold withR clearR
  rw [h]
  unfold bareB bareR RR.zero
  obtain ⟨a0, a1, a2, a3, a4, a5, a6, a7, a8, a9, a10, a11⟩ := r
  simp only [RR.mk.injEq, Bool.and_eq_true, decide_eq_true_eq, true_and, and_true]
  refine ⟨fun h => ?_, fun h => ?_⟩
  all_goals first | grind | simp_all
def endE (r : RR) : Int := if hasE r ≠ 0 then hasE r else if decide (withR r = r) then 0 else 5
theorem bareR_wf (r : RR) : (bareR r).wf := ⟨rfl, rfl⟩
theorem refcheck13_name (cs : List Value) (r : RR) (w : World) (h : RRis w cs r) (h0 : checkN r.name ≠ 0) : Calls prog 161 #[.agg cs.toArray] w (RetB (.int .i64 (checkN r.name)) w) := by
 obtain ⟨An, cn, At, ct, Am, cm, hcs, hr, hN, hT, hM, hraw⟩ := h
 have hl : cs.length = 33 := by rw [hcs]; exact rrC_len hr
 have L0 : ∀ hi : 0 < cs.length, cs[0]'hi = .slice An r.name.length cn := at_of (by rw [hcs]; rfl)
 have CN := Hh (fun w' (b : Below w.heap.size w w') => refCheck05_any An cn r.name w' (hN.below b).1 (by have := hN.2.2.1; omega))
 generalize checkN r.name = e at *
 have h0' : (e != 0) = true := by simpa using h0
 clear hcs h0
 have hB0 : Below w.heap.size w (w.alloc (.cells cs.toArray 119)) := (Below.refl _ _).alloc (Nat.le_refl _) _
 go_enter func161, ntmps161
 go_wp2_with fail
 refine (CN.out _ hB0).mono ?_
 rintro _ w1 ⟨rfl, rfl⟩
 go_wp2_with fail
 go_ret
 exact RetB.mk rfl hB0
theorem refcheck13_range (cs : List Value) (r : RR) (w : World) (h : RRis w cs r) (h0 : checkN r.name = 0) (hb : ¬ (inB 65535 r.ty = true ∧ inB 65535 r.cl = true ∧ inB 4294967295 r.ttl = true)) : Calls prog 161 #[.agg cs.toArray] w (RetB (.int .i64 4) w) := by
 obtain ⟨An, cn, At, ct, Am, cm, hcs, hr, hN, hT, hM, hraw⟩ := h
 have hl : cs.length = 33 := by rw [hcs]; exact rrC_len hr
 have L0 : ∀ hi : 0 < cs.length, cs[0]'hi = .slice An r.name.length cn := at_of (by rw [hcs]; rfl)
 have L1 : ∀ hi : 1 < cs.length, cs[1]'hi = .int .i64 r.ty := at_of (by rw [hcs]; rfl)
 have L2 : ∀ hi : 2 < cs.length, cs[2]'hi = .int .i64 r.cl := at_of (by rw [hcs]; rfl)
 have L3 : ∀ hi : 3 < cs.length, cs[3]'hi = .int .i64 r.ttl := at_of (by rw [hcs]; rfl)
 have CN := Hh (fun w' (b : Below w.heap.size w w') => refCheck05_any An cn r.name w' (hN.below b).1 (by have := hN.2.2.1; omega))
 rw [h0] at CN
 have O1 := Hh (fun w => refOut13_any r.ty 65535 w)
 have O2 := Hh (fun w => refOut13_any r.cl 65535 w)
 have O3 := Hh (fun w => refOut13_any r.ttl 4294967295 w)
 generalize inB 65535 r.ty = b1 at *
 generalize inB 65535 r.cl = b2 at *
 generalize inB 4294967295 r.ttl = b3 at *
 have HB := Hh hb
 clear hcs h0 hb
 have hB0 : Below w.heap.size w (w.alloc (.cells cs.toArray 119)) := (Below.refl _ _).alloc (Nat.le_refl _) _
 go_enter func161, ntmps161
 go_wp2_with fail
 refine (CN.out _ hB0).mono ?_
 rintro _ w1 ⟨rfl, rfl⟩
 go_wp2_with fail
 refine (O1.out _).mono ?_
 rintro _ w1 ⟨rfl, rfl⟩
 cases b1 with
 | false =>
  go_wp2_with fail
  go_ret
  exact RetB.mk rfl hB0
 | true =>
 go_wp2_with fail
 refine (O2.out _).mono ?_
 rintro _ w1 ⟨rfl, rfl⟩
 cases b2 with
 | false =>
  go_wp2_with fail
  go_ret
  exact RetB.mk rfl hB0
 | true =>
 go_wp2_with fail
 refine (O3.out _).mono ?_
 rintro _ w1 ⟨rfl, rfl⟩
 cases b3 with
 | false =>
  go_wp2_with fail
  go_ret
  exact RetB.mk rfl hB0
 | true => exact absurd (by simp) HB.out
structure Good (cs : List Value) (r : RR) (w : World) (An : Option Addr) (cn : Nat) (At : Option Addr) (ct : Nat) (Am : Option Addr) (cm : Nat) : Prop where
 hcs : cs = rrC (.slice An r.name.length cn) (.slice At r.tg.length ct) (.slice Am r.ml.length cm) r
 hr : r.wf
 hN : NmR w An cn r.name
 hT : NmR w At ct r.tg
 hM : NmR w Am cm r.ml
 hraw : r.raw.length ≤ 140737488355328
 h0 : checkN r.name = 0
 h1 : inB 65535 r.ty = true
 h2 : inB 65535 r.cl = true
 h3 : inB 4294967295 r.ttl = true
set_option maxHeartbeats 4000000 in
theorem rc13_5 (cs : List Value) (r : RR) (w : World) {An : Option Addr} {cn : Nat} {At : Option Addr} {ct : Nat} {Am : Option Addr} {cm : Nat} (h : Good cs r w An cn At ct Am cm) (hk : kindR r.ty r.cl = 5 ∨ kindR r.ty r.cl = 12) : Calls prog 161 #[.agg cs.toArray] w (RetB (.int .i64 (endE r)) w) := by
 have hw : withR r = { bareR r with tg := r.tg } := by unfold withR; rcases hk with hk | hk <;> rw [hk] <;> rfl
 have hE : hasE r = checkN r.tg := by unfold hasE; rcases hk with hk | hk <;> rw [hk] <;> rfl
 rcases hk with hk | hk
 all_goals
  have hl : cs.length = 33 := by rw [h.hcs]; exact rrC_len h.hr
  have L0 : ∀ hi : 0 < cs.length, cs[0]'hi = .slice An r.name.length cn := at_of (by rw [h.hcs]; rfl)
  have L1 : ∀ hi : 1 < cs.length, cs[1]'hi = .int .i64 r.ty := at_of (by rw [h.hcs]; rfl)
  have L2 : ∀ hi : 2 < cs.length, cs[2]'hi = .int .i64 r.cl := at_of (by rw [h.hcs]; rfl)
  have L3 : ∀ hi : 3 < cs.length, cs[3]'hi = .int .i64 r.ttl := at_of (by rw [h.hcs]; rfl)
  have M1 : cs[1]? = some (.int .i64 r.ty) := by rw [h.hcs]; rfl
  have M2 : cs[2]? = some (.int .i64 r.cl) := by rw [h.hcs]; rfl
  have CN := Hh (fun w' (b : Below w.heap.size w w') => refCheck05_any An cn r.name w' (h.hN.below b).1 (by have := h.hN.2.2.1; omega))
  rw [h.h0] at CN
  have O1 := Hh (fun w => refOut13_any r.ty 65535 w)
  have O2 := Hh (fun w => refOut13_any r.cl 65535 w)
  have O3 := Hh (fun w => refOut13_any r.ttl 4294967295 w)
  rw [h.h1] at O1
  rw [h.h2] at O2
  rw [h.h3] at O3
  have BR := Hh (fun w => bare_any An r.name.length cn (.slice At r.tg.length ct) (.slice Am r.ml.length cm) r h.hr w)
  rw [← h.hcs] at BR
  have K := Hh (fun w => refKind13_any r.ty r.cl w)
  rw [hk] at K
  have ZL := rrC_len (vn := .slice An r.name.length cn) (vt := nilS) (vm := nilS) (bareR_wf r)
  have ZC := Hh (rrC_one (vn := .slice An r.name.length cn) (vt := nilS) (vm := nilS) (r := bareR r) rfl rfl rfl)
  have RW : RRis w cs r := ⟨An, cn, At, ct, Am, cm, h.hcs, h.hr, h.hN, h.hT, h.hM, h.hraw⟩
  have HE : Hid (endE r = _) := Hh (by unfold endE; rfl)
  generalize endE r = res at *
  rw [hE, hw] at HE
  have M22 : cs[22]? = some (.slice At r.tg.length ct) := by rw [h.hcs]; exact rrC_22 h.hr
  have S5 := rrC_setTg (vn := .slice An r.name.length cn) (vt := nilS) (vm := nilS) (bareR_wf r) (.slice At r.tg.length ct)
  have l5 := rrC_len (vn := .slice An r.name.length cn) (vt := .slice At r.tg.length ct) (vm := nilS) (bareR_wf r)
  have R5 : RRis w (rrC (.slice An r.name.length cn) (.slice At r.tg.length ct) nilS (bareR r)) { bareR r with tg := r.tg } := ⟨An, cn, At, ct, none, 0, rfl, ⟨rfl, rfl⟩, h.hN, h.hT, NmR.nil w, by simp [bareR, RR.zero]⟩
  have SM := Hh (fun w' (b : Below w.heap.size w w') => same13_any _ cs { bareR r with tg := r.tg } r w' (R5.below b) (RW.below b))
  have CT := Hh (fun w' (b : Below w.heap.size w w') => refCheck05_any At ct r.tg w' (h.hT.below b).1 (by have := h.hT.2.2.1; omega))
  clear h R5 RW hk hE hw
  generalize decide ({ bareR r with tg := r.tg } = r) = sb at *
  generalize rrC (.slice An r.name.length cn) (.slice At r.tg.length ct) nilS (bareR r) = L5 at *
  generalize checkN r.tg = e at *
  generalize rrC (.slice An r.name.length cn) nilS nilS (bareR r) = L4 at *
  generalize r.name.length = nn at *
  generalize r.tg.length = nt at *
  generalize r.ml.length = nm at *
  generalize r.ty = ty at *
  generalize r.cl = cl at *
  generalize r.ttl = ttl at *
  have hB0 : Below w.heap.size w (w.alloc (.cells cs.toArray 119)) := (Below.refl _ _).alloc (Nat.le_refl _) _
  have B0 := Blk.new w 119 cs
  go_enter func161, ntmps161
  go_wp2_with fail
  refine (CN.out _ hB0).mono ?_
  rintro _ w1 ⟨rfl, rfl⟩
  go_wp2_with fail
  refine (O1.out _).mono ?_
  rintro _ w1 ⟨rfl, rfl⟩
  go_wp2_with fail
  refine (O2.out _).mono ?_
  rintro _ w1 ⟨rfl, rfl⟩
  go_wp2_with fail
  refine (O3.out _).mono ?_
  rintro _ w1 ⟨rfl, rfl⟩
  clear O1 O2 O3 CN
  go_wp2_with (refine at_op (.load 119 (.tmp 1)) rfl ?_; go_must (refine wpList_ldB rfl _ _ rfl w.heap.size 0 rfl B0 33 (by omega) _ underlying119 rfl rrInfo cs (tk0 (by omega)) ?_))
  refine (BR.out _).mono ?_
  rintro _ w2 ⟨rfl, b2⟩
  have B1' := (B0.below b2 B0.lt).alloc (.cells rrZ.toArray 119)
  have HB2 := below_then hB0 hB0.size b2
  have hlt : w.heap.size < w2.heap.size := Nat.lt_of_lt_of_le B0.lt b2.size
  clear B0 hB0 b2 BR L0 L1 L2 L3
  go_wp2_with (refine at_op (.store 119 (.tmp 4) (.tmp 27)) rfl ?_; go_must (refine wpList_stB rfl _ _ _ rfl w2.heap.size 0 rfl L4 rfl (Blk.new' _ _ rrZ _ (by simp)) (by rw [rrZ_len]; omega) (by rw [ZL]; exact rrInfo) ZC.out ?_))
  intro w3 hb3 hg3 hs3
  rw [List.drop_of_length_le (by rw [rrZ_len]; omega), List.append_nil] at hb3
  have B4 := hb3
  have B1 : Blk w3 w.heap.size 119 cs := B1'.grown hg3 (by simp; omega)
  have HB : Below w.heap.size w w3 := below_grown (HB2.alloc HB2.size _) hg3 (by have := HB2.size; simp; omega) HB2.size
  clear hb3 hg3 HB2 B1' hs3
  have u1 := B1.cell_ 1 M1
  have u2 := B1.cell_ 2 M2
  go_wp2_with fail
  refine (K.out _).mono ?_
  rintro _ w4 ⟨rfl, rfl⟩
  clear K u1 u2 M1 M2
  have u22 := B1.cell_ 22 M22
  go_wp2_with (refine at_op (.store 26 (.tmp 82) (.tmp 81)) rfl ?_; go_must (refine wpList_stC rfl 26 (.tmp 82) (.tmp 81) rfl w2.heap.size 22 rfl (.slice At nt ct) rfl B4 (by omega) nameInfo1 rfl rfl ?_))
  clear u22
  intro w4 hb4 hg4 hs4
  replace B4 := hb4
  replace B1 := B1.grown hg4 (by simp; omega)
  replace HB := below_grown HB hg4 HB.size (by omega)
  clear hb4 hg4 hs4
  (try rw [S5] at B4)
  have u22 := B1.cell_ 22 M22
  go_wp2_with fail
  refine (CT.out _ HB).mono ?_
  rintro _ w5 ⟨rfl, rfl⟩
  clear CT u22 M22 S5
  by_cases he0 : e = 0
  ·
   subst he0
   have hr0 := Hh (HE.out.trans (if_neg (by simp)))
   clear HE
   go_wp2_with (first
    | (refine at_op (.load 119 (.tmp 4)) rfl ?_; refine wpList_ldBg (by kernel_rfl) 119 (.tmp 4) rfl w2.heap.size 0 rfl B4 33 (by omega) _ underlying119 rfl rrInfo L5 (tk0 (by omega)) ?_)
    | (refine at_op (.load 119 (.tmp 1)) rfl ?_; refine wpList_ldBg (by kernel_rfl) 119 (.tmp 1) rfl w.heap.size 0 rfl B1 33 (by omega) _ underlying119 rfl rrInfo cs (tk0 (by omega)) ?_))
   refine (SM.out _ HB).mono ?_
   rintro _ w9 ⟨rfl, b9⟩
   have HB9 := below_then HB HB.size b9
   cases sb with
   | false =>
    have hr1 : res = 5 := by simpa using hr0.out
    subst hr1
    clear hr0
    go_wp2_with fail
    go_ret
    exact RetB.mk rfl HB9
   | true =>
    have hr1 : res = 0 := by simpa using hr0.out
    subst hr1
    clear hr0
    go_wp2_with fail
    go_ret
    exact RetB.mk rfl HB9
  ·
   have hr0 := HE.out.trans (if_pos he0)
   subst hr0
   have he1 : (res == 0) = false := by simpa using he0
   have he2 : (res != 0) = true := by simpa using he0
   clear HE he0
   go_wp2_with fail
   go_ret
   exact RetB.mk rfl HB
set_option maxHeartbeats 4000000 in
theorem rc13_1 (cs : List Value) (r : RR) (w : World) {An : Option Addr} {cn : Nat} {At : Option Addr} {ct : Nat} {Am : Option Addr} {cm : Nat} (h : Good cs r w An cn At ct Am cm) (hk : kindR r.ty r.cl = 1) : Calls prog 161 #[.agg cs.toArray] w (RetB (.int .i64 (endE r)) w) := by
 have hw : withR r = { bareR r with ad := r.ad } := by unfold withR; rw [hk]; rfl
 have hE : hasE r = (if r.ad.check ≠ 0 ∨ r.ad.fam ≠ 4 ∨ r.ad.zone ≠ 0 then 10 else 0) := by unfold hasE; rw [hk]; rfl
 have hl : cs.length = 33 := by rw [h.hcs]; exact rrC_len h.hr
 have L0 : ∀ hi : 0 < cs.length, cs[0]'hi = .slice An r.name.length cn := at_of (by rw [h.hcs]; rfl)
 have L1 : ∀ hi : 1 < cs.length, cs[1]'hi = .int .i64 r.ty := at_of (by rw [h.hcs]; rfl)
 have L2 : ∀ hi : 2 < cs.length, cs[2]'hi = .int .i64 r.cl := at_of (by rw [h.hcs]; rfl)
 have L3 : ∀ hi : 3 < cs.length, cs[3]'hi = .int .i64 r.ttl := at_of (by rw [h.hcs]; rfl)
 have M1 : cs[1]? = some (.int .i64 r.ty) := by rw [h.hcs]; rfl
 have M2 : cs[2]? = some (.int .i64 r.cl) := by rw [h.hcs]; rfl
 have CN := Hh (fun w' (b : Below w.heap.size w w') => refCheck05_any An cn r.name w' (h.hN.below b).1 (by have := h.hN.2.2.1; omega))
 rw [h.h0] at CN
 have O1 := Hh (fun w => refOut13_any r.ty 65535 w)
 have O2 := Hh (fun w => refOut13_any r.cl 65535 w)
 have O3 := Hh (fun w => refOut13_any r.ttl 4294967295 w)
 rw [h.h1] at O1
 rw [h.h2] at O2
 rw [h.h3] at O3
 have BR := Hh (fun w => bare_any An r.name.length cn (.slice At r.tg.length ct) (.slice Am r.ml.length cm) r h.hr w)
 rw [← h.hcs] at BR
 have K := Hh (fun w => refKind13_any r.ty r.cl w)
 rw [hk] at K
 have ZL := rrC_len (vn := .slice An r.name.length cn) (vt := nilS) (vm := nilS) (bareR_wf r)
 have ZC := Hh (rrC_one (vn := .slice An r.name.length cn) (vt := nilS) (vm := nilS) (r := bareR r) rfl rfl rfl)
 have RW : RRis w cs r := ⟨An, cn, At, ct, Am, cm, h.hcs, h.hr, h.hN, h.hT, h.hM, h.hraw⟩
 have HE : Hid (endE r = _) := Hh (by unfold endE; rfl)
 generalize endE r = res at *
 rw [hE, hw] at HE
 have h16 := h.hr.1
 have MA : Hid ((cs.drop 4).take 18 = r.ad.cells) := Hh (by rw [h.hcs]; exact rrC_ad h.hr)
 have M4 : cs[4]? = some (.int .i64 r.ad.fam) := by
  have e1 : ((cs.drop 4).take 18)[0]? = cs[4]? := by rw [List.getElem?_take_of_lt (by omega), List.getElem?_drop]
  rw [← e1, MA.out]; rfl
 have M21 : cs[21]? = some (.int .i64 r.ad.zone) := by
  have e1 : ((cs.drop 4).take 18)[17]? = cs[21]? := by rw [List.getElem?_take_of_lt (by omega), List.getElem?_drop]
  rw [← e1, MA.out]; exact r.ad.zone_at h16
 have S5 := rrC_setAd (vn := .slice An r.name.length cn) (vt := nilS) (vm := nilS) (bareR_wf r) r.ad
 have l5 := rrC_len (vn := .slice An r.name.length cn) (vt := nilS) (vm := nilS) (r := { bareR r with ad := r.ad }) ⟨h16, rfl⟩
 have R5 : RRis w (rrC (.slice An r.name.length cn) nilS nilS { bareR r with ad := r.ad }) { bareR r with ad := r.ad } := ⟨An, cn, none, 0, none, 0, rfl, ⟨h16, rfl⟩, h.hN, NmR.nil w, NmR.nil w, by simp [bareR, RR.zero]⟩
 have SM := Hh (fun w' (b : Below w.heap.size w w') => same13_any _ cs { bareR r with ad := r.ad } r w' (R5.below b) (RW.below b))
 have CA := Hh (fun w => refCheck09_any r.ad h16 w)
 have AL := r.ad.cells_len h16
 have A1 := Hh r.ad.cells_one
 clear h R5 RW hk hE hw
 generalize decide ({ bareR r with ad := r.ad } = r) = sb at *
 generalize rrC (.slice An r.name.length cn) nilS nilS { bareR r with ad := r.ad } = L5 at *
 generalize r.ad.check = ck at *
 generalize r.ad.fam = fm at *
 generalize r.ad.zone = zn at *
 generalize r.ad.cells = LA at *
 generalize rrC (.slice An r.name.length cn) nilS nilS (bareR r) = L4 at *
 generalize r.name.length = nn at *
 generalize r.tg.length = nt at *
 generalize r.ml.length = nm at *
 generalize r.ty = ty at *
 generalize r.cl = cl at *
 generalize r.ttl = ttl at *
 obtain ⟨e, he⟩ : ∃ e : Int, e = if ck ≠ 0 ∨ fm ≠ 4 ∨ zn ≠ 0 then 10 else 0 := ⟨_, rfl⟩
 rw [← he] at HE
 have HEE := Hh he
 clear he
 have hB0 : Below w.heap.size w (w.alloc (.cells cs.toArray 119)) := (Below.refl _ _).alloc (Nat.le_refl _) _
 have B0 := Blk.new w 119 cs
 go_enter func161, ntmps161
 go_wp2_with fail
 refine (CN.out _ hB0).mono ?_
 rintro _ w1 ⟨rfl, rfl⟩
 go_wp2_with fail
 refine (O1.out _).mono ?_
 rintro _ w1 ⟨rfl, rfl⟩
 go_wp2_with fail
 refine (O2.out _).mono ?_
 rintro _ w1 ⟨rfl, rfl⟩
 go_wp2_with fail
 refine (O3.out _).mono ?_
 rintro _ w1 ⟨rfl, rfl⟩
 clear O1 O2 O3 CN
 go_wp2_with (refine at_op (.load 119 (.tmp 1)) rfl ?_; go_must (refine wpList_ldB rfl _ _ rfl w.heap.size 0 rfl B0 33 (by omega) _ underlying119 rfl rrInfo cs (tk0 (by omega)) ?_))
 refine (BR.out _).mono ?_
 rintro _ w2 ⟨rfl, b2⟩
 have B1' := (B0.below b2 B0.lt).alloc (.cells rrZ.toArray 119)
 have HB2 := below_then hB0 hB0.size b2
 have hlt : w.heap.size < w2.heap.size := Nat.lt_of_lt_of_le B0.lt b2.size
 clear B0 hB0 b2 BR L0 L1 L2 L3
 go_wp2_with (refine at_op (.store 119 (.tmp 4) (.tmp 27)) rfl ?_; go_must (refine wpList_stB rfl _ _ _ rfl w2.heap.size 0 rfl L4 rfl (Blk.new' _ _ rrZ _ (by simp)) (by rw [rrZ_len]; omega) (by rw [ZL]; exact rrInfo) ZC.out ?_))
 intro w3 hb3 hg3 hs3
 rw [List.drop_of_length_le (by rw [rrZ_len]; omega), List.append_nil] at hb3
 have B4 := hb3
 have B1 : Blk w3 w.heap.size 119 cs := B1'.grown hg3 (by simp; omega)
 have HB : Below w.heap.size w w3 := below_grown (HB2.alloc HB2.size _) hg3 (by have := HB2.size; simp; omega) HB2.size
 clear hb3 hg3 HB2 B1' hs3
 have u1 := B1.cell_ 1 M1
 have u2 := B1.cell_ 2 M2
 go_wp2_with fail
 refine (K.out _).mono ?_
 rintro _ w4 ⟨rfl, rfl⟩
 clear K u1 u2 M1 M2
 go_wp2_with (first
  | (refine at_op (.load 24 (.tmp 44)) rfl ?_; refine wpList_ldB rfl _ _ rfl w.heap.size 4 rfl B1 18 (by omega) _ underlying24 rfl adrInfo LA MA.out ?_)
  | (refine at_op (.store 24 (.tmp 46) (.tmp 45)) rfl ?_; refine wpList_stB rfl _ _ _ rfl w2.heap.size 4 rfl LA rfl B4 (by omega) (by rw [AL]; exact adrInfo) A1.out ?_))
 intro w4 hb4 hg4 hs4
 replace B4 := hb4
 replace B1 := B1.grown hg4 (by simp; omega)
 replace HB := below_grown HB hg4 HB.size (by omega)
 clear hb4 hg4 hs4
 (try rw [AL, S5] at B4)
 go_wp2_with (refine at_op (.load 24 (.tmp 47)) rfl ?_; go_must (refine wpList_ldB rfl _ _ rfl w.heap.size 4 rfl B1 18 (by omega) _ underlying24 rfl adrInfo LA MA.out ?_))
 refine (CA.out _).mono ?_
 rintro _ w6 ⟨rfl, b6⟩
 replace B1 := B1.below b6 B1.lt
 replace B4 := B4.below b6 B4.lt
 replace HB := below_then HB HB.size b6
 have u4 := B1.cell_ 4 M4
 have u21 := B1.cell_ 21 M21
 clear CA b6 M4 M21 MA S5 A1
 by_cases h1 : ck = 0
 ·
  have e1 : (ck != 0) = false := by simpa using h1
  by_cases h2 : fm = 4
  ·
   have e2 : (fm != 4) = false := by simpa using h2
   by_cases h3 : zn = 0
   ·
    have e3 : (zn != 0) = false := by simpa using h3
    have hr := HEE.out
    rw [if_neg (by simp [h1, h2, h3])] at hr
    subst hr
    clear HEE h1 h2 h3
    have hr0 := Hh (HE.out.trans (if_neg (by simp)))
    clear HE
    go_wp2_with (first
     | (refine at_op (.load 119 (.tmp 4)) rfl ?_; refine wpList_ldBg (by kernel_rfl) 119 (.tmp 4) rfl w2.heap.size 0 rfl B4 33 (by omega) _ underlying119 rfl rrInfo L5 (tk0 (by omega)) ?_)
     | (refine at_op (.load 119 (.tmp 1)) rfl ?_; refine wpList_ldBg (by kernel_rfl) 119 (.tmp 1) rfl w.heap.size 0 rfl B1 33 (by omega) _ underlying119 rfl rrInfo cs (tk0 (by omega)) ?_))
    refine (SM.out _ HB).mono ?_
    rintro _ w9 ⟨rfl, b9⟩
    have HB9 := below_then HB HB.size b9
    cases sb with
    | false =>
     have hr1 : res = 5 := by simpa using hr0.out
     subst hr1
     clear hr0
     go_wp2_with fail
     go_ret
     exact RetB.mk rfl HB9
    | true =>
     have hr1 : res = 0 := by simpa using hr0.out
     subst hr1
     clear hr0
     go_wp2_with fail
     go_ret
     exact RetB.mk rfl HB9
   ·
    have e3 : (zn != 0) = true := by simpa using h3
    have hr := HEE.out
    rw [if_pos (.inr (.inr h3))] at hr
    subst hr
    clear HEE h1 h2 h3
    have hr0 : res = _ := HE.out.trans (if_pos (by decide))
    subst hr0
    clear HE
    go_wp2_with fail
    go_ret
    exact RetB.mk rfl HB
  ·
   have e2 : (fm != 4) = true := by simpa using h2
   have hr := HEE.out
   rw [if_pos (.inr (.inl h2))] at hr
   subst hr
   clear HEE h1 h2
   have hr0 : res = _ := HE.out.trans (if_pos (by decide))
   subst hr0
   clear HE
   go_wp2_with fail
   go_ret
   exact RetB.mk rfl HB
 ·
  have e1 : (ck != 0) = true := by simpa using h1
  have hr := HEE.out
  rw [if_pos (.inl h1)] at hr
  subst hr
  clear HEE h1
  have hr0 : res = _ := HE.out.trans (if_pos (by decide))
  subst hr0
  clear HE
  go_wp2_with fail
  go_ret
  exact RetB.mk rfl HB
set_option maxHeartbeats 4000000 in
theorem rc13_28 (cs : List Value) (r : RR) (w : World) {An : Option Addr} {cn : Nat} {At : Option Addr} {ct : Nat} {Am : Option Addr} {cm : Nat} (h : Good cs r w An cn At ct Am cm) (hk : kindR r.ty r.cl = 28) : Calls prog 161 #[.agg cs.toArray] w (RetB (.int .i64 (endE r)) w) := by
 have hw : withR r = { bareR r with ad := r.ad } := by unfold withR; rw [hk]; rfl
 have hE : hasE r = (if r.ad.check ≠ 0 ∨ r.ad.fam ≠ 6 ∨ r.ad.zone ≠ 0 then 10 else 0) := by unfold hasE; rw [hk]; rfl
 have hl : cs.length = 33 := by rw [h.hcs]; exact rrC_len h.hr
 have L0 : ∀ hi : 0 < cs.length, cs[0]'hi = .slice An r.name.length cn := at_of (by rw [h.hcs]; rfl)
 have L1 : ∀ hi : 1 < cs.length, cs[1]'hi = .int .i64 r.ty := at_of (by rw [h.hcs]; rfl)
 have L2 : ∀ hi : 2 < cs.length, cs[2]'hi = .int .i64 r.cl := at_of (by rw [h.hcs]; rfl)
 have L3 : ∀ hi : 3 < cs.length, cs[3]'hi = .int .i64 r.ttl := at_of (by rw [h.hcs]; rfl)
 have M1 : cs[1]? = some (.int .i64 r.ty) := by rw [h.hcs]; rfl
 have M2 : cs[2]? = some (.int .i64 r.cl) := by rw [h.hcs]; rfl
 have CN := Hh (fun w' (b : Below w.heap.size w w') => refCheck05_any An cn r.name w' (h.hN.below b).1 (by have := h.hN.2.2.1; omega))
 rw [h.h0] at CN
 have O1 := Hh (fun w => refOut13_any r.ty 65535 w)
 have O2 := Hh (fun w => refOut13_any r.cl 65535 w)
 have O3 := Hh (fun w => refOut13_any r.ttl 4294967295 w)
 rw [h.h1] at O1
 rw [h.h2] at O2
 rw [h.h3] at O3
 have BR := Hh (fun w => bare_any An r.name.length cn (.slice At r.tg.length ct) (.slice Am r.ml.length cm) r h.hr w)
 rw [← h.hcs] at BR
 have K := Hh (fun w => refKind13_any r.ty r.cl w)
 rw [hk] at K
 have ZL := rrC_len (vn := .slice An r.name.length cn) (vt := nilS) (vm := nilS) (bareR_wf r)
 have ZC := Hh (rrC_one (vn := .slice An r.name.length cn) (vt := nilS) (vm := nilS) (r := bareR r) rfl rfl rfl)
 have RW : RRis w cs r := ⟨An, cn, At, ct, Am, cm, h.hcs, h.hr, h.hN, h.hT, h.hM, h.hraw⟩
 have HE : Hid (endE r = _) := Hh (by unfold endE; rfl)
 generalize endE r = res at *
 rw [hE, hw] at HE
 have h16 := h.hr.1
 have MA : Hid ((cs.drop 4).take 18 = r.ad.cells) := Hh (by rw [h.hcs]; exact rrC_ad h.hr)
 have M4 : cs[4]? = some (.int .i64 r.ad.fam) := by
  have e1 : ((cs.drop 4).take 18)[0]? = cs[4]? := by rw [List.getElem?_take_of_lt (by omega), List.getElem?_drop]
  rw [← e1, MA.out]; rfl
 have M21 : cs[21]? = some (.int .i64 r.ad.zone) := by
  have e1 : ((cs.drop 4).take 18)[17]? = cs[21]? := by rw [List.getElem?_take_of_lt (by omega), List.getElem?_drop]
  rw [← e1, MA.out]; exact r.ad.zone_at h16
 have S5 := rrC_setAd (vn := .slice An r.name.length cn) (vt := nilS) (vm := nilS) (bareR_wf r) r.ad
 have l5 := rrC_len (vn := .slice An r.name.length cn) (vt := nilS) (vm := nilS) (r := { bareR r with ad := r.ad }) ⟨h16, rfl⟩
 have R5 : RRis w (rrC (.slice An r.name.length cn) nilS nilS { bareR r with ad := r.ad }) { bareR r with ad := r.ad } := ⟨An, cn, none, 0, none, 0, rfl, ⟨h16, rfl⟩, h.hN, NmR.nil w, NmR.nil w, by simp [bareR, RR.zero]⟩
 have SM := Hh (fun w' (b : Below w.heap.size w w') => same13_any _ cs { bareR r with ad := r.ad } r w' (R5.below b) (RW.below b))
 have CA := Hh (fun w => refCheck09_any r.ad h16 w)
 have AL := r.ad.cells_len h16
 have A1 := Hh r.ad.cells_one
 clear h R5 RW hk hE hw
 generalize decide ({ bareR r with ad := r.ad } = r) = sb at *
 generalize rrC (.slice An r.name.length cn) nilS nilS { bareR r with ad := r.ad } = L5 at *
 generalize r.ad.check = ck at *
 generalize r.ad.fam = fm at *
 generalize r.ad.zone = zn at *
 generalize r.ad.cells = LA at *
 generalize rrC (.slice An r.name.length cn) nilS nilS (bareR r) = L4 at *
 generalize r.name.length = nn at *
 generalize r.tg.length = nt at *
 generalize r.ml.length = nm at *
 generalize r.ty = ty at *
 generalize r.cl = cl at *
 generalize r.ttl = ttl at *
 obtain ⟨e, he⟩ : ∃ e : Int, e = if ck ≠ 0 ∨ fm ≠ 6 ∨ zn ≠ 0 then 10 else 0 := ⟨_, rfl⟩
 rw [← he] at HE
 have HEE := Hh he
 clear he
 have hB0 : Below w.heap.size w (w.alloc (.cells cs.toArray 119)) := (Below.refl _ _).alloc (Nat.le_refl _) _
 have B0 := Blk.new w 119 cs
 go_enter func161, ntmps161
 go_wp2_with fail
 refine (CN.out _ hB0).mono ?_
 rintro _ w1 ⟨rfl, rfl⟩
 go_wp2_with fail
 refine (O1.out _).mono ?_
 rintro _ w1 ⟨rfl, rfl⟩
 go_wp2_with fail
 refine (O2.out _).mono ?_
 rintro _ w1 ⟨rfl, rfl⟩
 go_wp2_with fail
 refine (O3.out _).mono ?_
 rintro _ w1 ⟨rfl, rfl⟩
 clear O1 O2 O3 CN
 go_wp2_with (refine at_op (.load 119 (.tmp 1)) rfl ?_; go_must (refine wpList_ldB rfl _ _ rfl w.heap.size 0 rfl B0 33 (by omega) _ underlying119 rfl rrInfo cs (tk0 (by omega)) ?_))
 refine (BR.out _).mono ?_
 rintro _ w2 ⟨rfl, b2⟩
 have B1' := (B0.below b2 B0.lt).alloc (.cells rrZ.toArray 119)
 have HB2 := below_then hB0 hB0.size b2
 have hlt : w.heap.size < w2.heap.size := Nat.lt_of_lt_of_le B0.lt b2.size
 clear B0 hB0 b2 BR L0 L1 L2 L3
 go_wp2_with (refine at_op (.store 119 (.tmp 4) (.tmp 27)) rfl ?_; go_must (refine wpList_stB rfl _ _ _ rfl w2.heap.size 0 rfl L4 rfl (Blk.new' _ _ rrZ _ (by simp)) (by rw [rrZ_len]; omega) (by rw [ZL]; exact rrInfo) ZC.out ?_))
 intro w3 hb3 hg3 hs3
 rw [List.drop_of_length_le (by rw [rrZ_len]; omega), List.append_nil] at hb3
 have B4 := hb3
 have B1 : Blk w3 w.heap.size 119 cs := B1'.grown hg3 (by simp; omega)
 have HB : Below w.heap.size w w3 := below_grown (HB2.alloc HB2.size _) hg3 (by have := HB2.size; simp; omega) HB2.size
 clear hb3 hg3 HB2 B1' hs3
 have u1 := B1.cell_ 1 M1
 have u2 := B1.cell_ 2 M2
 go_wp2_with fail
 refine (K.out _).mono ?_
 rintro _ w4 ⟨rfl, rfl⟩
 clear K u1 u2 M1 M2
 go_wp2_with (first
  | (refine at_op (.load 24 (.tmp 44)) rfl ?_; refine wpList_ldB rfl _ _ rfl w.heap.size 4 rfl B1 18 (by omega) _ underlying24 rfl adrInfo LA MA.out ?_)
  | (refine at_op (.store 24 (.tmp 46) (.tmp 45)) rfl ?_; refine wpList_stB rfl _ _ _ rfl w2.heap.size 4 rfl LA rfl B4 (by omega) (by rw [AL]; exact adrInfo) A1.out ?_))
 intro w4 hb4 hg4 hs4
 replace B4 := hb4
 replace B1 := B1.grown hg4 (by simp; omega)
 replace HB := below_grown HB hg4 HB.size (by omega)
 clear hb4 hg4 hs4
 (try rw [AL, S5] at B4)
 go_wp2_with (refine at_op (.load 24 (.tmp 47)) rfl ?_; go_must (refine wpList_ldB rfl _ _ rfl w.heap.size 4 rfl B1 18 (by omega) _ underlying24 rfl adrInfo LA MA.out ?_))
 refine (CA.out _).mono ?_
 rintro _ w6 ⟨rfl, b6⟩
 replace B1 := B1.below b6 B1.lt
 replace B4 := B4.below b6 B4.lt
 replace HB := below_then HB HB.size b6
 have u4 := B1.cell_ 4 M4
 have u21 := B1.cell_ 21 M21
 clear CA b6 M4 M21 MA S5 A1
 by_cases h1 : ck = 0
 ·
  have e1 : (ck != 0) = false := by simpa using h1
  by_cases h2 : fm = 6
  ·
   have e2 : (fm != 6) = false := by simpa using h2
   by_cases h3 : zn = 0
   ·
    have e3 : (zn != 0) = false := by simpa using h3
    have hr := HEE.out
    rw [if_neg (by simp [h1, h2, h3])] at hr
    subst hr
    clear HEE h1 h2 h3
    have hr0 := Hh (HE.out.trans (if_neg (by simp)))
    clear HE
    go_wp2_with (first
     | (refine at_op (.load 119 (.tmp 4)) rfl ?_; refine wpList_ldBg (by kernel_rfl) 119 (.tmp 4) rfl w2.heap.size 0 rfl B4 33 (by omega) _ underlying119 rfl rrInfo L5 (tk0 (by omega)) ?_)
     | (refine at_op (.load 119 (.tmp 1)) rfl ?_; refine wpList_ldBg (by kernel_rfl) 119 (.tmp 1) rfl w.heap.size 0 rfl B1 33 (by omega) _ underlying119 rfl rrInfo cs (tk0 (by omega)) ?_))
    refine (SM.out _ HB).mono ?_
    rintro _ w9 ⟨rfl, b9⟩
    have HB9 := below_then HB HB.size b9
    cases sb with
    | false =>
     have hr1 : res = 5 := by simpa using hr0.out
     subst hr1
     clear hr0
     go_wp2_with fail
     go_ret
     exact RetB.mk rfl HB9
    | true =>
     have hr1 : res = 0 := by simpa using hr0.out
     subst hr1
     clear hr0
     go_wp2_with fail
     go_ret
     exact RetB.mk rfl HB9
   ·
    have e3 : (zn != 0) = true := by simpa using h3
    have hr := HEE.out
    rw [if_pos (.inr (.inr h3))] at hr
    subst hr
    clear HEE h1 h2 h3
    have hr0 : res = _ := HE.out.trans (if_pos (by decide))
    subst hr0
    clear HE
    go_wp2_with fail
    go_ret
    exact RetB.mk rfl HB
  ·
   have e2 : (fm != 6) = true := by simpa using h2
   have hr := HEE.out
   rw [if_pos (.inr (.inl h2))] at hr
   subst hr
   clear HEE h1 h2
   have hr0 : res = _ := HE.out.trans (if_pos (by decide))
   subst hr0
   clear HE
   go_wp2_with fail
   go_ret
   exact RetB.mk rfl HB
 ·
  have e1 : (ck != 0) = true := by simpa using h1
  have hr := HEE.out
  rw [if_pos (.inl h1)] at hr
  subst hr
  clear HEE h1
  have hr0 : res = _ := HE.out.trans (if_pos (by decide))
  subst hr0
  clear HE
  go_wp2_with fail
  go_ret
  exact RetB.mk rfl HB
set_option maxHeartbeats 4000000 in
theorem rc13_0 (cs : List Value) (r : RR) (w : World) {An : Option Addr} {cn : Nat} {At : Option Addr} {ct : Nat} {Am : Option Addr} {cm : Nat} (h : Good cs r w An cn At ct Am cm) (hk : kindR r.ty r.cl = 0) : Calls prog 161 #[.agg cs.toArray] w (RetB (.int .i64 (endE r)) w) := by
 have hw : withR r = { bareR r with raw := r.raw } := by unfold withR; rw [hk]; rfl
 have hE : hasE r = (if 65535 < r.raw.length then 3 else 0) := by unfold hasE; rw [hk]; rfl
 have hl : cs.length = 33 := by rw [h.hcs]; exact rrC_len h.hr
 have L0 : ∀ hi : 0 < cs.length, cs[0]'hi = .slice An r.name.length cn := at_of (by rw [h.hcs]; rfl)
 have L1 : ∀ hi : 1 < cs.length, cs[1]'hi = .int .i64 r.ty := at_of (by rw [h.hcs]; rfl)
 have L2 : ∀ hi : 2 < cs.length, cs[2]'hi = .int .i64 r.cl := at_of (by rw [h.hcs]; rfl)
 have L3 : ∀ hi : 3 < cs.length, cs[3]'hi = .int .i64 r.ttl := at_of (by rw [h.hcs]; rfl)
 have M1 : cs[1]? = some (.int .i64 r.ty) := by rw [h.hcs]; rfl
 have M2 : cs[2]? = some (.int .i64 r.cl) := by rw [h.hcs]; rfl
 have CN := Hh (fun w' (b : Below w.heap.size w w') => refCheck05_any An cn r.name w' (h.hN.below b).1 (by have := h.hN.2.2.1; omega))
 rw [h.h0] at CN
 have O1 := Hh (fun w => refOut13_any r.ty 65535 w)
 have O2 := Hh (fun w => refOut13_any r.cl 65535 w)
 have O3 := Hh (fun w => refOut13_any r.ttl 4294967295 w)
 rw [h.h1] at O1
 rw [h.h2] at O2
 rw [h.h3] at O3
 have BR := Hh (fun w => bare_any An r.name.length cn (.slice At r.tg.length ct) (.slice Am r.ml.length cm) r h.hr w)
 rw [← h.hcs] at BR
 have K := Hh (fun w => refKind13_any r.ty r.cl w)
 rw [hk] at K
 have ZL := rrC_len (vn := .slice An r.name.length cn) (vt := nilS) (vm := nilS) (bareR_wf r)
 have ZC := Hh (rrC_one (vn := .slice An r.name.length cn) (vt := nilS) (vm := nilS) (r := bareR r) rfl rfl rfl)
 have RW : RRis w cs r := ⟨An, cn, At, ct, Am, cm, h.hcs, h.hr, h.hN, h.hT, h.hM, h.hraw⟩
 have HE : Hid (endE r = _) := Hh (by unfold endE; rfl)
 generalize endE r = res at *
 rw [hE, hw] at HE
 have hraw := h.hraw
 have M32 : cs[32]? = some (.string (bs r.raw)) := by rw [h.hcs]; exact rrC_32 h.hr
 have S5 := rrC_setRaw (vn := .slice An r.name.length cn) (vt := nilS) (vm := nilS) (bareR_wf r) r.raw
 have l5 := rrC_len (vn := .slice An r.name.length cn) (vt := nilS) (vm := nilS) (r := { bareR r with raw := r.raw }) ⟨rfl, rfl⟩
 have R5 : RRis w (rrC (.slice An r.name.length cn) nilS nilS { bareR r with raw := r.raw }) { bareR r with raw := r.raw } := ⟨An, cn, none, 0, none, 0, rfl, ⟨rfl, rfl⟩, h.hN, NmR.nil w, NmR.nil w, h.hraw⟩
 have SM := Hh (fun w' (b : Below w.heap.size w w') => same13_any _ cs { bareR r with raw := r.raw } r w' (R5.below b) (RW.below b))
 clear h R5 RW hk hE hw
 generalize decide ({ bareR r with raw := r.raw } = r) = sb at *
 generalize rrC (.slice An r.name.length cn) nilS nilS { bareR r with raw := r.raw } = L5 at *
 generalize r.raw = raw at *
 generalize rrC (.slice An r.name.length cn) nilS nilS (bareR r) = L4 at *
 generalize r.name.length = nn at *
 generalize r.tg.length = nt at *
 generalize r.ml.length = nm at *
 generalize r.ty = ty at *
 generalize r.cl = cl at *
 generalize r.ttl = ttl at *
 have hB0 : Below w.heap.size w (w.alloc (.cells cs.toArray 119)) := (Below.refl _ _).alloc (Nat.le_refl _) _
 have B0 := Blk.new w 119 cs
 go_enter func161, ntmps161
 go_wp2_with fail
 refine (CN.out _ hB0).mono ?_
 rintro _ w1 ⟨rfl, rfl⟩
 go_wp2_with fail
 refine (O1.out _).mono ?_
 rintro _ w1 ⟨rfl, rfl⟩
 go_wp2_with fail
 refine (O2.out _).mono ?_
 rintro _ w1 ⟨rfl, rfl⟩
 go_wp2_with fail
 refine (O3.out _).mono ?_
 rintro _ w1 ⟨rfl, rfl⟩
 clear O1 O2 O3 CN
 go_wp2_with (refine at_op (.load 119 (.tmp 1)) rfl ?_; go_must (refine wpList_ldB rfl _ _ rfl w.heap.size 0 rfl B0 33 (by omega) _ underlying119 rfl rrInfo cs (tk0 (by omega)) ?_))
 refine (BR.out _).mono ?_
 rintro _ w2 ⟨rfl, b2⟩
 have B1' := (B0.below b2 B0.lt).alloc (.cells rrZ.toArray 119)
 have HB2 := below_then hB0 hB0.size b2
 have hlt : w.heap.size < w2.heap.size := Nat.lt_of_lt_of_le B0.lt b2.size
 clear B0 hB0 b2 BR L0 L1 L2 L3
 go_wp2_with (refine at_op (.store 119 (.tmp 4) (.tmp 27)) rfl ?_; go_must (refine wpList_stB rfl _ _ _ rfl w2.heap.size 0 rfl L4 rfl (Blk.new' _ _ rrZ _ (by simp)) (by rw [rrZ_len]; omega) (by rw [ZL]; exact rrInfo) ZC.out ?_))
 intro w3 hb3 hg3 hs3
 rw [List.drop_of_length_le (by rw [rrZ_len]; omega), List.append_nil] at hb3
 have B4 := hb3
 have B1 : Blk w3 w.heap.size 119 cs := B1'.grown hg3 (by simp; omega)
 have HB : Below w.heap.size w w3 := below_grown (HB2.alloc HB2.size _) hg3 (by have := HB2.size; simp; omega) HB2.size
 clear hb3 hg3 HB2 B1' hs3
 have u1 := B1.cell_ 1 M1
 have u2 := B1.cell_ 2 M2
 go_wp2_with fail
 refine (K.out _).mono ?_
 rintro _ w4 ⟨rfl, rfl⟩
 clear K u1 u2 M1 M2
 have u32 := B1.cell_ 32 M32
 go_wp2_with (refine at_op (.store 9 (.tmp 36) (.tmp 35)) rfl ?_; go_must (refine wpList_stC rfl 9 (.tmp 36) (.tmp 35) rfl w2.heap.size 32 rfl (.string (bs raw)) rfl B4 (by omega) strInfo1 rfl rfl ?_))
 clear u32
 intro w4 hb4 hg4 hs4
 replace B4 := hb4
 replace B1 := B1.grown hg4 (by simp; omega)
 replace HB := below_grown HB hg4 HB.size (by omega)
 clear hb4 hg4 hs4
 (try rw [S5] at B4)
 have u32 := B1.cell_ 32 M32
 clear S5 M32
 by_cases h1 : 65535 < raw.length
 ·
  have e1 : (65535 : Int) < raw.length := by omega
  rw [if_pos h1] at HE
  have hr0 : res = _ := HE.out.trans (if_pos (by decide))
  subst hr0
  clear HE
  go_wp2_with fail
  go_ret
  exact RetB.mk rfl HB
 ·
  have e1 : ¬ (65535 : Int) < raw.length := by omega
  rw [if_neg h1] at HE
  have hr0 := Hh (HE.out.trans (if_neg (by simp)))
  clear HE
  go_wp2_with (first
   | (refine at_op (.load 119 (.tmp 4)) rfl ?_; refine wpList_ldBg (by kernel_rfl) 119 (.tmp 4) rfl w2.heap.size 0 rfl B4 33 (by omega) _ underlying119 rfl rrInfo L5 (tk0 (by omega)) ?_)
   | (refine at_op (.load 119 (.tmp 1)) rfl ?_; refine wpList_ldBg (by kernel_rfl) 119 (.tmp 1) rfl w.heap.size 0 rfl B1 33 (by omega) _ underlying119 rfl rrInfo cs (tk0 (by omega)) ?_))
  refine (SM.out _ HB).mono ?_
  rintro _ w9 ⟨rfl, b9⟩
  have HB9 := below_then HB HB.size b9
  cases sb with
  | false =>
   have hr1 : res = 5 := by simpa using hr0.out
   subst hr1
   clear hr0
   go_wp2_with fail
   go_ret
   exact RetB.mk rfl HB9
  | true =>
   have hr1 : res = 0 := by simpa using hr0.out
   subst hr1
   clear hr0
   go_wp2_with fail
   go_ret
   exact RetB.mk rfl HB9
set_option maxHeartbeats 4000000 in
theorem rc13_33 (cs : List Value) (r : RR) (w : World) {An : Option Addr} {cn : Nat} {At : Option Addr} {ct : Nat} {Am : Option Addr} {cm : Nat} (h : Good cs r w An cn At ct Am cm) (hk : kindR r.ty r.cl = 33) : Calls prog 161 #[.agg cs.toArray] w (RetB (.int .i64 (endE r)) w) := by
 have hw : withR r = { bareR r with pri := r.pri, we := r.we, po := r.po, tg := r.tg } := by unfold withR; rw [hk]; rfl
 have hE : hasE r = (if ([r.pri, r.we, r.po].all (inB 65535)) then checkN r.tg else 4) := by unfold hasE; rw [hk]; rfl
 have hl : cs.length = 33 := by rw [h.hcs]; exact rrC_len h.hr
 have L0 : ∀ hi : 0 < cs.length, cs[0]'hi = .slice An r.name.length cn := at_of (by rw [h.hcs]; rfl)
 have L1 : ∀ hi : 1 < cs.length, cs[1]'hi = .int .i64 r.ty := at_of (by rw [h.hcs]; rfl)
 have L2 : ∀ hi : 2 < cs.length, cs[2]'hi = .int .i64 r.cl := at_of (by rw [h.hcs]; rfl)
 have L3 : ∀ hi : 3 < cs.length, cs[3]'hi = .int .i64 r.ttl := at_of (by rw [h.hcs]; rfl)
 have M1 : cs[1]? = some (.int .i64 r.ty) := by rw [h.hcs]; rfl
 have M2 : cs[2]? = some (.int .i64 r.cl) := by rw [h.hcs]; rfl
 have CN := Hh (fun w' (b : Below w.heap.size w w') => refCheck05_any An cn r.name w' (h.hN.below b).1 (by have := h.hN.2.2.1; omega))
 rw [h.h0] at CN
 have O1 := Hh (fun w => refOut13_any r.ty 65535 w)
 have O2 := Hh (fun w => refOut13_any r.cl 65535 w)
 have O3 := Hh (fun w => refOut13_any r.ttl 4294967295 w)
 rw [h.h1] at O1
 rw [h.h2] at O2
 rw [h.h3] at O3
 have BR := Hh (fun w => bare_any An r.name.length cn (.slice At r.tg.length ct) (.slice Am r.ml.length cm) r h.hr w)
 rw [← h.hcs] at BR
 have K := Hh (fun w => refKind13_any r.ty r.cl w)
 rw [hk] at K
 have ZL := rrC_len (vn := .slice An r.name.length cn) (vt := nilS) (vm := nilS) (bareR_wf r)
 have ZC := Hh (rrC_one (vn := .slice An r.name.length cn) (vt := nilS) (vm := nilS) (r := bareR r) rfl rfl rfl)
 have RW : RRis w cs r := ⟨An, cn, At, ct, Am, cm, h.hcs, h.hr, h.hN, h.hT, h.hM, h.hraw⟩
 have HE : Hid (endE r = _) := Hh (by unfold endE; rfl)
 generalize endE r = res at *
 rw [hE, hw] at HE
 have M22 : cs[22]? = some (.slice At r.tg.length ct) := by rw [h.hcs]; exact rrC_22 h.hr
 have M24 : cs[24]? = some (.int .i64 r.pri) := by rw [h.hcs]; exact rrC_24 h.hr
 have M25 : cs[25]? = some (.int .i64 r.we) := by rw [h.hcs]; exact rrC_25 h.hr
 have M26 : cs[26]? = some (.int .i64 r.po) := by rw [h.hcs]; exact rrC_26 h.hr
 have S5 := Hh (show ((((rrC (.slice An r.name.length cn) nilS nilS (bareR r)).set 24 (.int .i64 r.pri)).set 25 (.int .i64 r.we)).set 26 (.int .i64 r.po)).set 22 (.slice At r.tg.length ct) = rrC (.slice An r.name.length cn) (.slice At r.tg.length ct) nilS { bareR r with pri := r.pri, we := r.we, po := r.po, tg := r.tg } by
  rw [rrC_setPri (bareR_wf r), rrC_setWe ⟨rfl, rfl⟩, rrC_setPo ⟨rfl, rfl⟩, rrC_setTg ⟨rfl, rfl⟩]; rfl)
 have l5 := rrC_len (vn := .slice An r.name.length cn) (vt := .slice At r.tg.length ct) (vm := nilS) (r := { bareR r with pri := r.pri, we := r.we, po := r.po, tg := r.tg }) ⟨rfl, rfl⟩
 have R5 : RRis w (rrC (.slice An r.name.length cn) (.slice At r.tg.length ct) nilS { bareR r with pri := r.pri, we := r.we, po := r.po, tg := r.tg }) { bareR r with pri := r.pri, we := r.we, po := r.po, tg := r.tg } := ⟨An, cn, At, ct, none, 0, rfl, ⟨rfl, rfl⟩, h.hN, h.hT, NmR.nil w, by simp [bareR, RR.zero]⟩
 have SM := Hh (fun w' (b : Below w.heap.size w w') => same13_any _ cs { bareR r with pri := r.pri, we := r.we, po := r.po, tg := r.tg } r w' (R5.below b) (RW.below b))
 have CT := Hh (fun w' (b : Below w.heap.size w w') => refCheck05_any At ct r.tg w' (h.hT.below b).1 (by have := h.hT.2.2.1; omega))
 have Q1 := Hh (fun w => refOut13_any r.pri 65535 w)
 have Q2 := Hh (fun w => refOut13_any r.we 65535 w)
 have Q3 := Hh (fun w => refOut13_any r.po 65535 w)
 have h3 : [r.pri, r.we, r.po].all (inB 65535) = (inB 65535 r.pri && (inB 65535 r.we && inB 65535 r.po)) := by simp
 rw [h3] at HE
 clear h R5 RW hk hE hw h3
 generalize decide ({ bareR r with pri := r.pri, we := r.we, po := r.po, tg := r.tg } = r) = sb at *
 generalize rrC (.slice An r.name.length cn) (.slice At r.tg.length ct) nilS { bareR r with pri := r.pri, we := r.we, po := r.po, tg := r.tg } = L5 at *
 generalize checkN r.tg = ec at *
 generalize inB 65535 r.pri = b1 at *
 generalize inB 65535 r.we = b2 at *
 generalize inB 65535 r.po = b3 at *
 generalize r.pri = n1 at *
 generalize r.we = n2 at *
 generalize r.po = n3 at *
 generalize rrC (.slice An r.name.length cn) nilS nilS (bareR r) = L4 at *
 generalize r.name.length = nn at *
 generalize r.tg.length = nt at *
 generalize r.ml.length = nm at *
 generalize r.ty = ty at *
 generalize r.cl = cl at *
 generalize r.ttl = ttl at *
 have hB0 : Below w.heap.size w (w.alloc (.cells cs.toArray 119)) := (Below.refl _ _).alloc (Nat.le_refl _) _
 have B0 := Blk.new w 119 cs
 go_enter func161, ntmps161
 go_wp2_with fail
 refine (CN.out _ hB0).mono ?_
 rintro _ w1 ⟨rfl, rfl⟩
 go_wp2_with fail
 refine (O1.out _).mono ?_
 rintro _ w1 ⟨rfl, rfl⟩
 go_wp2_with fail
 refine (O2.out _).mono ?_
 rintro _ w1 ⟨rfl, rfl⟩
 go_wp2_with fail
 refine (O3.out _).mono ?_
 rintro _ w1 ⟨rfl, rfl⟩
 clear O1 O2 O3 CN
 go_wp2_with (refine at_op (.load 119 (.tmp 1)) rfl ?_; go_must (refine wpList_ldB rfl _ _ rfl w.heap.size 0 rfl B0 33 (by omega) _ underlying119 rfl rrInfo cs (tk0 (by omega)) ?_))
 refine (BR.out _).mono ?_
 rintro _ w2 ⟨rfl, b2⟩
 have B1' := (B0.below b2 B0.lt).alloc (.cells rrZ.toArray 119)
 have HB2 := below_then hB0 hB0.size b2
 have hlt : w.heap.size < w2.heap.size := Nat.lt_of_lt_of_le B0.lt b2.size
 clear B0 hB0 b2 BR L0 L1 L2 L3
 go_wp2_with (refine at_op (.store 119 (.tmp 4) (.tmp 27)) rfl ?_; go_must (refine wpList_stB rfl _ _ _ rfl w2.heap.size 0 rfl L4 rfl (Blk.new' _ _ rrZ _ (by simp)) (by rw [rrZ_len]; omega) (by rw [ZL]; exact rrInfo) ZC.out ?_))
 intro w3 hb3 hg3 hs3
 rw [List.drop_of_length_le (by rw [rrZ_len]; omega), List.append_nil] at hb3
 have B4 := hb3
 have B1 : Blk w3 w.heap.size 119 cs := B1'.grown hg3 (by simp; omega)
 have HB : Below w.heap.size w w3 := below_grown (HB2.alloc HB2.size _) hg3 (by have := HB2.size; simp; omega) HB2.size
 clear hb3 hg3 HB2 B1' hs3
 have u1 := B1.cell_ 1 M1
 have u2 := B1.cell_ 2 M2
 go_wp2_with fail
 refine (K.out _).mono ?_
 rintro _ w4 ⟨rfl, rfl⟩
 clear K u1 u2 M1 M2
 have u24 := B1.cell_ 24 M24
 go_wp2_with (refine at_op (.store 3 (.tmp 90) (.tmp 89)) rfl ?_; go_must (refine wpList_stC rfl 3 (.tmp 90) (.tmp 89) rfl w2.heap.size 24 rfl (.int .i64 n1) rfl B4 (by omega) intInfo1 rfl rfl ?_))
 clear u24
 intro w4 hb4 hg4 hs4
 replace B4 := hb4
 replace B1 := B1.grown hg4 (by simp; omega)
 replace HB := below_grown HB hg4 HB.size (by omega)
 clear hb4 hg4 hs4
 have u25 := B1.cell_ 25 M25
 go_wp2_with (refine at_op (.store 3 (.tmp 93) (.tmp 92)) rfl ?_; go_must (refine wpList_stC rfl 3 (.tmp 93) (.tmp 92) rfl w2.heap.size 25 rfl (.int .i64 n2) rfl B4 (by simp; omega) intInfo1 rfl rfl ?_))
 clear u25
 intro w4 hb4 hg4 hs4
 replace B4 := hb4
 replace B1 := B1.grown hg4 (by simp; omega)
 replace HB := below_grown HB hg4 HB.size (by omega)
 clear hb4 hg4 hs4
 have u26 := B1.cell_ 26 M26
 go_wp2_with (refine at_op (.store 3 (.tmp 96) (.tmp 95)) rfl ?_; go_must (refine wpList_stC rfl 3 (.tmp 96) (.tmp 95) rfl w2.heap.size 26 rfl (.int .i64 n3) rfl B4 (by simp; omega) intInfo1 rfl rfl ?_))
 clear u26
 intro w4 hb4 hg4 hs4
 replace B4 := hb4
 replace B1 := B1.grown hg4 (by simp; omega)
 replace HB := below_grown HB hg4 HB.size (by omega)
 clear hb4 hg4 hs4
 have u22 := B1.cell_ 22 M22
 go_wp2_with (refine at_op (.store 26 (.tmp 99) (.tmp 98)) rfl ?_; go_must (refine wpList_stC rfl 26 (.tmp 99) (.tmp 98) rfl w2.heap.size 22 rfl (.slice At nt ct) rfl B4 (by simp; omega) nameInfo1 rfl rfl ?_))
 clear u22
 intro w4 hb4 hg4 hs4
 replace B4 := hb4
 replace B1 := B1.grown hg4 (by simp; omega)
 replace HB := below_grown HB hg4 HB.size (by omega)
 clear hb4 hg4 hs4
 rw [S5.out] at B4
 have u22 := B1.cell_ 22 M22
 go_wp2_with fail
 refine (CT.out _ HB).mono ?_
 rintro _ w5 ⟨rfl, rfl⟩
 clear CT u22 M22 S5
 have u24 := B1.cell_ 24 M24
 have u25 := B1.cell_ 25 M25
 have u26 := B1.cell_ 26 M26
 clear M24 M25 M26
 go_wp2_with fail
 refine (Q1.out _).mono ?_
 rintro _ w5 ⟨rfl, rfl⟩
 clear Q1
 cases b1 with
 | false =>
  have HE : Hid (res = if (4 : Int) ≠ 0 then 4 else if sb = true then 0 else 5) := HE
  have hr0 : res = _ := HE.out.trans (if_pos (by decide))
  subst hr0
  clear HE
  go_wp2_with fail
  go_ret
  exact RetB.mk rfl HB
 | true =>
 go_wp2_with fail
 refine (Q2.out _).mono ?_
 rintro _ w5 ⟨rfl, rfl⟩
 clear Q2
 cases b2 with
 | false =>
  have HE : Hid (res = if (4 : Int) ≠ 0 then 4 else if sb = true then 0 else 5) := HE
  have hr0 : res = _ := HE.out.trans (if_pos (by decide))
  subst hr0
  clear HE
  go_wp2_with fail
  go_ret
  exact RetB.mk rfl HB
 | true =>
 go_wp2_with fail
 refine (Q3.out _).mono ?_
 rintro _ w5 ⟨rfl, rfl⟩
 clear Q3
 cases b3 with
 | false =>
  have HE : Hid (res = if (4 : Int) ≠ 0 then 4 else if sb = true then 0 else 5) := HE
  have hr0 : res = _ := HE.out.trans (if_pos (by decide))
  subst hr0
  clear HE
  go_wp2_with fail
  go_ret
  exact RetB.mk rfl HB
 | true =>
 replace HE : Hid (res = if ec ≠ 0 then ec else if sb = true then 0 else 5) := HE
 obtain ⟨e, he⟩ : ∃ e, e = ec := ⟨_, rfl⟩
 rw [← he] at HE ⊢
 clear he
 by_cases he0 : e = 0
 ·
  subst he0
  have hr0 := Hh (HE.out.trans (if_neg (by simp)))
  clear HE
  go_wp2_with (first
   | (refine at_op (.load 119 (.tmp 4)) rfl ?_; refine wpList_ldBg (by kernel_rfl) 119 (.tmp 4) rfl w2.heap.size 0 rfl B4 33 (by omega) _ underlying119 rfl rrInfo L5 (tk0 (by omega)) ?_)
   | (refine at_op (.load 119 (.tmp 1)) rfl ?_; refine wpList_ldBg (by kernel_rfl) 119 (.tmp 1) rfl w.heap.size 0 rfl B1 33 (by omega) _ underlying119 rfl rrInfo cs (tk0 (by omega)) ?_))
  refine (SM.out _ HB).mono ?_
  rintro _ w9 ⟨rfl, b9⟩
  have HB9 := below_then HB HB.size b9
  cases sb with
  | false =>
   have hr1 : res = 5 := by simpa using hr0.out
   subst hr1
   clear hr0
   go_wp2_with fail
   go_ret
   exact RetB.mk rfl HB9
  | true =>
   have hr1 : res = 0 := by simpa using hr0.out
   subst hr1
   clear hr0
   go_wp2_with fail
   go_ret
   exact RetB.mk rfl HB9
 ·
  have hr0 := HE.out.trans (if_pos he0)
  subst hr0
  have he1 : (res == 0) = false := by simpa using he0
  have he2 : (res != 0) = true := by simpa using he0
  clear HE he0
  go_wp2_with fail
  go_ret
  exact RetB.mk rfl HB
def soaE (e0 : Int) (nums : List Int) (k : Nat) : Int := if e0 ≠ 0 then e0 else if (nums.take k).all (inB 4294967295) then 0 else 4
theorem soaE_zero (e0 : Int) (nums : List Int) : soaE e0 nums 0 = e0 := by
 unfold soaE
 by_cases h : e0 = 0
 ·
  simp [h]
 ·
  simp [h]
theorem soaE_succ (e0 : Int) (nums : List Int) (k : Nat) (hk : k < nums.length) : soaE e0 nums (k + 1) = if soaE e0 nums k = 0 then (if inB 4294967295 nums[k] then 0 else 4) else soaE e0 nums k := by
 unfold soaE
 rw [List.take_succ_eq_append_getElem hk, List.all_append]
 by_cases h : e0 = 0
 ·
  simp only [h, ne_eq, not_true_eq_false, if_false]
  simp only [List.all_cons, List.all_nil, Bool.and_true]
  generalize inB 4294967295 nums[k] = b
  generalize (nums.take k).all (inB 4294967295) = c
  cases c <;> cases b <;> rfl
 ·
  simp [h]
theorem soaE_all (a b : Int) (nums : List Int) (h : nums.length = 5) : (if a ≠ 0 then a else if b ≠ 0 then b else if nums.all (inB 4294967295) then 0 else 4) = soaE (if a = 0 then b else a) nums 5 := by
 unfold soaE
 rw [List.take_of_length_le (by omega)]
 by_cases ha : a = 0
 ·
  simp [ha]
 ·
  simp [ha]
set_option maxHeartbeats 4000000 in
theorem rc13_6 (cs : List Value) (r : RR) (w : World) {An : Option Addr} {cn : Nat} {At : Option Addr} {ct : Nat} {Am : Option Addr} {cm : Nat} (h : Good cs r w An cn At ct Am cm) (hk : kindR r.ty r.cl = 6) : Calls prog 161 #[.agg cs.toArray] w (RetB (.int .i64 (endE r)) w) := by
 have hw : withR r = { bareR r with tg := r.tg, ml := r.ml, nums := r.nums } := by unfold withR; rw [hk]; rfl
 have hE : hasE r = soaE (if checkN r.tg = 0 then checkN r.ml else checkN r.tg) r.nums 5 := by rw [← soaE_all _ _ _ h.hr.2]; unfold hasE; rw [hk]; rfl
 have hl : cs.length = 33 := by rw [h.hcs]; exact rrC_len h.hr
 have L0 : ∀ hi : 0 < cs.length, cs[0]'hi = .slice An r.name.length cn := at_of (by rw [h.hcs]; rfl)
 have L1 : ∀ hi : 1 < cs.length, cs[1]'hi = .int .i64 r.ty := at_of (by rw [h.hcs]; rfl)
 have L2 : ∀ hi : 2 < cs.length, cs[2]'hi = .int .i64 r.cl := at_of (by rw [h.hcs]; rfl)
 have L3 : ∀ hi : 3 < cs.length, cs[3]'hi = .int .i64 r.ttl := at_of (by rw [h.hcs]; rfl)
 have M1 : cs[1]? = some (.int .i64 r.ty) := by rw [h.hcs]; rfl
 have M2 : cs[2]? = some (.int .i64 r.cl) := by rw [h.hcs]; rfl
 have CN := Hh (fun w' (b : Below w.heap.size w w') => refCheck05_any An cn r.name w' (h.hN.below b).1 (by have := h.hN.2.2.1; omega))
 rw [h.h0] at CN
 have O1 := Hh (fun w => refOut13_any r.ty 65535 w)
 have O2 := Hh (fun w => refOut13_any r.cl 65535 w)
 have O3 := Hh (fun w => refOut13_any r.ttl 4294967295 w)
 rw [h.h1] at O1
 rw [h.h2] at O2
 rw [h.h3] at O3
 have BR := Hh (fun w => bare_any An r.name.length cn (.slice At r.tg.length ct) (.slice Am r.ml.length cm) r h.hr w)
 rw [← h.hcs] at BR
 have K := Hh (fun w => refKind13_any r.ty r.cl w)
 rw [hk] at K
 have ZL := rrC_len (vn := .slice An r.name.length cn) (vt := nilS) (vm := nilS) (bareR_wf r)
 have ZC := Hh (rrC_one (vn := .slice An r.name.length cn) (vt := nilS) (vm := nilS) (r := bareR r) rfl rfl rfl)
 have RW : RRis w cs r := ⟨An, cn, At, ct, Am, cm, h.hcs, h.hr, h.hN, h.hT, h.hM, h.hraw⟩
 have HE : Hid (endE r = _) := Hh (by unfold endE; rfl)
 generalize endE r = res at *
 rw [hE, hw] at HE
 have h5 := h.hr.2
 have M22 : cs[22]? = some (.slice At r.tg.length ct) := by rw [h.hcs]; exact rrC_22 h.hr
 have M23 : cs[23]? = some (.slice Am r.ml.length cm) := by rw [h.hcs]; exact rrC_23 h.hr
 have MN : Hid ((cs.drop 27).take 5 = ints64 r.nums) := Hh (by rw [h.hcs]; exact rrC_nums h.hr)
 have MK : Hid (∀ (i : Nat) (hi : i < r.nums.length), cs[27 + i]? = some (.int .i64 r.nums[i])) := Hh (fun i hi => by rw [h.hcs, rrC_num h.hr i (by omega)]; simp [List.getD, hi])
 have S5 := Hh (show (((rrC (.slice An r.name.length cn) nilS nilS (bareR r)).set 22 (.slice At r.tg.length ct)).set 23 (.slice Am r.ml.length cm)).take 27 ++ ints64 r.nums ++ (((rrC (.slice An r.name.length cn) nilS nilS (bareR r)).set 22 (.slice At r.tg.length ct)).set 23 (.slice Am r.ml.length cm)).drop 32 = rrC (.slice An r.name.length cn) (.slice At r.tg.length ct) (.slice Am r.ml.length cm) { bareR r with tg := r.tg, ml := r.ml, nums := r.nums } by
  rw [rrC_setTg (bareR_wf r), rrC_setMl (bareR_wf r), rrC_setNums (bareR_wf r) _ h5]; rfl)
 have l5 := rrC_len (vn := .slice An r.name.length cn) (vt := .slice At r.tg.length ct) (vm := .slice Am r.ml.length cm) (r := { bareR r with tg := r.tg, ml := r.ml, nums := r.nums }) ⟨rfl, h5⟩
 have R5 : RRis w (rrC (.slice An r.name.length cn) (.slice At r.tg.length ct) (.slice Am r.ml.length cm) { bareR r with tg := r.tg, ml := r.ml, nums := r.nums }) { bareR r with tg := r.tg, ml := r.ml, nums := r.nums } := ⟨An, cn, At, ct, Am, cm, rfl, ⟨rfl, h5⟩, h.hN, h.hT, h.hM, by simp [bareR, RR.zero]⟩
 have SM := Hh (fun w' (b : Below w.heap.size w w') => same13_any _ cs { bareR r with tg := r.tg, ml := r.ml, nums := r.nums } r w' (R5.below b) (RW.below b))
 have CT := Hh (fun w' (b : Below w.heap.size w w') => refCheck05_any At ct r.tg w' (h.hT.below b).1 (by have := h.hT.2.2.1; omega))
 have CM := Hh (fun w' (b : Below w.heap.size w w') => refCheck05_any Am cm r.ml w' (h.hM.below b).1 (by have := h.hM.2.2.1; omega))
 have NL : (ints64 r.nums).length = 5 := by simp [ints64, h5]
 have N1 : Hid (∀ v ∈ ints64 r.nums, v.oneCell' = true) := Hh (fun v hv => by obtain ⟨b, _, rfl⟩ := List.mem_map.1 hv; rfl)
 clear h R5 RW hk hE hw
 generalize decide ({ bareR r with tg := r.tg, ml := r.ml, nums := r.nums } = r) = sb at *
 generalize rrC (.slice An r.name.length cn) (.slice At r.tg.length ct) (.slice Am r.ml.length cm) { bareR r with tg := r.tg, ml := r.ml, nums := r.nums } = L5 at *
 generalize checkN r.tg = e1 at *
 generalize checkN r.ml = e2 at *
 generalize r.nums = nums at *
 generalize ints64 nums = LN at *
 generalize rrC (.slice An r.name.length cn) nilS nilS (bareR r) = L4 at *
 generalize r.name.length = nn at *
 generalize r.tg.length = nt at *
 generalize r.ml.length = nm at *
 generalize r.ty = ty at *
 generalize r.cl = cl at *
 generalize r.ttl = ttl at *
 obtain ⟨e0, he0⟩ : ∃ e0, e0 = if e1 = 0 then e2 else e1 := ⟨_, rfl⟩
 rw [← he0] at HE
 have HE0 := Hh he0
 clear he0
 have S0 := Hh (soaE_zero e0 nums)
 have hB0 : Below w.heap.size w (w.alloc (.cells cs.toArray 119)) := (Below.refl _ _).alloc (Nat.le_refl _) _
 have B0 := Blk.new w 119 cs
 go_enter func161, ntmps161
 go_wp2_with fail
 refine (CN.out _ hB0).mono ?_
 rintro _ w1 ⟨rfl, rfl⟩
 go_wp2_with fail
 refine (O1.out _).mono ?_
 rintro _ w1 ⟨rfl, rfl⟩
 go_wp2_with fail
 refine (O2.out _).mono ?_
 rintro _ w1 ⟨rfl, rfl⟩
 go_wp2_with fail
 refine (O3.out _).mono ?_
 rintro _ w1 ⟨rfl, rfl⟩
 clear O1 O2 O3 CN
 go_wp2_with (refine at_op (.load 119 (.tmp 1)) rfl ?_; go_must (refine wpList_ldB rfl _ _ rfl w.heap.size 0 rfl B0 33 (by omega) _ underlying119 rfl rrInfo cs (tk0 (by omega)) ?_))
 refine (BR.out _).mono ?_
 rintro _ w2 ⟨rfl, b2⟩
 have B1' := (B0.below b2 B0.lt).alloc (.cells rrZ.toArray 119)
 have HB2 := below_then hB0 hB0.size b2
 have hlt : w.heap.size < w2.heap.size := Nat.lt_of_lt_of_le B0.lt b2.size
 clear B0 hB0 b2 BR L0 L1 L2 L3
 go_wp2_with (refine at_op (.store 119 (.tmp 4) (.tmp 27)) rfl ?_; go_must (refine wpList_stB rfl _ _ _ rfl w2.heap.size 0 rfl L4 rfl (Blk.new' _ _ rrZ _ (by simp)) (by rw [rrZ_len]; omega) (by rw [ZL]; exact rrInfo) ZC.out ?_))
 intro w3 hb3 hg3 hs3
 rw [List.drop_of_length_le (by rw [rrZ_len]; omega), List.append_nil] at hb3
 have B4 := hb3
 have B1 : Blk w3 w.heap.size 119 cs := B1'.grown hg3 (by simp; omega)
 have HB : Below w.heap.size w w3 := below_grown (HB2.alloc HB2.size _) hg3 (by have := HB2.size; simp; omega) HB2.size
 clear hb3 hg3 HB2 B1' hs3
 have u1 := B1.cell_ 1 M1
 have u2 := B1.cell_ 2 M2
 go_wp2_with fail
 refine (K.out _).mono ?_
 rintro _ w4 ⟨rfl, rfl⟩
 clear K u1 u2 M1 M2
 have u22 := B1.cell_ 22 M22
 go_wp2_with (refine at_op (.store 26 (.tmp 120) (.tmp 119)) rfl ?_; go_must (refine wpList_stC rfl 26 (.tmp 120) (.tmp 119) rfl w2.heap.size 22 rfl (.slice At nt ct) rfl B4 (by omega) nameInfo1 rfl rfl ?_))
 clear u22
 intro w4 hb4 hg4 hs4
 replace B4 := hb4
 replace B1 := B1.grown hg4 (by simp; omega)
 replace HB := below_grown HB hg4 HB.size (by omega)
 clear hb4 hg4 hs4
 have u23 := B1.cell_ 23 M23
 go_wp2_with (refine at_op (.store 26 (.tmp 123) (.tmp 122)) rfl ?_; go_must (refine wpList_stC rfl 26 (.tmp 123) (.tmp 122) rfl w2.heap.size 23 rfl (.slice Am nm cm) rfl B4 (by simp; omega) nameInfo1 rfl rfl ?_))
 clear u23
 intro w4 hb4 hg4 hs4
 replace B4 := hb4
 replace B1 := B1.grown hg4 (by simp; omega)
 replace HB := below_grown HB hg4 HB.size (by omega)
 clear hb4 hg4 hs4
 go_wp2_with (first
  | (refine at_op (.load 117 (.tmp 124)) rfl ?_; refine wpList_ldB rfl _ _ rfl w.heap.size 27 rfl B1 5 (by omega) _ underlying117 rfl numsInfo LN MN.out ?_)
  | (refine at_op (.store 117 (.tmp 126) (.tmp 125)) rfl ?_; refine wpList_stB rfl _ _ _ rfl w2.heap.size 27 rfl LN rfl B4 (by simp; omega) (by rw [NL]; exact numsInfo) N1.out ?_))
 intro w4 hb4 hg4 hs4
 replace B4 := hb4
 replace B1 := B1.grown hg4 (by simp; omega)
 replace HB := below_grown HB hg4 HB.size (by omega)
 clear hb4 hg4 hs4
 rw [← List.append_assoc, S5.out] at B4
 have u22 := B1.cell_ 22 M22
 go_wp2_with fail
 refine (CT.out _ HB).mono ?_
 rintro _ w5 ⟨rfl, rfl⟩
 clear CT u22 M22 S5 MN N1
 have c23 := B1.cell_ 23 M23
 clear M23
 go_upto_if 131 with fail
 go_cut [3] (fun ev wx => ev = .int .i64 e0 ∧ w4 = wx)
 case first =>
  by_cases h1 : e1 = 0
  ·
   have hr1 := Hh (HE0.out.trans (if_pos h1))
   have h1' : (e1 == 0) = true := by simpa using h1
   clear h1
   go_wp2_with fail
   refine (CM.out _ HB).mono ?_
   rintro _ w5 ⟨rfl, rfl⟩
   go_wp2_with fail
   go_meet
   case rel => exact ⟨by rw [hr1.out], rfl⟩
  ·
   have hr1 := Hh (HE0.out.trans (if_neg h1))
   have h1' : (e1 == 0) = false := by simpa using h1
   clear h1
   go_wp2_with fail
   go_meet
   case rel => exact ⟨by rw [hr1.out], rfl⟩
 case rest =>
  obtain ⟨rfl, rfl⟩ := hcut
  clear c23 CM HE0
  go_wp2_with fail
  go_loopw [3, 6] (fun ev iv wr => ∃ k : Nat, k ≤ 5 ∧ iv = .int .i64 k ∧ ev = .int .i64 (soaE e0 nums k) ∧ wr = w4) (fun _ iv _ => 5 - (intOf iv).toNat)
  case atStart => exact ⟨0, by omega, rfl, by rw [S0.out], rfl⟩
  case round =>
   obtain ⟨k, hk, rfl, rfl, rfl⟩ := hrel
   by_cases hlt : k < 5
   ·
    have hlt' : (k : Int) < 5 := by omega
    have SS := Hh (soaE_succ e0 nums k (by omega))
    have hc := B1.cell_ (27 + k) (MK.out k (by omega))
    have Q := Hh (fun w => refOut13_any (nums[k]'(by omega)) 4294967295 w)
    obtain ⟨es, hes⟩ : ∃ es, es = soaE e0 nums (k + 1) := ⟨_, rfl⟩
    rw [← hes] at SS
    have HES := Hh hes.symm
    clear hes
    generalize soaE e0 nums k = ek at *
    generalize inB 4294967295 (nums[k]'(by omega)) = bk at *
    generalize (nums[k]'(by omega)) = nk at *
    clear S0 MK
    by_cases he : ek = 0
    ·
     subst he
     have S1 := Hh (SS.out.trans (if_pos rfl))
     clear SS
     go_wp2_with fail
     refine (Q.out _).mono ?_
     rintro _ w5 ⟨rfl, rfl⟩
     cases bk with
     | false =>
      obtain rfl : es = 4 := by simpa using S1.out
      go_wp2_with fail
      go_roundw
      case rel => exact ⟨k + 1, by omega, by go_num, by rw [HES.out], trivial⟩
      case measure => simp [intOf]; omega
     | true =>
      obtain rfl : es = 0 := by simpa using S1.out
      go_wp2_with fail
      go_roundw
      case rel => exact ⟨k + 1, by omega, by go_num, by rw [HES.out], trivial⟩
      case measure => simp [intOf]; omega
    ·
     have S1 := Hh (SS.out.trans (if_neg he))
     have he' : (ek == 0) = false := by simpa using he
     clear SS he
     go_wp2_with fail
     go_roundw
     case rel => exact ⟨k + 1, by omega, by go_num, by rw [HES.out, S1.out], trivial⟩
     case measure => simp [intOf]; omega
   ·
    obtain rfl : k = 5 := by omega
    clear S0 MK hlt
    generalize soaE e0 nums 5 = e at *
    by_cases he0 : e = 0
    ·
     subst he0
     have hr0 := Hh (HE.out.trans (if_neg (by simp)))
     clear HE
     go_wp2_with (first
      | (refine at_op (.load 119 (.tmp 4)) rfl ?_; refine wpList_ldBg (by kernel_rfl) 119 (.tmp 4) rfl w2.heap.size 0 rfl B4 33 (by omega) _ underlying119 rfl rrInfo L5 (tk0 (by omega)) ?_)
      | (refine at_op (.load 119 (.tmp 1)) rfl ?_; refine wpList_ldBg (by kernel_rfl) 119 (.tmp 1) rfl w.heap.size 0 rfl B1 33 (by omega) _ underlying119 rfl rrInfo cs (tk0 (by omega)) ?_))
     refine (SM.out _ HB).mono ?_
     rintro _ w9 ⟨rfl, b9⟩
     have HB9 := below_then HB HB.size b9
     cases sb with
     | false =>
      have hr1 : res = 5 := by simpa using hr0.out
      subst hr1
      clear hr0
      go_wp2_with fail
      go_ret
      exact RetB.mk rfl HB9
     | true =>
      have hr1 : res = 0 := by simpa using hr0.out
      subst hr1
      clear hr0
      go_wp2_with fail
      go_ret
      exact RetB.mk rfl HB9
    ·
     have hr0 := HE.out.trans (if_pos he0)
     subst hr0
     have he1 : (res == 0) = false := by simpa using he0
     have he2 : (res != 0) = true := by simpa using he0
     clear HE he0
     go_wp2_with fail
     go_ret
     exact RetB.mk rfl HB
theorem refcheck13_any (cs : List Value) (r : RR) (w : World) (h : RRis w cs r) : Calls prog 161 #[.agg cs.toArray] w (RetB (.int .i64 (checkR r)) w) := by
 by_cases h0 : checkN r.name = 0
 case neg =>
  have e : checkR r = checkN r.name := by unfold checkR; rw [if_pos h0]
  rw [e]
  exact refcheck13_name cs r w h h0
 by_cases hb : inB 65535 r.ty = true ∧ inB 65535 r.cl = true ∧ inB 4294967295 r.ttl = true
 case neg =>
  have e : checkR r = 4 := by
   unfold checkR
   rw [if_neg (by simp [h0]), if_pos]
   simp only [List.all_cons, List.all_nil, Bool.and_true, Bool.and_eq_true]
   by_cases h1 : inB 65535 r.ty = true <;> by_cases h2 : inB 65535 r.cl = true <;> by_cases h3 : inB 4294967295 r.ttl = true <;> simp_all
  rw [e]
  exact refcheck13_range cs r w h h0 hb
 obtain ⟨b1, b2, b3⟩ := hb
 have e : checkR r = endE r := by
  unfold checkR endE
  rw [if_neg (by simp [h0]), if_neg (by simp [b1, b2, b3]), withR_eq]
 rw [e]
 obtain ⟨An, cn, At, ct, Am, cm, hcs, hr, hN, hT, hM, hraw⟩ := h
 have g : Good cs r w An cn At ct Am cm := ⟨hcs, hr, hN, hT, hM, hraw, h0, b1, b2, b3⟩
 rcases kindR_cases r.ty r.cl with hk | hk | hk | hk | hk | hk
 ·
  exact rc13_1 cs r w g hk
 ·
  exact rc13_28 cs r w g hk
 ·
  exact rc13_5 cs r w g hk
 ·
  exact rc13_33 cs r w g hk
 ·
  exact rc13_6 cs r w g hk
 ·
  exact rc13_0 cs r w g hk
end Go.Proofs.YthnbcmlnpdabhaaGreat

/-
  Arguments of layer 32's laws: what the reading of a task says of its cells.
-/
import Derived.Test.YthnbcmlnpdabhaaGreatIRq
import Derived.Test.YthnbcmlnpdabhaaGreatIVq
namespace Go.Proofs.YthnbcmlnpdabhaaGreat
open _root_.Go.Proofs.Tryz
open Go.ChangeShapes Go.WideShapes Go.ChangeAt Go.RowKit
set_option maxRecDepth 100000
set_option linter.unusedVariables false
set_option linter.unusedSimpArgs false
section
variable {H : Type} {enc : TypeId × Value → H} {w : World} {cs : List Value}
theorem seen_task32 (h : SeenW enc prog w 131 cs) : ∃ As rc r A c nm kind turn ds cd, cs = tk35 (.slice As (ds : List Int).length cd) (.slice A (nm : List (List UInt8)).length c) rc kind turn ∧ RsIs w rc r ∧ NmR w A c nm ∧ DrwsR w As ds := by
 have c14 : prog.cellsOf 131 = 14 := by kernel_rfl
 have c1 : prog.cellsOf 3 = 1 := by kernel_rfl
 have cr : prog.cellsOf 69 = 10 := by kernel_rfl
 have cn : prog.cellsOf 26 = 1 := by kernel_rfl
 have cd_ : prog.cellsOf 70 = 1 := by kernel_rfl
 obtain ⟨hl, hf⟩ := h.struct underlying131
 rw [c14] at hl
 have h0 : SeenW enc prog w 69 ((cs.drop 0).take (prog.cellsOf 69)) := hf 0 _ rfl
 have h1 : SeenW enc prog w 26 ((cs.drop 10).take (prog.cellsOf 26)) := hf 1 _ rfl
 have h2 : SeenW enc prog w 3 ((cs.drop 11).take (prog.cellsOf 3)) := hf 2 _ rfl
 have h3 : SeenW enc prog w 3 ((cs.drop 12).take (prog.cellsOf 3)) := hf 3 _ rfl
 have h4 : SeenW enc prog w 70 ((cs.drop 13).take (prog.cellsOf 70)) := hf 4 _ rfl
 rw [cr] at h0
 rw [cn] at h1
 rw [c1] at h2 h3
 rw [cd_] at h4
 obtain ⟨r, hr⟩ := seen_rs h0
 obtain ⟨A, c, nm, e1, hN⟩ := seen_texts underlying26 h1
 obtain ⟨kind, e2⟩ := seen_int h2
 obtain ⟨turn, e3⟩ := seen_int h3
 obtain ⟨As, cd, ds, e4, hD⟩ := seen_drws h4
 obtain ⟨rc, hrc⟩ : ∃ rc, (cs.drop 0).take 10 = rc := ⟨_, rfl⟩
 rw [hrc] at hr
 refine ⟨As, rc, r, A, c, nm, kind, turn, ds, cd, ?_, hr, hN, hD⟩
 show cs.drop 0 = _
 rw [dsplit cs 0 10 10 rfl, hrc, dsplit cs 10 1 11 rfl, e1, dsplit cs 11 1 12 rfl, e2, dsplit cs 12 1 13 rfl, e3, dsplit cs 13 1 14 rfl, e4, List.drop_of_length_le (by omega)]
 rfl
end
open Go.RowKit
theorem small32_any (As : Option Addr) (cs : List Value) (r : Rs) (A : Option Addr) (c : Nat) (nm : List (List UInt8)) (kind turn : Int) (nd cd : Nat) (w : World) (h : RsIs w cs r) (hN : NmR w A c nm) :
  Calls prog 63 #[.agg (tk35 (.slice As nd cd) (.slice A nm.length c) cs kind turn).toArray] w (fun e w' => ∃ b : Bool, e = .returned (.bool b) ∧ (b = true → lsum nm ≤ 400 ∧ nd ≤ 200) ∧ Below w.heap.size w w') := by
 have hcl := h.len
 obtain ⟨hLl, L0, L10, L11, L12, L14⟩ := tk35_at (vs := .slice As nd cd) (vn := .slice A nm.length c) (kind := kind) (turn := turn) hcl
 obtain ⟨L, hL⟩ : ∃ L, tk35 (.slice As nd cd) (.slice A nm.length c) cs kind turn = L := ⟨_, rfl⟩
 rw [hL] at hLl L0 L10 L14 ⊢
 clear hL L11 L12
 have HX : Below w.heap.size w (w.alloc (.cells L.toArray 131)) := (Below.refl _ _).alloc (Nat.le_refl _) _
 have X := Blk.new w 131 L
 have RB := Hh (fun V => cfg_any h V)
 have FW := Hh (few21_any cs r _ (h.below HX))
 have HNM := Hh hN
 clear h hN
 go_enter func63, ntmps63
 go_wp2_with (first
  | (refine at_op (.load 69 (.tmp 3)) rfl ?_; go_must (refine wpList_ldB rfl _ _ rfl w.heap.size 0 rfl X 10 (by omega) _ underlying69 rfl rsI10 cs L0 ?_))
  | (refine at_op (.build 171 #[(0, .tmp 4)]) rfl ?_; go_must (refine wpList_bld rfl 171 _ rfl #[(0, .agg cs.toArray)] (by simp [Act.eval, Act.put]) (RB.out _) ?_)))
 refine FW.out.mono ?_
 rintro _ w1 ⟨b, rfl, b1⟩
 have X1 := X.below b1 X.lt
 have H1 := below_then HX HX.size b1
 have d10 := X1.cell_ 10 L10
 have d13 := X1.cell_ 13 L14
 have FN := Hh (fewN_any A c nm _ (HNM.out.below H1))
 clear X b1 FW RB HX X1
 cases b with
 | false =>
  clear FN
  go_wp2_with fail
  go_ret
  exact ⟨_, rfl, fun h => (by cases h), H1⟩
 | true =>
 obtain ⟨bq, hbq⟩ : ∃ bq, Hid (decide (lsum nm ≤ 400) = bq) := ⟨_, Hh rfl⟩
 rw [hbq.out] at FN
 generalize nm.length = nq at *
 go_wp2_with fail
 refine FN.out.mono ?_
 rintro _ w2 ⟨rfl, rfl⟩
 clear FN
 cases bq with
 | false =>
  go_wp2_with fail
  go_ret
  exact ⟨_, rfl, fun h => (by cases h), H1⟩
 | true =>
  have hq : lsum nm ≤ 400 := by simpa using hbq.out
  have HQ := Hh hq
  clear hq hbq
  by_cases hn : nd ≤ 200
  case pos =>
   have hn' : (nd : Int) ≤ 200 := by omega
   have HND := Hh hn
   go_wp2_with fail
   go_ret
   exact ⟨_, rfl, fun _ => ⟨HQ.out, HND.out⟩, H1⟩
  case neg =>
   have hn' : ¬ (nd : Int) ≤ 200 := by omega
   go_wp2_with fail
   go_ret
   exact ⟨_, rfl, fun h => absurd (of_decide_eq_true h) (by omega), H1⟩
theorem exec_eqlAd {x y : Adr} {o : Oper} {a : Act} (p q : Operand) (ho : o.op = .binOp .eql 24 p q 24) (hx : a.eval p = .agg x.cells.toArray) (hy : a.eval q = .agg y.cells.toArray) (h1 : x.ip.length = 16) (h2 : y.ip.length = 16) (w : World) : (execOp a.eval o).run prog w = .ok (.value (.bool (decide (x = y)))) w := by
 have hr := run_eqA x y h1 h2 w
 have hg : (eqGuard .eql 24 p q (.agg x.cells.toArray) (.agg y.cells.toArray)).run prog w = .ok () w := run_eqGuard_agg w _ _ _ _ _ _ Tryz.eqGuardType24
 unfold execOp
 simp only [ho, hx, hy, Sem.run_bind, hg, run_eql_struct, hr, Result.andThen_ok, Sem.run_pure]
set_option maxHeartbeats 1000000 in
theorem has18_no (A : Option Addr) (c : Nat) (l : List Adr) (a : Adr) (w : World) (hA : AdsR w A l) (ha : a.ip.length = 16) (hl : l.length ≤ 1000) (hno : a ∉ l) :
  Calls prog 70 #[.slice A l.length c, .agg a.cells.toArray] w (RetB (.bool false) w) := by
 have hal := a.cells_len ha
 have HX : Below w.heap.size w (w.alloc (.cells a.cells.toArray 24)) := (Below.refl _ _).alloc (Nat.le_refl _) _
 have X := Blk.new w 24 a.cells
 obtain ⟨n, hn⟩ : ∃ n, Hid (l.length = n) := ⟨_, Hh rfl⟩
 have HA := Hh hA
 have HNO := Hh hno
 rw [hn.out] at hl ⊢
 obtain ⟨ac, hac⟩ : ∃ ac, Hid (a.cells = ac) := ⟨_, Hh rfl⟩
 rw [hac.out] at hal HX X ⊢
 clear hA hno
 go_enter func70, ntmps70
 go_wp2_with fail
 obtain ⟨W, hW⟩ : ∃ W, Hid (w.alloc (.cells ac.toArray 24) = W) := ⟨_, Hh rfl⟩
 rw [hW.out] at HX X ⊢
 go_loopw [5] (fun iv wr => ∃ k : Nat, k ≤ n ∧ iv = .int .i64 k ∧ Below w.heap.size w wr ∧ Blk wr w.heap.size 24 ac) (fun iv _ => n - (intOf iv).toNat)
 case atStart => exact ⟨0, Nat.zero_le _, rfl, HX, X⟩
 clear HX X
 obtain ⟨k, hk, rfl, HB, BX⟩ := hrel
 by_cases hlt : k < n
 case pos =>
  have hlt' : (k : Int) < n := by omega
  have hlp : k < l.length := by rw [hn.out]; exact hlt
  obtain ⟨bk, off, hAk, hbk, hrow⟩ := HA.out (by omega)
  obtain ⟨cx, hcx, hcx2, hip⟩ := hrow k hlp
  subst hAk
  have hne : l[k] ≠ a := fun c => HNO.out (c ▸ List.getElem_mem hlp)
  generalize l[k] = x at *
  subst hcx2
  have re := range_below hcx HB hbk
  have hwr := HB.size
  have HXA : Hid (∀ V, Below wr.heap.size wr V → (Instr.loadAt 24 (.pointer (some ⟨w.heap.size, 0, none⟩))).run prog V = .ok (.agg ac.toArray) V) := Hh (fun V hV => (BX.below hV BX.lt).loads 24 0 18 (by omega) _ underlying24 rfl adI18 _ (tk0 (by omega)))
  have EQ : Hid (∀ {o : Oper} {ax : Act} (p q : Operand), o.op = .binOp .eql 24 p q 24 → ax.eval p = .agg x.cells.toArray → ax.eval q = .agg ac.toArray → ∀ V, (execOp ax.eval o).run prog V = .ok (.value (.bool false)) V) := Hh (fun p q ho hx hy V => by
   rw [← hac.out] at hy
   have := exec_eqlAd p q ho hx hy hip ha V
   rwa [decide_eq_false hne] at this)
  have hxl := x.cells_len hip
  have HLX : Hid (∀ V, Below wr.heap.size wr V → (Instr.loadAt 24 (.pointer (some ⟨bk, off + k * 18, none⟩))).run prog V = .ok (.agg x.cells.toArray) V) := Hh (fun V hV => rangeK_loads (range_below re hV (Nat.lt_of_lt_of_le hbk hwr)) underlying24 rfl (by rw [hxl]; exact adI18))
  clear hrow hcx re hne hlp
  generalize x.cells = xc at *
  go_wp2_with fail
  refine wp_region_old (by kernel_rfl) (by kernel_rfl) ?_
  (refine wpQuiet_val (v := (.slice (some ⟨bk, off, none⟩) n c)) rfl (fun W hW => by first | (go_simp; done) | (go_simp; omega)) ?_; simp only [Act.put, lsA, lsB, lsC])
  (refine wpQuiet_val (v := (.int .i64 k)) rfl (fun W hW => by first | (go_simp; done) | (go_simp; omega)) ?_; simp only [Act.put, lsA, lsB, lsC])
  refine wpQuiet_val (v := .pointer (some ⟨bk, off + k * 18, none⟩)) rfl (fun W hW => exec_ixK underlying65 adI18 (by omega) (.tmp 12) (.tmp 13) rfl rfl rfl hlt W) ?_
  simp only [Act.put, lsA, lsB, lsC]
  refine wpQuiet_ld (v := .agg xc.toArray) 24 (.tmp 14) rfl ⟨bk, off + k * 18, none⟩ rfl rfl (fun V hV => HLX.out V hV) ?_
  simp only [Act.put, lsA, lsB, lsC]
  refine wpQuiet_ld (v := .agg ac.toArray) 24 (.tmp 3) rfl ⟨w.heap.size, 0, none⟩ rfl rfl (fun V hV => HXA.out V hV) ?_
  simp only [Act.put, lsA, lsB, lsC]
  refine wpQuiet_val (v := .bool false) rfl (fun W hW => EQ.out (.tmp 15) (.tmp 16) rfl rfl rfl W) ?_
  simp only [Act.put, lsA, lsB, lsC]
  refine wpQuiet_nil ?_
  intro w4 b4
  have H4 := below_then HB hwr b4
  have X4 := BX.below b4 BX.lt
  clear HXA HLX EQ HB BX b4
  go_wp2_with fail
  go_roundw
  case rel => exact ⟨k + 1, by omega, by go_num, H4, X4⟩
  case measure => simp [intOf]; omega
 have hlt' : ¬ (k : Int) < n := by omega
 go_wp2_with fail
 go_ret
 exact RetB.mk rfl HB
def rz32 (s : Bool) : Rs := ⟨[], [], [], 0, 0, 0, false, false, s, false⟩
def p32 (s : Bool) : PR := newP (rz32 s) [[97]] (tysF 0) 0 ⟨[], 0⟩
theorem p32_a : (p32 false).2.2.length = 2 ∧ sentP (p32 false).1 = 2 := ⟨by kernel_rfl, by kernel_rfl⟩
theorem p32_b : (p32 true).2.2.length = 1 ∧ doneP (p32 true).1 = false := ⟨by kernel_rfl, by kernel_rfl⟩
theorem rz32_is (w : World) (s : Bool) : RsIs w (rsC nilS nilS nilS (rz32 s)) (rz32 s) := ⟨none, 0, none, 0, none, 0, rfl, fun h => absurd h (Nat.lt_irrefl 0), fun h => absurd h (Nat.lt_irrefl 0), fun h => absurd h (Nat.lt_irrefl 0), Nat.zero_le _, Nat.zero_le _, Nat.zero_le _⟩
theorem nm97 {w : World} {g : Nat} (h : Blk w g 9 [.string ⟨#[97]⟩]) : NmR w (some ⟨g, 0, none⟩) 1 [[97]] := by
 refine ⟨fun _ => ⟨g, 0, rfl, h.lt, fun j hj => ?_⟩, by show (1 : Nat) ≤ 1; decide, by show (1 : Nat) ≤ 17592186044416; decide, by
  intro l hl
  simp at hl
  subst hl; simp⟩
 obtain rfl : j = 0 := by simpa using hj
 exact h.cell_ 0 rfl
theorem new32 (s : Bool) (w W : World) (g : Nat) (hW : Below w.heap.size w W) (hn : Blk W g 9 [.string ⟨#[97]⟩]) (gl : Nat) (hl : LotAt W gl ⟨[], 0⟩) (hgl : w.heap.size ≤ gl) :
  Calls prog 64 #[.agg (rsC nilS nilS nilS (rz32 s)).toArray, .slice (some ⟨g, 0, none⟩) 1 1, .int .i64 0, .int .i64 0, .pointer (some ⟨gl, 0, none⟩)] W (fun e w' => ∃ g' A c X, e = .returned (.tuple #[.pointer (some ⟨g', 0, none⟩), .slice A (p32 s).2.2.length c]) ∧ PrAt w w' w.heap.size g' gl X (p32 s).1 ∧ PI (p32 s).1 (p32 s).2.1 0 0 0 ∧ Below w.heap.size w w') := by
 refine (pnew_any' w w.heap.size gl (rsC nilS nilS nilS (rz32 s)) (rz32 s) (some ⟨g, 0, none⟩) 1 [[97]] 0 0 ⟨[], 0⟩ 0 0 W (rz32_is w s) hW (nm97 hn) (by decide) hl (Nat.le_refl 0) (Nat.zero_le _) (Nat.zero_le _) (Nat.le_refl _) hW.size hgl).mono ?_
 rintro _ w' ⟨g', v, X, rfl, hO, hA, _, hF, hI, _, _⟩
 obtain ⟨A, c, hv, -, -⟩ := hO.form
 subst hv
 exact ⟨g', A, c, X, rfl, hA, hI, hF.toBelowT hW hW.size (Nat.le_refl _)⟩
set_option maxHeartbeats 2000000 in
theorem works32_any (w : World) : Calls prog 62 #[] w (RetB (.bool true) w) := by
 have k0 : Below w.heap.size w (w.alloc (.cells #[.string ⟨#[97]⟩] 9)) := (Below.refl _ _).alloc (Nat.le_refl _) _
 have N0 := Blk.new w 9 [.string ⟨#[97]⟩]
 go_enter func62, ntmps62
 go_wp2_with fail
 refine (lnew_any none 0 [] _ (fun h => absurd h (by decide)) (by decide)).mono ?_
 rintro _ w1 ⟨gl, rfl, hL, b1, hgl⟩
 have H1 := below_then k0 k0.size b1
 have N1 := N0.below b1 N0.lt
 have NW := Hh (new32 false w w1 w.heap.size H1 N1 gl hL (Nat.le_trans k0.size hgl))
 rw [p32_a.1] at NW
 clear k0 N0 b1 N1 hL H1
 go_wp2_with fail
 refine NW.out.mono ?_
 rintro _ w2 ⟨ga, Aa, ca, Xa, rfl, hA, hI, b2⟩
 have HA := Hh hA
 have HI := Hh hI
 clear NW hA hI hgl
 have k3 : Below w2.heap.size w2 (w2.alloc (.cells #[.string ⟨#[97]⟩] 9)) := (Below.refl _ _).alloc (Nat.le_refl _) _
 have N3 := Blk.new w2 9 [.string ⟨#[97]⟩]
 go_wp2_with fail
 refine (lnew_any none 0 [] _ (fun h => absurd h (by decide)) (by decide)).mono ?_
 rintro _ w4 ⟨gm, rfl, hM, b4, hgm⟩
 have H4 := below_then k3 k3.size b4
 have N4 := N3.below b4 N3.lt
 have NW := Hh (new32 true w2 w4 w2.heap.size H4 N4 gm hM (Nat.le_trans k3.size hgm))
 rw [p32_b.1] at NW
 clear k3 N3 b4 N4 hM H4
 go_wp2_with fail
 refine NW.out.mono ?_
 rintro _ w5 ⟨gb, Ab, cb, Xb, rfl, hB, hJ, b5⟩
 have hbs := b2.size
 have SN := Hh (psent_any (HA.out.below hbs b5) (fun x hx => by
  obtain ⟨i, hi⟩ := List.getElem?_of_mem hx
  have := (HI.out.ea i x hi).s45
  omega) (Nat.le_trans HI.out.bl HI.out.tl))
 have DN := Hh (pdone_any hB (Nat.le_trans hJ.bl hJ.tl))
 rw [p32_a.2] at SN
 rw [p32_b.2] at DN
 have H5 := below_then b2 hbs b5
 clear NW HA HI hB hJ b2 b5 hgm
 go_wp2_with fail
 refine SN.out.mono ?_
 rintro _ w6 ⟨rfl, rfl⟩
 clear SN
 go_wp2_with fail
 refine DN.out.mono ?_
 rintro _ w7 ⟨rfl, b7⟩
 have H7 := below_then H5 H5.size b7
 clear DN b7 H5
 go_wp2_with fail
 go_ret
 exact RetB.mk rfl H7
def RunP (w0 w : World) (b g gl : Nat) (r : Rs) (nm : List (List UInt8)) (fam : Int) (tk k H : Nat) : Prop := ∃ X p M, PrAt w0 w b g gl X p ∧ LotAt w gl M ∧ PI p M tk k H ∧ goP p ∧ p.nm = nm ∧ p.tys = tysF fam ∧ p.r = heldR r
theorem RunP.below {w0 w w' : World} {b g gl : Nat} {r : Rs} {nm : List (List UInt8)} {fam : Int} {tk k H : Nat} (h : RunP w0 w b g gl r nm fam tk k H) (hb : b ≤ w.heap.size) (k1 : Below w.heap.size w w') : RunP w0 w' b g gl r nm fam tk k H := by
 obtain ⟨X, p, M, h1, h2, h3⟩ := h
 exact ⟨X, p, M, h1.below hb k1, h2.below k1, h3⟩
theorem begin_f : ∀ (f : Nat) (p : Pr) (L : Lt) (o : List Ou), (beginP f p L o).1.nm = p.nm ∧ (beginP f p L o).1.tys = p.tys ∧ (beginP f p L o).1.r = p.r
 | 0, p, L, o => ⟨rfl, rfl, rfl⟩
 | f + 1, p, L, o => by
  unfold beginP
  split
  ·
   exact begin_f f (oneP p L) _ _
  ·
   exact ⟨rfl, rfl, rfl⟩
def HpRet (w0 : World) (b g gl : Nat) (r : Rs) (nm : List (List UInt8)) (fam : Int) (tk k H : Nat) (w : World) (e : Ending) (w' : World) : Prop := ∃ v, e = .returned v ∧ RunP w0 w' b g gl r nm fam tk k H ∧ Below b w w'
theorem RunP.hear {w0 w : World} {b g gl : Nat} {r : Rs} {nm : List (List UInt8)} {fam : Int} {tk k H : Nat} (h : RunP w0 w b g gl r nm fam tk k H) (e : Ev) (hip : e.fr.ip.length = 16) (hH : H + e.data.length ≤ 8796093022208) (hk : k ≤ 90000) (hbw : b ≤ w.heap.size) (hnm : nm.length ≤ 100000) :
  Calls prog 65 #[.pointer (some ⟨g, 0, none⟩), .agg (evC e).toArray] w (HpRet w0 b g gl r nm fam (tk + if e.kind = 1 then 1 else 0) (k + 1) (H + e.data.length) w) := by
 obtain ⟨X, p, M, h1, h2, h3, h4, h5, h6, h7⟩ := h
 refine (phear_any w0 b g gl X p M e tk k H w h1 h2 h3 h4 hip hH hk hbw (by rw [h5]; exact hnm)).mono ?_
 rintro _ w' ⟨⟨v, X', rfl, _, q2, q3, q4⟩, q5, q6⟩
 obtain ⟨f1, f2, f3⟩ := begin_f 3 (heardP p M e) (hearsX p.bg M e).2.1 []
 exact ⟨v, rfl, ⟨X', _, _, q2, q3, q5, q6, f1.trans h5, f2.trans h6, f3.trans h7⟩, q4.toBelowT (Below.refl b w) hbw (Nat.le_refl _)⟩
theorem most_held (r : Rs) : mostR (heldR r) = mostR r := by
 unfold mostR
 rw [tries_len, tries_len, heldR_twice]
theorem tysF_01 (f : Int) : (∀ t ∈ tysF f, t = 1 ∨ t = 28) ∧ 0 < (tysF f).length := by
 unfold tysF
 refine ⟨fun t ht => ?_, ?_⟩
 ·
  split at ht <;> split at ht <;> simp at ht <;> omega
 ·
  by_cases h6 : f = 6
  ·
   subst h6; decide
  ·
   rw [if_neg h6]; simp
theorem RunP.over {w0 w : World} {b g gl : Nat} {r : Rs} {nm : List (List UInt8)} {fam : Int} {tk k H : Nat} (h : RunP w0 w b g gl r nm fam tk k H) (hnm : nm.length ≤ 100000) (hbw : b ≤ w.heap.size) (ht : 2 * ticksR r ≤ tk) :
  ∃ p sn, p.tys = tysF fam ∧ sn ≤ 2 * mostR r ∧ Calls prog 66 #[.pointer (some ⟨g, 0, none⟩)] w (PresRet p w) ∧ ∀ w', Below w.heap.size w w' → Calls prog 67 #[.pointer (some ⟨g, 0, none⟩)] w' (RetB (.bool true) w') ∧ Calls prog 68 #[.pointer (some ⟨g, 0, none⟩)] w' (Ret (.int .i64 (sn : Nat)) w') := by
 obtain ⟨X, p, M, h1, h2, h3, h4, h5, h6, h7⟩ := h
 have hT : ticksR p.r = ticksR r := by rw [h7]; exact ticks_held r
 have hM : mostR p.r = mostR r := by rw [h7]; exact most_held r
 have hbl := h3.bl
 have htl := h3.tl
 obtain ⟨y1, y2⟩ := tysF_01 fam
 have hm : ticksR p.r * p.tys.length ≤ tk := by
  rw [hT]
  refine Nat.le_trans (Nat.mul_le_mul_left _ htl) ?_
  omega
 have hd := h3.end_ h1.xs.ok h4 hm
 have hs := h3.sent
 have hs2 : sentP p ≤ 2 * mostR r := by
  rw [← hM]
  exact Nat.le_trans hs (Nat.mul_le_mul_right _ (by omega))
 refine ⟨p, sentP p, h6, hs2, presult_any h1 h3 (by rw [h6]; exact y1) (by rw [h5]; exact hnm) hd (by rw [h6]; exact y2) hbw, fun w' k1 => ⟨?_, ?_⟩⟩
 ·
  rw [← hd]
  exact pdone_any (h1.below hbw k1) (by omega)
 ·
  refine psent_any (h1.below hbw k1) (fun x hx => ?_) (by omega)
  obtain ⟨i, hi⟩ := List.getElem?_of_mem hx
  have := (h3.ea i x hi).s45
  omega
theorem taI14p : (prog.info? 131).map (·.size) = some 14 := by kernel_rfl
set_option maxHeartbeats 8000000 in
theorem pairEnds_any (As : Option Addr) (cs : List Value) (r : Rs) (A : Option Addr) (c : Nat) (nm : List (List UInt8)) (kind turn : Int) (ds : List Int) (cd : Nat) (Ae : Option Addr) (ce : Nat) (l : List Ev) (w : World) (h : RsIs w cs r) (hN : NmR w A c nm) (hD : DrwsR w As ds) (hE : EvsR w Ae l) (hEl : l.length ≤ 17592186044416) :
  Calls prog 12 #[.agg (tk35 (.slice As ds.length cd) (.slice A nm.length c) cs kind turn).toArray, .slice Ae l.length ce] w (RetB (.bool true) w) := by
 have hcl := h.len
 obtain ⟨hLl, L0, L10, L11, L12, L13⟩ := tk35_at (vs := .slice As ds.length cd) (vn := .slice A nm.length c) (kind := kind) (turn := turn) hcl
 have SM := Hh (fun V (b : Below w.heap.size w V) => small32_any As cs r A c nm kind turn ds.length cd V (h.below b) (hN.below b))
 have FE := Hh (fun w' (b : Below w.heap.size w w') => few28_any Ae ce l 80 w' (hE.below b) hEl)
 have HRS := Lib.hid h
 have HNM := Hh hN
 have HDR := Hh hD
 have HEV := Hh hE
 obtain ⟨L, hL⟩ : ∃ L, Hid (tk35 (.slice As ds.length cd) (.slice A nm.length c) cs kind turn = L) := ⟨_, Hh rfl⟩
 rw [hL.out] at hLl L0 L10 L11 L12 L13 SM ⊢
 have hB : Below w.heap.size w (w.alloc (.cells L.toArray 131)) := (Below.refl _ _).alloc (Nat.le_refl _) _
 have B := Blk.new w 131 L
 clear h hN hD hE hL
 go_enter func12, ntmps12
 go_wp2_with fail
 refine (works32_any _).mono ?_
 rintro _ w1 ⟨rfl, b1⟩
 have B1 := B.below b1 B.lt
 have H1 := below_then hB hB.size b1
 clear B hB b1
 go_wp2_with (refine at_op (.load 131 (.tmp 2)) rfl ?_; go_must (refine wpList_ldG 131 (.tmp 2) rfl (by go_simp) w.heap.size 0 rfl B1 14 (by omega) _ underlying131 rfl taI14p L (tk0 (by omega)) ?_))
 refine (SM.out _ H1).mono ?_
 rintro _ w2 ⟨b, rfl, hsm, b2⟩
 have B2 := B1.below b2 B1.lt
 have H2 := below_then H1 H1.size b2
 have HSM := Hh hsm
 clear B1 H1 b2 SM hsm
 cases b with
 | false =>
  clear FE
  go_wp2_with fail
  refine (works32_any _).mono ?_
  rintro _ w3 ⟨rfl, b3⟩
  go_wp2_with fail
  go_ret
  exact RetB.mk rfl (below_then H2 H2.size b3)
 | true =>
 obtain ⟨hq4, hdl⟩ := HSM.out rfl
 have hnm : nm.length ≤ 100000 := by have := lsum_ge nm; omega
 clear HSM hq4
 go_wp2_with fail
 refine (FE.out _ H2).mono ?_
 rintro _ w3 ⟨b, rfl, hfe, b3⟩
 have B3 := B2.below b3 B2.lt
 have H3 := below_then H2 H2.size b3
 have HFE := Hh hfe
 clear B2 H2 b3 FE hfe
 cases b with
 | false =>
  go_wp2_with fail
  refine (works32_any _).mono ?_
  rintro _ w4 ⟨rfl, b4⟩
  go_wp2_with fail
  go_ret
  exact RetB.mk rfl (below_then H3 H3.size b4)
 | true =>
 obtain ⟨hl80, htot⟩ := HFE.out rfl
 clear HFE
 have LN := Hh (fun V (hV : Below w.heap.size w V) => lnew_any As cd ds V (fun hp => by obtain ⟨b, off, h1, h2, h3⟩ := HDR.out hp; exact ⟨b, off, h1, range_below h3 hV h2⟩) (by omega))
 have XN := Hh (fun gl V (hV : Below w3.heap.size w3 V) (hLt : LotAt V gl ⟨ds, 0⟩) (hgl : w3.heap.size ≤ gl) => pnew_any' w w3.heap.size gl cs r A c nm kind turn ⟨ds, 0⟩ 0 0 V HRS.out (below_then H3 H3.size hV) (HNM.out.below (below_then H3 H3.size hV)) hnm hLt (Nat.le_refl 0) (Nat.zero_le _) (by show ds.length ≤ 17592186044416; omega) H3.size hV.size hgl)
 have LR : Hid (∀ V, Below w3.heap.size w3 V → (Instr.loadAt 69 (.pointer (some ⟨w.heap.size, 0, none⟩))).run prog V = .ok (.agg cs.toArray) V) := Hh (fun V hV => (B3.below hV B3.lt).loads 69 0 10 (by omega) _ underlying69 rfl rsI10 _ L0)
 have LQ : Hid (∀ V, Below w3.heap.size w3 V → (Instr.loadAt 26 (.pointer (some ⟨w.heap.size, 10, none⟩))).run prog V = .ok (.slice A nm.length c) V) := Hh (fun V hV => run_load1 underlying26 rfl ((B3.below hV B3.lt).cell_ 10 L10))
 have LK : Hid (∀ V, Below w3.heap.size w3 V → (Instr.loadAt 3 (.pointer (some ⟨w.heap.size, 11, none⟩))).run prog V = .ok (.int .i64 kind) V) := Hh (fun V hV => run_load1 underlying3 rfl ((B3.below hV B3.lt).cell_ 11 L11))
 have LT : Hid (∀ V, Below w3.heap.size w3 V → (Instr.loadAt 3 (.pointer (some ⟨w.heap.size, 12, none⟩))).run prog V = .ok (.int .i64 turn) V) := Hh (fun V hV => run_load1 underlying3 rfl ((B3.below hV B3.lt).cell_ 12 L12))
 have LD : Hid (∀ V, Below w3.heap.size w3 V → (Instr.loadAt 70 (.pointer (some ⟨w.heap.size, 13, none⟩))).run prog V = .ok (.slice As ds.length cd) V) := Hh (fun V hV => run_load1 underlying70 rfl ((B3.below hV B3.lt).cell_ 13 L13))
 have HL0 := Hh L0
 have HL10 := Hh L10
 have HL11 := Hh L11
 obtain ⟨X0, hX0⟩ : ∃ X0, Hid (newP r nm (tysF kind) turn ⟨ds, 0⟩ = X0) := ⟨_, Hh rfl⟩
 have hXf : Hid (X0.1.nm = nm ∧ X0.1.tys = tysF kind ∧ X0.1.r = heldR r) := Hh (by rw [← hX0.out]; exact begin_f _ _ _ _)
 rw [hX0.out] at XN
 unfold PnRet at XN
 clear L0 L10 L11 L12 L13 hX0
 go_upto_region 3 with fail
 go_cut [5, 6] (fun v5 v6 wx => ∃ g gl A6 n6 c6, v5 = .pointer (some ⟨g, 0, none⟩) ∧ v6 = .slice A6 n6 c6 ∧ RunP w wx w3.heap.size g gl r nm kind 0 0 0 ∧ Below w3.heap.size w3 wx)
 case first =>
  refine wp_region_held_drew (S := fun V => Below w3.heap.size w3 V) (by kernel_rfl) (Below.refl _ _).drew (fun hS => ?_)
  refine held_seq hS 10 [0,1,2,3,4,5,6,7,8,9] rfl (by kernel_rfl) (fun _ _ _ _ _ h => h) rfl rfl ?_
  (refine ⟨_, (.pointer (some ⟨w.heap.size, 0, none⟩)), rfl, .inl ⟨rfl, fun V hV => rfl⟩, ?_⟩; simp only [Act.put, lsA, lsB, lsC])
  (refine ⟨_, _, rfl, .inl ⟨rfl, fun V hV => (exec_ld 69 (.tmp 27) ⟨w.heap.size, 0, none⟩ rfl rfl (LR.out V hV))⟩, ?_⟩; simp only [Act.put, lsA, lsB, lsC])
  (refine ⟨_, (.pointer (some ⟨w.heap.size, 10, none⟩)), rfl, .inl ⟨rfl, fun V hV => rfl⟩, ?_⟩; simp only [Act.put, lsA, lsB, lsC])
  (refine ⟨_, _, rfl, .inl ⟨rfl, fun V hV => (exec_ld 26 (.tmp 29) ⟨w.heap.size, 10, none⟩ rfl rfl (LQ.out V hV))⟩, ?_⟩; simp only [Act.put, lsA, lsB, lsC])
  (refine ⟨_, (.pointer (some ⟨w.heap.size, 11, none⟩)), rfl, .inl ⟨rfl, fun V hV => rfl⟩, ?_⟩; simp only [Act.put, lsA, lsB, lsC])
  (refine ⟨_, _, rfl, .inl ⟨rfl, fun V hV => (exec_ld 3 (.tmp 31) ⟨w.heap.size, 11, none⟩ rfl rfl (LK.out V hV))⟩, ?_⟩; simp only [Act.put, lsA, lsB, lsC])
  (refine ⟨_, (.pointer (some ⟨w.heap.size, 12, none⟩)), rfl, .inl ⟨rfl, fun V hV => rfl⟩, ?_⟩; simp only [Act.put, lsA, lsB, lsC])
  (refine ⟨_, _, rfl, .inl ⟨rfl, fun V hV => (exec_ld 3 (.tmp 33) ⟨w.heap.size, 12, none⟩ rfl rfl (LT.out V hV))⟩, ?_⟩; simp only [Act.put, lsA, lsB, lsC])
  (refine ⟨_, (.pointer (some ⟨w.heap.size, 13, none⟩)), rfl, .inl ⟨rfl, fun V hV => rfl⟩, ?_⟩; simp only [Act.put, lsA, lsB, lsC])
  (refine ⟨_, _, rfl, .inl ⟨rfl, fun V hV => (exec_ld 70 (.tmp 35) ⟨w.heap.size, 13, none⟩ rfl rfl (LD.out V hV))⟩, ?_⟩; simp only [Act.put, lsA, lsB, lsC])
  simp only [SeqC]
  refine held_call 10 (some 37) 33 #[.slice As ds.length cd] (by kernel_rfl) rfl rfl (by kernel_rfl) (by go_simp) (LN.out _ (below_then H3 H3.size hS)) ?_
  rintro _ w4 ⟨gl, rfl, hLt, b4, hgl⟩
  have hS4 := below_then hS hS.size b4
  refine ⟨_, rfl, hS4, ?_⟩
  have hgl3 : w3.heap.size ≤ gl := Nat.le_trans hS.size hgl
  clear hS b4 hgl
  have hS := hS4
  clear hS4
  simp only [Act.put, lsA, lsB, lsC]
  refine held_call 11 (some 38) 64 #[.agg cs.toArray, .slice A nm.length c, .int .i64 kind, .int .i64 turn, .pointer (some ⟨gl, 0, none⟩)] (by kernel_rfl) rfl rfl (by kernel_rfl) (by go_simp) (XN.out gl _ hS hLt hgl3) ?_
  rintro _ w5 ⟨g, v, D, rfl, hO, hX, hl5, hf, hI, hp1, hp2⟩
  have hS5 : Below w3.heap.size w3 w5 := hf.toBelowT hS hS.size (Nat.le_refl _)
  refine ⟨_, rfl, hS5, ?_⟩
  obtain ⟨A6, c6, hv6, -, -⟩ := hO.form
  obtain ⟨x1, x2, x3⟩ := hXf.out
  have HR := Hh (show RunP w w5 w3.heap.size g gl r nm kind 0 0 0 from ⟨D, X0.1, X0.2.1, hX, hl5, hI, hp1, x1, x2, x3⟩)
  clear hS hf hO hgl3 hLt hX hl5 hI hp1 hp2 x1 x2 x3
  have hS := hS5
  clear hS5
  subst hv6
  generalize X0.2.2.length = n6 at *
  simp only [Act.put, lsA, lsB, lsC]
  refine held_seq hS 5 [12,13,14,15,16] rfl (by kernel_rfl) (fun _ _ _ _ _ h => h) rfl rfl ?_
  (refine ⟨_, (.tuple #[.pointer (some ⟨g, 0, none⟩), .slice A6 n6 c6]), rfl, .inl ⟨rfl, fun V hV => rfl⟩, ?_⟩; simp only [Act.put, lsA, lsB, lsC])
  (refine ⟨_, (.pointer (some ⟨g, 0, none⟩)), rfl, .inl ⟨rfl, fun V hV => rfl⟩, ?_⟩; simp only [Act.put, lsA, lsB, lsC])
  (refine ⟨_, (.slice A6 n6 c6), rfl, .inl ⟨rfl, fun V hV => rfl⟩, ?_⟩; simp only [Act.put, lsA, lsB, lsC])
  (refine ⟨_, (.pointer (some ⟨g, 0, none⟩)), rfl, .inl ⟨rfl, fun V hV => rfl⟩, ?_⟩; simp only [Act.put, lsA, lsB, lsC])
  (refine ⟨_, (.slice A6 n6 c6), rfl, .inl ⟨rfl, fun V hV => rfl⟩, ?_⟩; simp only [Act.put, lsA, lsB, lsC])
  simp only [SeqC]
  refine wpAnyH_done (by kernel_rfl) ?_ _
  go_wp2_with fail
  go_meet
  case rel => exact ⟨g, gl, A6, n6, c6, rfl, rfl, HR.out, hS⟩
 obtain ⟨g, gl, A6, n6, c6, rfl, rfl, HR, HW⟩ := hcut
 have HR := Hh HR
 clear LR LQ LK LT LD LN XN hXf
 obtain ⟨w5, rfl⟩ : ∃ w5, w5 = wc := ⟨_, rfl⟩
 have hT1 := (ticks_le r).1
 have TK := Hh (fun V (hV : Below w.heap.size w V) => ticks_any w cs r V HRS.out hV)
 obtain ⟨T, hT⟩ : ∃ T, Hid (ticksR r = T) := ⟨_, Hh rfl⟩
 rw [hT.out] at hT1 TK
 obtain ⟨b, hb⟩ : ∃ b, Hid (w3.heap.size = b) := ⟨_, Hh rfl⟩
 have hlb : w.heap.size < b := by rw [← hb.out]; exact B3.lt
 have hwb := Hh (show w.heap.size ≤ b by omega)
 rw [hb.out] at HR HW
 have H3' := Hh H3
 have B3' := Hh B3
 clear H3 B3
 go_wp2_with fail
 go_loopw [7] (fun iv wr => ∃ k tk : Nat, k ≤ l.length ∧ iv = .int .i64 k ∧ Hid (RunP w wr b g gl r nm kind tk k (totE (l.take k))) ∧ Below b w3 wr) (fun iv _ => l.length - (intOf iv).toNat)
 case atStart => exact ⟨0, 0, Nat.zero_le _, rfl, HR, HW⟩
 clear HR HW
 obtain ⟨k, tk, hk, rfl, HR, HW⟩ := hrel
 have HBw : Below w.heap.size w wr := below_then H3'.out H3'.out.size (by rw [hb.out]; exact HW)
 have hbw : b ≤ wr.heap.size := by have := HW.size; rw [hb.out] at this; exact this
 by_cases hlt : k < l.length
 case pos =>
  have hlt' : (k : Int) < l.length := by omega
  obtain ⟨ba, oa, hA1, la1, ra, hip, hdl'⟩ := HEV.out.at_ k hlt
  have hT := totE_take l k hlt
  have hT2 := totE_le l (k + 1)
  have hel : (evC l[k]).length = 22 := evC_len hip
  have re := range_below ra HBw la1
  have HC := Hh (HR.out.hear l[k] hip (by omega) (by omega) hbw hnm)
  rw [← hT] at HC
  subst hA1
  unfold HpRet at HC
  clear hT hT2 ra hdl' HR
  generalize (tk + if l[k].kind = 1 then 1 else 0) = tk2 at *
  generalize evC l[k] = ek at *
  go_wp2_with (refine at_op (.load 42 (.tmp 52)) rfl ?_; go_must (refine wpList_ldR rfl 42 (.tmp 52) rfl ba (oa + k * 22) rfl ek re _ underlying42 rfl (by rw [hel]; exact evI22) ?_))
  refine HC.out.mono ?_
  rintro _ w6 ⟨v6, rfl, hR6, b6⟩
  have HR6 := Hh hR6
  have H6 : Below b w3 w6 := HW.trans b6
  clear HC hR6 b6 HW HBw re
  go_wp2_with fail
  go_roundw
  case rel => exact ⟨k + 1, tk2, by omega, by go_num, HR6, H6⟩
  case measure => simp [intOf]; omega
 have hlt' : ¬ (k : Int) < l.length := by omega
 obtain rfl : k = l.length := by omega
 rw [List.take_length] at HR
 have K11 : Hid (∀ V, Below b w3 V → V.cell? ⟨w.heap.size, 11, none⟩ = some (.int .i64 kind)) := Hh (fun V hV => (B3'.out.below (by rw [hb.out]; exact hV) B3'.out.lt).cell_ 11 HL11.out)
 have hM : 2 * T ≤ 2700 := by omega
 have TK1 := Hh (fun V (hV : Below wr.heap.size wr V) => TK.out V (below_then HBw HBw.size hV))
 have BT := B3'.out.below (by rw [hb.out]; exact HW : Below w3.heap.size w3 wr) B3'.out.lt
 have TKr := Hh (TK1.out wr (Below.refl _ _))
 have HW0 := Hh HW
 have HL0' := HL0.out
 clear TK HEV HW TK1
 go_wp2_with (refine at_op (.load 69 (.tmp 55)) rfl ?_; go_must (refine wpList_ldB rfl _ _ rfl w.heap.size 0 rfl BT 10 (by omega) _ underlying69 rfl rsI10 cs HL0' ?_))
 refine TKr.out.mono ?_
 rintro _ w7 ⟨rfl, b7⟩
 have HR7 := Hh (HR.out.below hbw b7)
 have HW7 : Below b w3 w7 := below_then HW0.out hbw b7
 clear TKr BT
 have EB := Hh (fun V => run_be1 V)
 have ez : (evC ⟨1, Adr.zero, 0, 0, []⟩ : List Value) = evC tick29 := rfl
 rw [ez] at EB
 clear HR HW0 b7 HBw hbw
 go_wp2_with fail
 go_loopw [9] (fun iv wx => ∃ j tk : Nat, j ≤ 2 * T ∧ j ≤ tk ∧ iv = .int .i64 j ∧ Hid (RunP w wx b g gl r nm kind tk (l.length + j) (totE l)) ∧ Below b w3 wx) (fun iv _ => 2 * T - (intOf iv).toNat)
 case atStart => exact ⟨0, tk, Nat.zero_le _, Nat.zero_le _, rfl, HR7, HW7⟩
 clear HR7 HW7 hlt hlt'
 obtain ⟨j, tk, hj, htk, rfl, HR, HW⟩ := hrel
 have hbw : b ≤ wr.heap.size := by have := HW.size; rw [hb.out] at this; exact this
 by_cases hlt : j < 2 * T
 case pos =>
  have hlt' : (j : Int) < 2 * T := by omega
  have HC := Hh (HR.out.hear tick29 rfl (by show totE l + 0 ≤ 8796093022208; omega) (by omega) hbw hnm)
  rw [show (tk + if tick29.kind = 1 then 1 else 0) = tk + 1 from rfl, show totE l + tick29.data.length = totE l from rfl] at HC
  unfold HpRet at HC
  clear HR
  generalize evC tick29 = ek at *
  go_wp2_with (refine at_op (.build 42 #[(0, .const (.int .i64 1))]) rfl ?_; go_must (refine wpList_bld rfl 42 _ rfl #[(0, .int .i64 1)] (by simp [Act.eval, Act.put]) (EB.out _) ?_))
  refine HC.out.mono ?_
  rintro _ w6 ⟨v6, rfl, hR6, b6⟩
  have HR6 := Hh hR6
  have H6 : Below b w3 w6 := HW.trans b6
  clear HC hR6 b6 HW
  go_wp2_with fail
  go_roundw
  case rel => exact ⟨j + 1, tk + 1, by omega, by omega, by go_num, HR6, H6⟩
  case measure => simp [intOf]; omega
 have hlt' : ¬ (j : Int) < 2 * T := by omega
 obtain ⟨p, sn, hpt, hsn, RES, REST⟩ := HR.out.over hnm hbw (by rw [hT.out]; omega)
 have RES := Hh RES
 have REST := Hh REST
 have HWx := Hh HW
 have MO := Hh (fun V (hV : Below w.heap.size w V) => most_any w cs r V HRS.out hV)
 have hmo := (ticks_le r).2
 generalize mostR r = mm at *
 clear HR EB HW hM hj htk hlt hdl htot hl80 hT1
 go_wp2_with fail
 refine RES.out.mono ?_
 rintro _ w8 ⟨vd, va, vn, ttl, xs, rfl, hvn, hO, hRP, b8⟩
 obtain ⟨Ax, cx, hva⟩ := hO.form
 subst hva
 obtain ⟨v1, v5, hvd, hnd, hln, hall⟩ := hRP
 have k9 : Below wr.heap.size wr (w8.alloc (.cells resZ.toArray 137)) := b8.alloc b8.size _
 have B9 := Blk.new w8 137 resZ
 have bE : Below w8.heap.size w8 (w8.alloc (.cells resZ.toArray 137)) := (Below.refl _ _).alloc (Nat.le_refl _) _
 have hrl : (0 < xs.length) ↔ vd = 1 := by rw [← hvd, List.length_pos_iff]
 obtain ⟨nx, hnx⟩ : ∃ nx, Hid (xs.length = nx) := ⟨_, Hh rfl⟩
 have HOX := Hh hO
 rw [hnx.out] at hrl hln ⊢
 have hone : ∀ v ∈ [Value.int .i64 vd, .slice Ax nx cx, vn, .int .i64 ttl], v.oneCell' = true := by
  intro v hv
  simp only [List.mem_cons, List.not_mem_nil, or_false] at hv
  rcases hv with rfl | rfl | rfl | rfl
  ·
   rfl
  ·
   rfl
  ·
   exact hvn
  ·
   rfl
 have HALL := Hh hall
 have HRL := Hh hrl
 have HND := Hh hnd
 clear RES hvd hO hall hnd hrl
 go_wp2_with (refine at_op (.store 137 (.tmp 10) (.tmp 68)) rfl ?_; go_must (refine wpList_stB rfl _ _ _ rfl w8.heap.size 0 rfl [.int .i64 vd, .slice Ax nx cx, vn, .int .i64 ttl] rfl B9 (Nat.le_refl 4) pres4 hone ?_))
 intro w9 B9' g9 s9
 have BR : Blk w9 w8.heap.size 137 [.int .i64 vd, .slice Ax nx cx, vn, .int .i64 ttl] := by simpa [resZ] using B9'
 have k10 : Below w8.heap.size w8 w9 := below_grown bE g9 bE.size (Nat.le_refl _)
 have k11 := below_then b8 b8.size k10
 have HW9 : Below b w3 w9 := below_then HWx.out hbw k11
 obtain ⟨gR, hgR⟩ : ∃ gR, Hid (w8.heap.size = gR) := ⟨_, Hh rfl⟩
 rw [hgR.out] at BR ⊢
 have H9w : Below w.heap.size w w9 := below_then H3'.out H3'.out.size (by rw [hb.out]; exact HW9)
 have BT := B3'.out.below (by rw [hb.out]; exact HW9 : Below w3.heap.size w3 w9) B3'.out.lt
 have LV0 : Hid (∀ V, Below w9.heap.size w9 V → (Instr.loadAt 3 (.pointer (some ⟨gR, 0, none⟩))).run prog V = .ok (.int .i64 vd) V) := Hh (fun V hV => run_load1 underlying3 rfl ((BR.below hV BR.lt).cell_ 0 rfl))
 have LV1 : Hid (∀ V, Below w9.heap.size w9 V → (Instr.loadAt 65 (.pointer (some ⟨gR, 1, none⟩))).run prog V = .ok (.slice Ax nx cx) V) := Hh (fun V hV => run_load1 underlying65 rfl ((BR.below hV BR.lt).cell_ 1 rfl))
 have LRS : Hid (∀ V, Below w9.heap.size w9 V → (Instr.loadAt 69 (.pointer (some ⟨w.heap.size, 0, none⟩))).run prog V = .ok (.agg cs.toArray) V) := Hh (fun V hV => (BT.below hV BT.lt).loads 69 0 10 (by omega) _ underlying69 rfl rsI10 _ HL0.out)
 have CDN := Hh (fun V (hV : Below w9.heap.size w9 V) => (REST.out V (below_then k11 k11.size hV)).1)
 have CSN := Hh (fun V (hV : Below w9.heap.size w9 V) => (REST.out V (below_then k11 k11.size hV)).2)
 have CMO := Hh (fun V (hV : Below w9.heap.size w9 V) => MO.out V (below_then H9w H9w.size hV))
 have K10 := Hh k10
 have HBR := Hh BR
 have H9H := Hh H9w
 have HBT := Hh BT
 have hw98 := k10.size
 clear REST MO HWx B9 B9' g9 s9 bE k9 k10 k11 b8 hbw hone BT H9w BR
 go_upto_region 16 with fail
 go_cut [100] (fun v wx => v = .bool false ∧ Below w9.heap.size w9 wx)
 case first =>
  obtain ⟨b1, hb1, hb2⟩ : ∃ b1 : Bool, decide (0 < nx) = b1 ∧ (vd == 1) = b1 := by
   by_cases hv : vd = 1
   ·
    have h0 := HRL.out.2 hv
    refine ⟨true, decide_eq_true (by omega), by simp [hv]⟩
   ·
    have h0 : ¬ 0 < nx := fun c => hv (HRL.out.1 c)
    refine ⟨false, decide_eq_false (by omega), by simpa using hv⟩
  refine wp_region_old (by kernel_rfl) (by kernel_rfl) ?_
  (refine wpQuiet_val (v := (.pointer (some ⟨g, 0, none⟩))) rfl (fun W hW => by first | (go_simp; done) | (go_simp; omega)) ?_; simp only [Act.put, lsA, lsB, lsC])
  refine wpQuiet_call (v := .bool true) 67 #[.pointer (some ⟨g, 0, none⟩)] rfl (fun W => by go_simp) (fun W hW => RetB.old hW (CDN.out W hW)) ?_
  simp only [Act.put, lsA, lsB, lsC]
  (refine wpQuiet_val (v := (.bool false)) rfl (fun W hW => by first | (go_simp; done) | (go_simp; omega)) ?_; simp only [Act.put, lsA, lsB, lsC])
  (refine wpQuiet_val (v := (.bool false)) rfl (fun W hW => by first | (go_simp; done) | (go_simp; omega)) ?_; simp only [Act.put, lsA, lsB, lsC])
  (refine wpQuiet_val (v := (.pointer (some ⟨gR, 0, none⟩))) rfl (fun W hW => by first | (go_simp; done) | (go_simp; omega)) ?_; simp only [Act.put, lsA, lsB, lsC])
  refine wpQuiet_ld (v := .int .i64 vd) 3 (.tmp 73) rfl ⟨gR, 0, none⟩ rfl rfl (fun V hV => LV0.out V hV) ?_
  simp only [Act.put, lsA, lsB, lsC]
  (refine wpQuiet_val (v := (.bool false)) rfl (fun W hW => by first | (go_simp; done) | (go_simp; omega)) ?_; simp only [Act.put, lsA, lsB, lsC])
  (refine wpQuiet_val (v := (.bool false)) rfl (fun W hW => by first | (go_simp; done) | (go_simp; omega)) ?_; simp only [Act.put, lsA, lsB, lsC])
  (refine wpQuiet_val (v := (.bool false)) rfl (fun W hW => by first | (go_simp; done) | (go_simp; omega)) ?_; simp only [Act.put, lsA, lsB, lsC])
  (refine wpQuiet_val (v := (.pointer (some ⟨gR, 0, none⟩))) rfl (fun W hW => by first | (go_simp; done) | (go_simp; omega)) ?_; simp only [Act.put, lsA, lsB, lsC])
  refine wpQuiet_ld (v := .int .i64 vd) 3 (.tmp 78) rfl ⟨gR, 0, none⟩ rfl rfl (fun V hV => LV0.out V hV) ?_
  simp only [Act.put, lsA, lsB, lsC]
  (refine wpQuiet_val (v := (.bool false)) rfl (fun W hW => by first | (go_simp; done) | (go_simp; omega)) ?_; simp only [Act.put, lsA, lsB, lsC])
  (refine wpQuiet_val (v := (.bool false)) rfl (fun W hW => by first | (go_simp; done) | (go_simp; omega)) ?_; simp only [Act.put, lsA, lsB, lsC])
  (refine wpQuiet_val (v := (.bool false)) rfl (fun W hW => by first | (go_simp; done) | (go_simp; omega)) ?_; simp only [Act.put, lsA, lsB, lsC])
  (refine wpQuiet_val (v := (.pointer (some ⟨gR, 1, none⟩))) rfl (fun W hW => by first | (go_simp; done) | (go_simp; omega)) ?_; simp only [Act.put, lsA, lsB, lsC])
  refine wpQuiet_ld (v := .slice Ax nx cx) 65 (.tmp 83) rfl ⟨gR, 1, none⟩ rfl rfl (fun V hV => LV1.out V hV) ?_
  simp only [Act.put, lsA, lsB, lsC]
  (refine wpQuiet_val (v := (.int .i64 nx)) rfl (fun W hW => by first | (go_simp; done) | (go_simp; omega)) ?_; simp only [Act.put, lsA, lsB, lsC])
  refine wpQuiet_val (v := .bool b1) rfl (fun W hW => by first | (go_simp; done) | (go_simp; exact hb1)) ?_
  simp only [Act.put, lsA, lsB, lsC]
  (refine wpQuiet_val (v := (.pointer (some ⟨gR, 0, none⟩))) rfl (fun W hW => by first | (go_simp; done) | (go_simp; omega)) ?_; simp only [Act.put, lsA, lsB, lsC])
  refine wpQuiet_ld (v := .int .i64 vd) 3 (.tmp 87) rfl ⟨gR, 0, none⟩ rfl rfl (fun V hV => LV0.out V hV) ?_
  simp only [Act.put, lsA, lsB, lsC]
  refine wpQuiet_val (v := .bool b1) rfl (fun W hW => by first | (go_simp; done) | (go_simp; exact hb2)) ?_
  simp only [Act.put, lsA, lsB, lsC]
  refine wpQuiet_val (v := .bool false) rfl (fun W hW => by cases b1 <;> go_simp) ?_
  simp only [Act.put, lsA, lsB, lsC]
  (refine wpQuiet_val (v := (.bool false)) rfl (fun W hW => by first | (go_simp; done) | (go_simp; omega)) ?_; simp only [Act.put, lsA, lsB, lsC])
  (refine wpQuiet_val (v := (.bool false)) rfl (fun W hW => by first | (go_simp; done) | (go_simp; omega)) ?_; simp only [Act.put, lsA, lsB, lsC])
  (refine wpQuiet_val (v := (.pointer (some ⟨g, 0, none⟩))) rfl (fun W hW => by first | (go_simp; done) | (go_simp; omega)) ?_; simp only [Act.put, lsA, lsB, lsC])
  refine wpQuiet_call (v := .int .i64 sn) 68 #[.pointer (some ⟨g, 0, none⟩)] rfl (fun W => by go_simp) (fun W hW => Ret.old hW (CSN.out W hW)) ?_
  simp only [Act.put, lsA, lsB, lsC]
  (refine wpQuiet_val (v := (.pointer (some ⟨w.heap.size, 0, none⟩))) rfl (fun W hW => by first | (go_simp; done) | (go_simp; omega)) ?_; simp only [Act.put, lsA, lsB, lsC])
  refine wpQuiet_ld (v := .agg cs.toArray) 69 (.tmp 95) rfl ⟨w.heap.size, 0, none⟩ rfl rfl (fun V hV => LRS.out V hV) ?_
  simp only [Act.put, lsA, lsB, lsC]
  refine wpQuiet_call (v := .int .i64 mm) 69 #[.agg cs.toArray] rfl (fun W => by go_simp) (fun W hW => RetB.old hW (CMO.out W hW)) ?_
  simp only [Act.put, lsA, lsB, lsC]
  refine wpQuiet_val (v := .int .i64 (2 * (mm : Int))) rfl (fun W hW => by go_simp; exact IntWalk.i64_in _ (by omega)) ?_
  simp only [Act.put, lsA, lsB, lsC]
  (refine wpQuiet_val (v := (.bool false)) rfl (fun W hW => by first | (go_simp; done) | (go_simp; omega)) ?_; simp only [Act.put, lsA, lsB, lsC])
  (refine wpQuiet_val (v := (.bool false)) rfl (fun W hW => by first | (go_simp; done) | (go_simp; omega)) ?_; simp only [Act.put, lsA, lsB, lsC])
  refine wpQuiet_nil ?_
  intro w11 b11
  go_wp2_with fail
  go_meet
  case rel => exact ⟨rfl, b11⟩
 obtain ⟨rfl, k12⟩ := hcut
 obtain ⟨w10, rfl⟩ : ∃ w10, w10 = wc := ⟨_, rfl⟩
 clear CDN CSN CMO LV0 LRS
 have LKD : Hid (∀ V, Below w9.heap.size w9 V → (Instr.loadAt 3 (.pointer (some ⟨w.heap.size, 11, none⟩))).run prog V = .ok (.int .i64 kind) V) := Hh (fun V hV => run_load1 underlying3 rfl ((HBT.out.below hV HBT.out.lt).cell_ 11 HL11.out))
 go_wp2_with fail
 go_loopw [11] (fun iv wx => ∃ i : Nat, i ≤ nx ∧ iv = .int .i64 i ∧ Below w9.heap.size w9 wx) (fun iv _ => nx - (intOf iv).toNat)
 case atStart => exact ⟨0, Nat.zero_le _, rfl, k12⟩
 clear k12
 obtain ⟨i, hi, rfl, HK⟩ := hrel
 have c1 := (HBR.out.below HK HBR.out.lt).cell_ 1 (u := .slice Ax nx cx) rfl
 have HKs := HK.size
 by_cases hlt : i < nx
 case neg =>
  have hlt' : ¬ (i : Int) < nx := by omega
  go_wp2_with fail
  go_ret
  exact RetB.mk rfl (below_then H9H.out H9H.out.size HK)
 have hlt' : (i : Int) < nx := by omega
 have hlp : i < xs.length := by rw [hnx.out]; exact hlt
 obtain ⟨bx, ox, hAx, hbx, hrow⟩ := LOwn.lin (R := AdI) (k := 18) (fun _ _ h => h.len) HOX.out (by omega)
 obtain ⟨xc, hxc, hxe, hip⟩ := hrow i hlp
 have hcap : nx ≤ cx := by
  obtain ⟨css, ho, _⟩ := HOX.out
  rcases ho.2 with ⟨hv, h0⟩ | ⟨g', cap, cur, hv, _, _, hcp, _⟩
  ·
   omega
  ·
   injection hv with _ _ hv
   rw [hnx.out] at hcp
   omega
 obtain ⟨-, ty, hty, hfm⟩ := HALL.out _ (List.getElem_mem hlp)
 have hno : xs[i] ∉ xs.take i := by
  intro hm
  obtain ⟨j, hj, e⟩ := List.mem_iff_getElem.1 hm
  have hji : j < i := by rw [List.length_take] at hj; omega
  rw [List.getElem_take] at e
  have := (List.getElem_inj (h₀ := by omega) (h₁ := hlp) HND.out).1 e
  omega
 have hti : (xs.take i).length = i := by rw [List.length_take]; omega
 have k8w : Below w8.heap.size w8 wr := below_then K10.out K10.out.size HK
 have hAR : AdsR w8 (some ⟨bx, ox, none⟩) (xs.take i) := fun _ => ⟨bx, ox, rfl, hbx, fun j hj => by
  have hji : j < xs.length := by rw [hti] at hj; omega
  obtain ⟨cj, q1, q2⟩ := hrow j hji
  exact ⟨cj, q1, by rw [List.getElem_take]; exact q2⟩⟩
 have HAS : Hid (∀ V, Below wr.heap.size wr V → Calls prog 70 #[.slice (some ⟨bx, ox, none⟩) i cx, .agg xc.toArray] V (RetB (.bool false) V)) := Hh (fun V hV => by
  have := has18_no (some ⟨bx, ox, none⟩) cx (xs.take i) xs[i] V (hAR.mono (below_then k8w k8w.size hV) (fun _ _ h => h)) hip (by omega) hno
  rw [hti, ← hxe] at this
  exact this)
 have LXC : Hid (∀ V, Below wr.heap.size wr V → (Instr.loadAt 24 (.pointer (some ⟨bx, ox + i * 18, none⟩))).run prog V = .ok (.agg xc.toArray) V) := Hh (fun V hV => rangeK_loads (range_below (range_below hxc k8w hbx) hV (Nat.lt_of_lt_of_le hbx k8w.size)) underlying24 rfl (by rw [hxe, Adr.cells_len _ hip]; exact adI18))
 obtain ⟨f, hf⟩ : ∃ f, xs[i].fam = f := ⟨_, rfl⟩
 have c0 : wr.cell? ⟨bx, ox + i * 18, none⟩ = some (.int .i64 f) := by
  have := range_below hxc k8w hbx 0 (.int .i64 f) (by rw [hxe, ← hf]; rfl)
  simpa using this
 rw [hf] at hfm
 have FK : Hid ((kind = 4 → f = 4) ∧ (kind = 6 → f = 6) ∧ (f = 4 ∨ f = 6)) := Hh (by
  rw [hpt] at hty
  refine ⟨fun e => ?_, fun e => ?_, by rcases hfm with ⟨_, h⟩ | ⟨_, h⟩ <;> omega⟩
  ·
   subst e
   have : ty = 1 := by simpa [tysF] using hty
   rcases hfm with ⟨h1, h2⟩ | ⟨h1, h2⟩ <;> omega
  ·
   subst e
   have : ty = 28 := by simpa [tysF] using hty
   rcases hfm with ⟨h1, h2⟩ | ⟨h1, h2⟩ <;> omega)
 have hic : i ≤ cx := by omega
 subst hAx
 clear hrow hxc hxe hip hno hti k8w hAR hf hfm hty hlp
 go_wp2_with fail
 refine wp_region_old (by kernel_rfl) (by kernel_rfl) ?_
 obtain ⟨F4, F6, F0⟩ := FK.out
 clear FK
 by_cases h4 : kind = 4
 case pos =>
  have hf4 := F4 h4
  subst hf4
  clear F4 F6 F0
  (refine wpQuiet_val (v := (.pointer (some ⟨w.heap.size, 11, none⟩))) rfl (fun W hW => by first | (go_simp; done) | (go_simp; omega)) ?_; simp only [Act.put, lsA, lsB, lsC])
  refine wpQuiet_ld (v := .int .i64 kind) 3 (.tmp 114) rfl ⟨w.heap.size, 11, none⟩ rfl rfl (fun V hV => LKD.out V (below_then HK HKs hV)) ?_
  simp only [Act.put, lsA, lsB, lsC]
  (refine wpQuiet_val (v := (.bool true)) rfl (fun W hW => by first | (go_simp; done) | (go_simp; omega)) ?_; simp only [Act.put, lsA, lsB, lsC])
  (refine wpQuiet_val (v := (.bool true)) rfl (fun W hW => by first | (go_simp; done) | (go_simp; omega)) ?_; simp only [Act.put, lsA, lsB, lsC])
  (refine wpQuiet_not rfl ?_; simp only [Act.put, lsA, lsB, lsC])
  (refine wpQuiet_not rfl ?_; simp only [Act.put, lsA, lsB, lsC])
  (refine wpQuiet_not rfl ?_; simp only [Act.put, lsA, lsB, lsC])
  (refine wpQuiet_val (v := (.bool true)) rfl (fun W hW => by first | (go_simp; done) | (go_simp; omega)) ?_; simp only [Act.put, lsA, lsB, lsC])
  (refine wpQuiet_val (v := (.bool true)) rfl (fun W hW => by first | (go_simp; done) | (go_simp; omega)) ?_; simp only [Act.put, lsA, lsB, lsC])
  (refine wpQuiet_val (v := (.int .i64 4)) rfl (fun W hW => by first | (go_simp; done) | (go_simp; omega)) ?_; simp only [Act.put, lsA, lsB, lsC])
  (refine wpQuiet_val (v := (.pointer (some ⟨w.heap.size, 11, none⟩))) rfl (fun W hW => by first | (go_simp; done) | (go_simp; omega)) ?_; simp only [Act.put, lsA, lsB, lsC])
  refine wpQuiet_ld (v := .int .i64 kind) 3 (.tmp 124) rfl ⟨w.heap.size, 11, none⟩ rfl rfl (fun V hV => LKD.out V (below_then HK HKs hV)) ?_
  simp only [Act.put, lsA, lsB, lsC]
  (refine wpQuiet_val (v := (.bool false)) rfl (fun W hW => by first | (go_simp; done) | (go_simp; omega)) ?_; simp only [Act.put, lsA, lsB, lsC])
  (refine wpQuiet_val (v := (.bool false)) rfl (fun W hW => by first | (go_simp; done) | (go_simp; omega)) ?_; simp only [Act.put, lsA, lsB, lsC])
  (refine wpQuiet_val (v := (.bool false)) rfl (fun W hW => by first | (go_simp; done) | (go_simp; omega)) ?_; simp only [Act.put, lsA, lsB, lsC])
  (refine wpQuiet_val (v := (.int .i64 4)) rfl (fun W hW => by first | (go_simp; done) | (go_simp; omega)) ?_; simp only [Act.put, lsA, lsB, lsC])
  (refine wpQuiet_val (v := (.bool false)) rfl (fun W hW => by first | (go_simp; done) | (go_simp; omega)) ?_; simp only [Act.put, lsA, lsB, lsC])
  (refine wpQuiet_val (v := (.bool false)) rfl (fun W hW => by first | (go_simp; done) | (go_simp; omega)) ?_; simp only [Act.put, lsA, lsB, lsC])
  (refine wpQuiet_not rfl ?_; simp only [Act.put, lsA, lsB, lsC])
  (refine wpQuiet_not rfl ?_; simp only [Act.put, lsA, lsB, lsC])
  (refine wpQuiet_val (v := (.bool false)) rfl (fun W hW => by first | (go_simp; done) | (go_simp; omega)) ?_; simp only [Act.put, lsA, lsB, lsC])
  (refine wpQuiet_val (v := (.bool false)) rfl (fun W hW => by first | (go_simp; done) | (go_simp; omega)) ?_; simp only [Act.put, lsA, lsB, lsC])
  (refine wpQuiet_val (v := (.bool false)) rfl (fun W hW => by first | (go_simp; done) | (go_simp; omega)) ?_; simp only [Act.put, lsA, lsB, lsC])
  (refine wpQuiet_val (v := (.pointer (some ⟨gR, 1, none⟩))) rfl (fun W hW => by first | (go_simp; done) | (go_simp; omega)) ?_; simp only [Act.put, lsA, lsB, lsC])
  refine wpQuiet_ld (v := .slice (some ⟨bx, ox, none⟩) nx cx) 65 (.tmp 137) rfl ⟨gR, 1, none⟩ rfl rfl (fun V hV => LV1.out V (below_then HK HKs hV)) ?_
  simp only [Act.put, lsA, lsB, lsC]
  (refine wpQuiet_val (v := (.int .i64 i)) rfl (fun W hW => by first | (go_simp; done) | (go_simp; omega)) ?_; simp only [Act.put, lsA, lsB, lsC])
  (refine wpQuiet_val (v := (.slice (some ⟨bx, ox, none⟩) i cx)) rfl (fun W hW => by first | (go_simp; done) | (go_simp; omega)) ?_; simp only [Act.put, lsA, lsB, lsC])
  (refine wpQuiet_val (v := (.pointer (some ⟨gR, 1, none⟩))) rfl (fun W hW => by first | (go_simp; done) | (go_simp; omega)) ?_; simp only [Act.put, lsA, lsB, lsC])
  refine wpQuiet_ld (v := .slice (some ⟨bx, ox, none⟩) nx cx) 65 (.tmp 141) rfl ⟨gR, 1, none⟩ rfl rfl (fun V hV => LV1.out V (below_then HK HKs hV)) ?_
  simp only [Act.put, lsA, lsB, lsC]
  (refine wpQuiet_val (v := (.int .i64 i)) rfl (fun W hW => by first | (go_simp; done) | (go_simp; omega)) ?_; simp only [Act.put, lsA, lsB, lsC])
  refine wpQuiet_val (v := .pointer (some ⟨bx, ox + i * 18, none⟩)) rfl (fun W hW => exec_ixK underlying65 adI18 (by omega) (.tmp 142) (.tmp 143) rfl rfl rfl hlt W) ?_
  simp only [Act.put, lsA, lsB, lsC]
  refine wpQuiet_ld (v := .agg xc.toArray) 24 (.tmp 144) rfl ⟨bx, ox + i * 18, none⟩ rfl rfl (fun V hV => LXC.out V hV) ?_
  simp only [Act.put, lsA, lsB, lsC]
  refine wpQuiet_call (v := .bool false) 70 #[.slice (some ⟨bx, ox, none⟩) i cx, .agg xc.toArray] rfl (fun W => by go_simp) (fun W hW => RetB.old hW (HAS.out W hW)) ?_
  simp only [Act.put, lsA, lsB, lsC]
  (refine wpQuiet_val (v := (.bool false)) rfl (fun W hW => by first | (go_simp; done) | (go_simp; omega)) ?_; simp only [Act.put, lsA, lsB, lsC])
  refine wpQuiet_nil ?_
  intro w11 b11
  have r1 := below_then HK HKs b11
  clear LXC HAS HK b11 c0 c1
  go_wp2_with fail
  go_roundw
  case rel => exact ⟨i + 1, by omega, by go_num, r1⟩
  case measure => simp [intOf]; omega
 case neg =>
  (refine wpQuiet_val (v := (.pointer (some ⟨w.heap.size, 11, none⟩))) rfl (fun W hW => by first | (go_simp; done) | (go_simp; omega)) ?_; simp only [Act.put, lsA, lsB, lsC])
  refine wpQuiet_ld (v := .int .i64 kind) 3 (.tmp 114) rfl ⟨w.heap.size, 11, none⟩ rfl rfl (fun V hV => LKD.out V (below_then HK HKs hV)) ?_
  simp only [Act.put, lsA, lsB, lsC]
  (refine wpQuiet_val (v := (.bool false)) rfl (fun W hW => by first | (go_simp; done) | (go_simp; omega)) ?_; simp only [Act.put, lsA, lsB, lsC])
  (refine wpQuiet_val (v := (.bool false)) rfl (fun W hW => by first | (go_simp; done) | (go_simp; omega)) ?_; simp only [Act.put, lsA, lsB, lsC])
  (refine wpQuiet_val (v := (.pointer (some ⟨w.heap.size, 11, none⟩))) rfl (fun W hW => by first | (go_simp; done) | (go_simp; omega)) ?_; simp only [Act.put, lsA, lsB, lsC])
  refine wpQuiet_ld (v := .int .i64 kind) 3 (.tmp 118) rfl ⟨w.heap.size, 11, none⟩ rfl rfl (fun V hV => LKD.out V (below_then HK HKs hV)) ?_
  simp only [Act.put, lsA, lsB, lsC]
  by_cases h6 : kind = 6
  case pos =>
   have hf6 := F6 h6
   subst hf6
   clear F4 F6 F0
   (refine wpQuiet_val (v := (.bool true)) rfl (fun W hW => by first | (go_simp; done) | (go_simp; omega)) ?_; simp only [Act.put, lsA, lsB, lsC])
   (refine wpQuiet_val (v := (.bool true)) rfl (fun W hW => by first | (go_simp; done) | (go_simp; omega)) ?_; simp only [Act.put, lsA, lsB, lsC])
   (refine wpQuiet_val (v := (.bool true)) rfl (fun W hW => by first | (go_simp; done) | (go_simp; omega)) ?_; simp only [Act.put, lsA, lsB, lsC])
   (refine wpQuiet_val (v := (.int .i64 6)) rfl (fun W hW => by first | (go_simp; done) | (go_simp; omega)) ?_; simp only [Act.put, lsA, lsB, lsC])
   (refine wpQuiet_val (v := (.pointer (some ⟨w.heap.size, 11, none⟩))) rfl (fun W hW => by first | (go_simp; done) | (go_simp; omega)) ?_; simp only [Act.put, lsA, lsB, lsC])
   refine wpQuiet_ld (v := .int .i64 kind) 3 (.tmp 124) rfl ⟨w.heap.size, 11, none⟩ rfl rfl (fun V hV => LKD.out V (below_then HK HKs hV)) ?_
   simp only [Act.put, lsA, lsB, lsC]
   (refine wpQuiet_val (v := (.bool false)) rfl (fun W hW => by first | (go_simp; done) | (go_simp; omega)) ?_; simp only [Act.put, lsA, lsB, lsC])
   (refine wpQuiet_val (v := (.bool false)) rfl (fun W hW => by first | (go_simp; done) | (go_simp; omega)) ?_; simp only [Act.put, lsA, lsB, lsC])
   (refine wpQuiet_val (v := (.bool false)) rfl (fun W hW => by first | (go_simp; done) | (go_simp; omega)) ?_; simp only [Act.put, lsA, lsB, lsC])
   (refine wpQuiet_val (v := (.int .i64 6)) rfl (fun W hW => by first | (go_simp; done) | (go_simp; omega)) ?_; simp only [Act.put, lsA, lsB, lsC])
   (refine wpQuiet_val (v := (.bool true)) rfl (fun W hW => by first | (go_simp; done) | (go_simp; omega)) ?_; simp only [Act.put, lsA, lsB, lsC])
   (refine wpQuiet_val (v := (.bool true)) rfl (fun W hW => by first | (go_simp; done) | (go_simp; omega)) ?_; simp only [Act.put, lsA, lsB, lsC])
   (refine wpQuiet_val (v := (.int .i64 6)) rfl (fun W hW => by first | (go_simp; done) | (go_simp; omega)) ?_; simp only [Act.put, lsA, lsB, lsC])
   (refine wpQuiet_val (v := (.bool false)) rfl (fun W hW => by first | (go_simp; done) | (go_simp; omega)) ?_; simp only [Act.put, lsA, lsB, lsC])
   (refine wpQuiet_val (v := (.bool false)) rfl (fun W hW => by first | (go_simp; done) | (go_simp; omega)) ?_; simp only [Act.put, lsA, lsB, lsC])
   (refine wpQuiet_val (v := (.bool false)) rfl (fun W hW => by first | (go_simp; done) | (go_simp; omega)) ?_; simp only [Act.put, lsA, lsB, lsC])
   (refine wpQuiet_val (v := (.bool false)) rfl (fun W hW => by first | (go_simp; done) | (go_simp; omega)) ?_; simp only [Act.put, lsA, lsB, lsC])
   (refine wpQuiet_val (v := (.pointer (some ⟨gR, 1, none⟩))) rfl (fun W hW => by first | (go_simp; done) | (go_simp; omega)) ?_; simp only [Act.put, lsA, lsB, lsC])
   refine wpQuiet_ld (v := .slice (some ⟨bx, ox, none⟩) nx cx) 65 (.tmp 137) rfl ⟨gR, 1, none⟩ rfl rfl (fun V hV => LV1.out V (below_then HK HKs hV)) ?_
   simp only [Act.put, lsA, lsB, lsC]
   (refine wpQuiet_val (v := (.int .i64 i)) rfl (fun W hW => by first | (go_simp; done) | (go_simp; omega)) ?_; simp only [Act.put, lsA, lsB, lsC])
   (refine wpQuiet_val (v := (.slice (some ⟨bx, ox, none⟩) i cx)) rfl (fun W hW => by first | (go_simp; done) | (go_simp; omega)) ?_; simp only [Act.put, lsA, lsB, lsC])
   (refine wpQuiet_val (v := (.pointer (some ⟨gR, 1, none⟩))) rfl (fun W hW => by first | (go_simp; done) | (go_simp; omega)) ?_; simp only [Act.put, lsA, lsB, lsC])
   refine wpQuiet_ld (v := .slice (some ⟨bx, ox, none⟩) nx cx) 65 (.tmp 141) rfl ⟨gR, 1, none⟩ rfl rfl (fun V hV => LV1.out V (below_then HK HKs hV)) ?_
   simp only [Act.put, lsA, lsB, lsC]
   (refine wpQuiet_val (v := (.int .i64 i)) rfl (fun W hW => by first | (go_simp; done) | (go_simp; omega)) ?_; simp only [Act.put, lsA, lsB, lsC])
   refine wpQuiet_val (v := .pointer (some ⟨bx, ox + i * 18, none⟩)) rfl (fun W hW => exec_ixK underlying65 adI18 (by omega) (.tmp 142) (.tmp 143) rfl rfl rfl hlt W) ?_
   simp only [Act.put, lsA, lsB, lsC]
   refine wpQuiet_ld (v := .agg xc.toArray) 24 (.tmp 144) rfl ⟨bx, ox + i * 18, none⟩ rfl rfl (fun V hV => LXC.out V hV) ?_
   simp only [Act.put, lsA, lsB, lsC]
   refine wpQuiet_call (v := .bool false) 70 #[.slice (some ⟨bx, ox, none⟩) i cx, .agg xc.toArray] rfl (fun W => by go_simp) (fun W hW => RetB.old hW (HAS.out W hW)) ?_
   simp only [Act.put, lsA, lsB, lsC]
   (refine wpQuiet_val (v := (.bool false)) rfl (fun W hW => by first | (go_simp; done) | (go_simp; omega)) ?_; simp only [Act.put, lsA, lsB, lsC])
   refine wpQuiet_nil ?_
   intro w11 b11
   have r1 := below_then HK HKs b11
   clear LXC HAS HK b11 c0 c1
   go_wp2_with fail
   go_roundw
   case rel => exact ⟨i + 1, by omega, by go_num, r1⟩
   case measure => simp [intOf]; omega
  case neg =>
   (refine wpQuiet_val (v := (.bool false)) rfl (fun W hW => by first | (go_simp; done) | (go_simp; omega)) ?_; simp only [Act.put, lsA, lsB, lsC])
   (refine wpQuiet_val (v := (.bool false)) rfl (fun W hW => by first | (go_simp; done) | (go_simp; omega)) ?_; simp only [Act.put, lsA, lsB, lsC])
   (refine wpQuiet_val (v := (.bool false)) rfl (fun W hW => by first | (go_simp; done) | (go_simp; omega)) ?_; simp only [Act.put, lsA, lsB, lsC])
   (refine wpQuiet_not rfl ?_; simp only [Act.put, lsA, lsB, lsC])
   (refine wpQuiet_not rfl ?_; simp only [Act.put, lsA, lsB, lsC])
   (refine wpQuiet_not rfl ?_; simp only [Act.put, lsA, lsB, lsC])
   (refine wpQuiet_not rfl ?_; simp only [Act.put, lsA, lsB, lsC])
   (refine wpQuiet_val (v := (.bool false)) rfl (fun W hW => by first | (go_simp; done) | (go_simp; omega)) ?_; simp only [Act.put, lsA, lsB, lsC])
   (refine wpQuiet_val (v := (.bool false)) rfl (fun W hW => by first | (go_simp; done) | (go_simp; omega)) ?_; simp only [Act.put, lsA, lsB, lsC])
   (refine wpQuiet_val (v := (.int .i64 f)) rfl (fun W hW => by first | (go_simp; done) | (go_simp; omega)) ?_; simp only [Act.put, lsA, lsB, lsC])
   clear F4 F6
   rcases F0 with hf | hf
   ·
    subst hf
    (refine wpQuiet_val (v := (.bool false)) rfl (fun W hW => by first | (go_simp; done) | (go_simp; omega)) ?_; simp only [Act.put, lsA, lsB, lsC])
    (refine wpQuiet_val (v := (.bool false)) rfl (fun W hW => by first | (go_simp; done) | (go_simp; omega)) ?_; simp only [Act.put, lsA, lsB, lsC])
    (refine wpQuiet_not rfl ?_; simp only [Act.put, lsA, lsB, lsC])
    (refine wpQuiet_not rfl ?_; simp only [Act.put, lsA, lsB, lsC])
    (refine wpQuiet_val (v := (.bool false)) rfl (fun W hW => by first | (go_simp; done) | (go_simp; omega)) ?_; simp only [Act.put, lsA, lsB, lsC])
    (refine wpQuiet_val (v := (.bool false)) rfl (fun W hW => by first | (go_simp; done) | (go_simp; omega)) ?_; simp only [Act.put, lsA, lsB, lsC])
    (refine wpQuiet_val (v := (.bool false)) rfl (fun W hW => by first | (go_simp; done) | (go_simp; omega)) ?_; simp only [Act.put, lsA, lsB, lsC])
    (refine wpQuiet_val (v := (.pointer (some ⟨gR, 1, none⟩))) rfl (fun W hW => by first | (go_simp; done) | (go_simp; omega)) ?_; simp only [Act.put, lsA, lsB, lsC])
    refine wpQuiet_ld (v := .slice (some ⟨bx, ox, none⟩) nx cx) 65 (.tmp 137) rfl ⟨gR, 1, none⟩ rfl rfl (fun V hV => LV1.out V (below_then HK HKs hV)) ?_
    simp only [Act.put, lsA, lsB, lsC]
    (refine wpQuiet_val (v := (.int .i64 i)) rfl (fun W hW => by first | (go_simp; done) | (go_simp; omega)) ?_; simp only [Act.put, lsA, lsB, lsC])
    (refine wpQuiet_val (v := (.slice (some ⟨bx, ox, none⟩) i cx)) rfl (fun W hW => by first | (go_simp; done) | (go_simp; omega)) ?_; simp only [Act.put, lsA, lsB, lsC])
    (refine wpQuiet_val (v := (.pointer (some ⟨gR, 1, none⟩))) rfl (fun W hW => by first | (go_simp; done) | (go_simp; omega)) ?_; simp only [Act.put, lsA, lsB, lsC])
    refine wpQuiet_ld (v := .slice (some ⟨bx, ox, none⟩) nx cx) 65 (.tmp 141) rfl ⟨gR, 1, none⟩ rfl rfl (fun V hV => LV1.out V (below_then HK HKs hV)) ?_
    simp only [Act.put, lsA, lsB, lsC]
    (refine wpQuiet_val (v := (.int .i64 i)) rfl (fun W hW => by first | (go_simp; done) | (go_simp; omega)) ?_; simp only [Act.put, lsA, lsB, lsC])
    refine wpQuiet_val (v := .pointer (some ⟨bx, ox + i * 18, none⟩)) rfl (fun W hW => exec_ixK underlying65 adI18 (by omega) (.tmp 142) (.tmp 143) rfl rfl rfl hlt W) ?_
    simp only [Act.put, lsA, lsB, lsC]
    refine wpQuiet_ld (v := .agg xc.toArray) 24 (.tmp 144) rfl ⟨bx, ox + i * 18, none⟩ rfl rfl (fun V hV => LXC.out V hV) ?_
    simp only [Act.put, lsA, lsB, lsC]
    refine wpQuiet_call (v := .bool false) 70 #[.slice (some ⟨bx, ox, none⟩) i cx, .agg xc.toArray] rfl (fun W => by go_simp) (fun W hW => RetB.old hW (HAS.out W hW)) ?_
    simp only [Act.put, lsA, lsB, lsC]
    (refine wpQuiet_val (v := (.bool false)) rfl (fun W hW => by first | (go_simp; done) | (go_simp; omega)) ?_; simp only [Act.put, lsA, lsB, lsC])
    refine wpQuiet_nil ?_
    intro w11 b11
    have r1 := below_then HK HKs b11
    clear LXC HAS HK b11 c0 c1
    go_wp2_with fail
    go_roundw
    case rel => exact ⟨i + 1, by omega, by go_num, r1⟩
    case measure => simp [intOf]; omega
   ·
    subst hf
    (refine wpQuiet_val (v := (.bool true)) rfl (fun W hW => by first | (go_simp; done) | (go_simp; omega)) ?_; simp only [Act.put, lsA, lsB, lsC])
    (refine wpQuiet_val (v := (.bool true)) rfl (fun W hW => by first | (go_simp; done) | (go_simp; omega)) ?_; simp only [Act.put, lsA, lsB, lsC])
    (refine wpQuiet_val (v := (.int .i64 6)) rfl (fun W hW => by first | (go_simp; done) | (go_simp; omega)) ?_; simp only [Act.put, lsA, lsB, lsC])
    (refine wpQuiet_val (v := (.bool false)) rfl (fun W hW => by first | (go_simp; done) | (go_simp; omega)) ?_; simp only [Act.put, lsA, lsB, lsC])
    (refine wpQuiet_val (v := (.bool false)) rfl (fun W hW => by first | (go_simp; done) | (go_simp; omega)) ?_; simp only [Act.put, lsA, lsB, lsC])
    (refine wpQuiet_val (v := (.bool false)) rfl (fun W hW => by first | (go_simp; done) | (go_simp; omega)) ?_; simp only [Act.put, lsA, lsB, lsC])
    (refine wpQuiet_val (v := (.bool false)) rfl (fun W hW => by first | (go_simp; done) | (go_simp; omega)) ?_; simp only [Act.put, lsA, lsB, lsC])
    (refine wpQuiet_val (v := (.pointer (some ⟨gR, 1, none⟩))) rfl (fun W hW => by first | (go_simp; done) | (go_simp; omega)) ?_; simp only [Act.put, lsA, lsB, lsC])
    refine wpQuiet_ld (v := .slice (some ⟨bx, ox, none⟩) nx cx) 65 (.tmp 137) rfl ⟨gR, 1, none⟩ rfl rfl (fun V hV => LV1.out V (below_then HK HKs hV)) ?_
    simp only [Act.put, lsA, lsB, lsC]
    (refine wpQuiet_val (v := (.int .i64 i)) rfl (fun W hW => by first | (go_simp; done) | (go_simp; omega)) ?_; simp only [Act.put, lsA, lsB, lsC])
    (refine wpQuiet_val (v := (.slice (some ⟨bx, ox, none⟩) i cx)) rfl (fun W hW => by first | (go_simp; done) | (go_simp; omega)) ?_; simp only [Act.put, lsA, lsB, lsC])
    (refine wpQuiet_val (v := (.pointer (some ⟨gR, 1, none⟩))) rfl (fun W hW => by first | (go_simp; done) | (go_simp; omega)) ?_; simp only [Act.put, lsA, lsB, lsC])
    refine wpQuiet_ld (v := .slice (some ⟨bx, ox, none⟩) nx cx) 65 (.tmp 141) rfl ⟨gR, 1, none⟩ rfl rfl (fun V hV => LV1.out V (below_then HK HKs hV)) ?_
    simp only [Act.put, lsA, lsB, lsC]
    (refine wpQuiet_val (v := (.int .i64 i)) rfl (fun W hW => by first | (go_simp; done) | (go_simp; omega)) ?_; simp only [Act.put, lsA, lsB, lsC])
    refine wpQuiet_val (v := .pointer (some ⟨bx, ox + i * 18, none⟩)) rfl (fun W hW => exec_ixK underlying65 adI18 (by omega) (.tmp 142) (.tmp 143) rfl rfl rfl hlt W) ?_
    simp only [Act.put, lsA, lsB, lsC]
    refine wpQuiet_ld (v := .agg xc.toArray) 24 (.tmp 144) rfl ⟨bx, ox + i * 18, none⟩ rfl rfl (fun V hV => LXC.out V hV) ?_
    simp only [Act.put, lsA, lsB, lsC]
    refine wpQuiet_call (v := .bool false) 70 #[.slice (some ⟨bx, ox, none⟩) i cx, .agg xc.toArray] rfl (fun W => by go_simp) (fun W hW => RetB.old hW (HAS.out W hW)) ?_
    simp only [Act.put, lsA, lsB, lsC]
    (refine wpQuiet_val (v := (.bool false)) rfl (fun W hW => by first | (go_simp; done) | (go_simp; omega)) ?_; simp only [Act.put, lsA, lsB, lsC])
    refine wpQuiet_nil ?_
    intro w11 b11
    have r1 := below_then HK HKs b11
    clear LXC HAS HK b11 c0 c1
    go_wp2_with fail
    go_roundw
    case rel => exact ⟨i + 1, by omega, by go_num, r1⟩
    case measure => simp [intOf]; omega
end Go.Proofs.YthnbcmlnpdabhaaGreat

/-
  Layer 47: report.Read of one text.
-/
import Derived.Test.YtkcbffldncmbcaaGreatDoorTy33q
namespace Go.Proofs.YtkcbffldncmbcaaGreatDoor
open _root_.Go.Proofs.Tryz
open Go.RowKit Go.Shelf
set_option maxRecDepth 100000
set_option linter.unusedVariables false
set_option linter.unusedSimpArgs false
attribute [local go_sem] Oper.semAt_some
def RdRet (w : World) (e : Ending) (w' : World) : Prop := ∃ g cap, e = .returned (.tuple #[.agg (rzZ.set 1 (.slice (some ⟨g, 0, none⟩) 1 cap)).toArray, .int .i64 0]) ∧ LIn w' 20 InfI (some ⟨g, 0, none⟩) [wkI] ∧ Below w.heap.size w w'
theorem below_putObj {B D : Nat} {w V : World} (h : Below B w V) (hD : B ≤ D) (o : Obj) : Below B w (V.putObj D o) := ⟨h.os, h.tape, h.output, by rw [World.putObj_size]; exact h.size, fun k hk => (World.putObj_heap_other (by omega)).trans (h.block k hk)⟩
theorem Blk.putObj {V : World} {g D : Nat} {t : TypeId} {cs : List Value} (h : Blk V g t cs) (hn : g ≠ D) (o : Obj) : Blk (V.putObj D o) g t cs := (World.putObj_heap_other hn).trans h
theorem resInfo34 : (prog.info? 35).map (·.size) = some 6 := by kernel_rfl
theorem rd_res {V : World} {g2 : Nat} {L : List Value} {tmps : Array Value} (h2 : tmps.getD 2 undef = .pointer (some ⟨g2, 0, none⟩)) (h3 : tmps.getD 3 undef = .pointer (some ⟨g2 + 1, 0, none⟩)) (K2 : Blk V g2 35 L) (hl : L.length = 6) (K3 : Blk V (g2 + 1) 46 [.int .i64 0]) : (results f12 tmps).run prog V = .ok (.tuple #[.agg L.toArray, .int .i64 0]) V := by
 have hr : f12.results = #[.cell 2 35, .cell 3 46] := rfl
 have k2 := run_loadVar_row (P := prog) V g2 35 35 L.toArray (0, 0) _ K2 underlying35 rfl (by simp only [List.size_toArray, hl]; exact resInfo34)
 have k3 := K3.cell_ 0 (u := .int .i64 0) rfl
 have h2' : tmps[2]?.getD undef = .pointer (some ⟨g2, 0, none⟩) := by simpa using h2
 have h3' : tmps[3]?.getD undef = .pointer (some ⟨g2 + 1, 0, none⟩) := by simpa using h3
 have k4 : (loadVar 46 ⟨g2 + 1, 0, none⟩).run prog V = .ok (.int .i64 0) V := by
  have ha : (isAgg 46).run prog V = .ok false V := by
   unfold isAgg
   rw [Sem.run_bind, run_underlying underlying46 V]
   rfl
  simp [loadVar, Sem.run_bind, ha, go_sem, k3]
 simp [results, hr, h2', h3', asAddr, k2, k4]
theorem one_inf {V : World} {g : Nat} {cur : Array Value} (h : V.heap[g]? = some (.cells cur 53 (0, 0))) (hc : cur.toList.take 20 = infC wkI) : LIn V 20 InfI (some ⟨g, 0, none⟩) [wkI] := by
 intro _
 refine ⟨g, 0, rfl, (Array.getElem?_eq_some_iff.1 h).1, fun i hi => ?_⟩
 obtain rfl : i = 0 := by simp at hi; omega
 refine ⟨infC wkI, ?_, rfl, rfl, ⟨by show (-9223372036854775808 : Int) ≤ 0; decide, by show (0 : Int) ≤ _; decide⟩, ⟨by show (-9223372036854775808 : Int) ≤ 80; decide, by show (80 : Int) ≤ _; decide⟩, ⟨by show (-9223372036854775808 : Int) ≤ 1; decide, by show (1 : Int) ≤ _; decide⟩⟩
 intro j v hj
 have hb : Blk V g 53 cur.toList := by unfold Blk; simpa using h
 have := hb.cell (0 + 0 * 20 + j)
 rw [← hc] at hj
 have h20 : j < 20 := by
  have := (List.getElem?_eq_some_iff.1 hj).1
  rw [List.length_take] at this; omega
 rw [List.getElem?_take_of_lt h20] at hj
 simpa using this.trans (by simpa using hj)
theorem RdAt.round {F : Fence} {n : Nat} {W V : World} {h l g4 k : Nat} {r : Loop} {args : Array Value} (a : RdAt W h l g4 r k k V) (h1 : h ≠ l) (h2 : g4 ≠ l) (h3 : l < W.heap.size) (hF : F.fn r.fn) (hst : r.state = .ready) (hpe : r.pending = none) (hs : args.size = r.params.size) {a₁ : Act}
  (hassign : ∀ (Q : Act → World → Prop), Q a₁ V → r.assign.wpIn (F.inRound l) n prog (Exit.then Q (fun _ _ _ => False)) { tmps := (r.params.zip args).foldl (fun tmps (t, a) => tmps.setIfInBounds t a) r.tmps, defers := [] } V)
  (hbody : r.body.wpIn (F.inRound l) n prog (goesOn l (.loop { r with state := .busy }) (fun V3 => RdAt W h l g4 { r with state := .busy } k (k + 1) V3)) a₁ (V.putObj l (.loop { r with state := .busy }))) :
  YieldAt F n prog l args V (fun e V' => e = .returned (.bool true) ∧ RdAt W h l g4 r k (k + 1) V') :=
 (yieldC hF a.lr hst hpe hs hassign hbody).mono (by
  rintro _ _ ⟨rfl, W3, hK, rfl, _⟩
  exact ⟨rfl, hK.putL h1 h2 h3 r⟩)
theorem quad34 : quadT 1 2 3 4 = [49, 46, 50, 46, 51, 46, 52] := by decide +kernel
theorem itoa34 : Lib.itoa 80 = [56, 48] := by decide +kernel
theorem wkL_len (k : Nat) (hk : k < wkL.length) : (wkL[k]).length ≤ 1000000 := by
 have h3 : k = 0 ∨ k = 1 ∨ k = 2 := by have : k < 3 := hk; omega
 rcases h3 with rfl | rfl | rfl <;> exact Nat.le_of_ble_eq_true rfl
theorem trim34 (k : Nat) (hk : k < wkL.length) (V : World) : Calls prog 39 #[.string (bs wkL[k]), .string ⟨#[13]⟩] V (fun e w' => e = .returned (.string (bs wkL[k])) ∧ w' = V) := by
 have h3 : k = 0 ∨ k = 1 ∨ k = 2 := by have : k < 3 := hk; omega
 rcases h3 with rfl | rfl | rfl <;> exact Tryz.strings_TrimSuffix _ _ V (Nat.le_of_ble_eq_true rfl)
set_option maxHeartbeats 4000000 in
theorem wkRead_any (w : World) (hT : Tb w) : Calls prog 12 #[.string (bs wkT)] w (RdRet w) := by
 refine (callsIn_wide (n := 9)).1 ?_
 have SQ := Hh (fun V => SplitSeq_any wkT [10] V)
 refine callsIn_of_wp_marks func12 rfl trivial ?_ rfl
 simp only [ntmps12, List.size_toArray, List.length_cons, List.length_nil, Nat.reduceAdd, Nat.reduceSub, Array.replicate_succ, Array.replicate_zero, List.push_toArray, List.append_toArray, List.nil_append, List.cons_append]
 gi_wp2
 refine ⟨trivial, (callsIn_wide.2 (SQ.out _)).mono ?_⟩
 rintro _ W1 ⟨h, hh, rfl, s1, s2, s3, b1⟩
 have Q2 : Blk W1 w.heap.size 35 rzZ := (((Blk.new w 35 rzZ).alloc _).alloc _).below b1 (by simp; omega)
 have Q3 : Blk W1 (w.heap.size + 1) 46 [.int .i64 0] := (Blk.alloc (Blk.new' (w.alloc (.cells rzZ.toArray 35)) 46 [.int .i64 0] (w.heap.size + 1) (by simp)) _).below b1 (by simp)
 have Q4 : Blk W1 (w.heap.size + 1 + 1) 35 rzZ := (Blk.new' ((w.alloc (.cells rzZ.toArray 35)).alloc (.cells #[.int .i64 0] 46)) 35 rzZ (w.heap.size + 1 + 1) (by simp)).below b1 (by simp)
 have HB : Below w.heap.size w W1 := ((((Below.refl _ w).alloc (Nat.le_refl _) _).alloc (by simp) _).alloc (by simp; omega) _).trans (b1.mono (by simp; omega))
 have hh2 : w.heap.size + 3 ≤ h := by simpa using hh
 clear hh b1 SQ
 gi_wp2
 refine rangeC rfl (by decide) (gf := 69) (lb := #[.pointer (some ⟨h + 1, 0, none⟩), .pointer (some ⟨h, 0, none⟩), .pointer (some ⟨h + 2, 0, none⟩)]) rfl trivial (fun args w => rfl) ?_
 intro fn hfn r W hr hW
 have hWs : W.heap.size = W1.heap.size + 2 := by rw [hW]; simp
 have hl1 := s1.lt
 have hl2 := s2.lt
 have hl3 := s3.lt
 have up : ∀ {g : Nat} {t : TypeId} {cs : List Value}, Blk W1 g t cs → Blk W g t cs := fun hb => by rw [hW]; exact (hb.alloc _).alloc _
 have hlr : W.heap[W1.heap.size + 1]? = some (.loop r) := by rw [hW]; have := heap_alloc_new (W1.alloc (.deferred (some []))) (.loop r); rwa [World.size_alloc] at this
 have hdf : W.heap[W1.heap.size]? = some (.deferred (some [])) := by rw [hW]; exact (Below.heap_alloc _ _ _ (by simp)).trans (heap_alloc_new W1 _)
 have TW : Tb W := hT.below (by rw [hW]; exact (HB.alloc HB.size _).alloc (by simp; have := HB.size; omega) _)
 replace Q2 := up Q2
 replace Q3 := up Q3
 replace Q4 := up Q4
 replace s1 := up s1
 replace s2 := up s2
 replace s3 := up s3
 have BK : ∀ V, RdK W h (W1.heap.size + 1) (w.heap.size + 1 + 1) V → Below w.heap.size w V := fun V kp => ⟨kp.os.trans (by rw [hW]; exact HB.os), kp.tape.trans (by rw [hW]; exact HB.tape), kp.output.trans (by rw [hW]; exact HB.output), by have := kp.size; have := HB.size; omega, fun i hi => (kp.block i (by have := HB.size; omega) (by omega) (by have := HB.size; omega) (by omega)).trans (by rw [hW]; exact (Below.heap_alloc _ _ _ (by simp; have := HB.size; omega)).trans ((Below.heap_alloc _ _ _ (by have := HB.size; omega)).trans (HB.block i hi)))⟩
 have A0 : RdAt W h (W1.heap.size + 1) (w.heap.size + 1 + 1) r 0 0 W := ⟨RdK.refl _ _ _ _, s1, hlr, fun _ => Q4, fun hj => by omega⟩
 have hrb : r.state = .ready := by rw [hr]
 have hrp : r.pending = none := by rw [hr]
 refine (sqIt_any 8 (W1.heap.size + 1) h wkL (by decide) (by decide) (by decide) (fun k V => RdAt W h (W1.heap.size + 1) (w.heap.size + 1 + 1) r k k V) (fun k V => RdAt W h (W1.heap.size + 1) (w.heap.size + 1 + 1) r k (k + 1) V) ?hY ?hA ?hB ?hS W A0).mono ?tail
 case hA =>
  intro k V hk a
  exact ⟨a.s0, (a.kp.block (h + 1) (by omega) (by omega) (by omega) (by omega)).trans s2, (a.kp.block (h + 2) (by omega) (by omega) (by omega) (by omega)).trans s3⟩
 case hB =>
  intro k V hk a
  exact ⟨a.s0, (a.kp.block (h + 1) (by omega) (by omega) (by omega) (by omega)).trans s2, (a.kp.block (h + 2) (by omega) (by omega) (by omega) (by omega)).trans s3⟩
 case hS =>
  intro k V hk a
  exact a.setS (by omega) (by omega) (by omega) (k + 1)
 case hY =>
  intro k hk V a
  have hlV : W1.heap.size + 1 < V.heap.size := (Array.getElem?_eq_some_iff.1 a.lr).1
  have ab := a.putL (by omega) (by omega) (by omega) { r with state := .busy }
  refine a.round (n := 7) (by omega) (by omega) (by omega) (F := Fence.wide) trivial hrb hrp (by rw [hr]; rfl) (a₁ := ?_) ?asg ?bdy
  case asg =>
   intro Q hQ
   rw [hr]
   gi_wp2
   exact hQ
  case bdy =>
   have hkl : k = 0 ∨ k = 1 ∨ k = 2 := by have : k < 3 := hk; omega
   obtain ⟨rb, hrb2⟩ : ∃ rb : Loop, rb = { r with state := .busy } := ⟨_, rfl⟩
   rw [← hrb2] at ab ⊢
   have hbody : r.body = rb.body := by rw [hrb2]
   generalize V.putObj (W1.heap.size + 1) (.loop rb) = V1 at ab ⊢
   obtain ⟨PO, hPO⟩ : ∃ PO, Hid (PO = goesOn (W1.heap.size + 1) (.loop rb) (fun V3 => RdAt W h (W1.heap.size + 1) (w.heap.size + 1 + 1) rb k (k + 1) V3)) := ⟨_, Hh rfl⟩
   rw [← hPO.out]
   have ng : h ≠ w.heap.size + 1 + 1 := by omega
   have nl : w.heap.size + 1 + 1 ≠ W1.heap.size + 1 := by omega
   have TS := Hh (fun V => trim34 k hk V)
   have FD := Hh (fun V => fields_any wkL[k] (wkL_len k hk) V)
   have TB := Hh (fun V (hV : RdK W h (W1.heap.size + 1) (w.heap.size + 1 + 1) V) => hT.below (BK V hV))
   rw [hr]
   dsimp only
   clear a BK A0 hT TW up hr hbody hrb2 hrb hrp HB hW
   have AB := Hh ab
   clear ab
   generalize hpc : wkL[k] = pc at *
   rcases hkl with rfl | rfl | rfl
   ·
    have hfl : fieldsT pc = [[99, 111, 100, 101], [111, 107]] := by rw [← hpc]; rfl
    rw [hfl] at FD
    clear hfl hpc
    gi_wp2
    refine ⟨trivial, (CallsIn.inRound _ (callsIn_wide.2 (TS.out _))).mono ?_⟩
    rintro _ _ ⟨rfl, rfl⟩
    gi_wp2
    refine ⟨trivial, (CallsIn.inRound _ (callsIn_wide.2 (FD.out _))).mono ?_⟩
    rintro _ V2 ⟨_, rfl, hx, hb2⟩
    obtain ⟨g, cap, rfl, hg, ⟨cur, hcur⟩, hc⟩ := Txts.at hx (by decide)
    have c0 := hc 0 (by decide)
    have c1 := hc 1 (by decide)
    have AB2 := AB.out.below hb2
    have hgg : g ≠ w.heap.size + 1 + 1 := by
     rintro rfl
     have := (AB2.b4 (by omega)).symm.trans hcur
     injection this with this
     injection this with _ this
     cases this
    have RC := Hh (readCode_any 0 (by decide) (w.heap.size + 1 + 1) rzZ rfl g 0 cap V2 (AB2.b4 (by omega)) hg hgg c0 c1)
    have AB3 := Hh AB2
    clear hc c0 c1 hcur hx AB AB2 hb2
    gi_wp2
    refine ⟨trivial, (CallsIn.inRound _ (callsIn_wide.2 RC.out)).mono ?_⟩
    rintro _ V3 ⟨rfl, b3, g3⟩
    have AB4 := Hh (AB3.out.code ng nl g3 b3)
    clear AB3 b3 g3
    gi_wp2
    rw [hPO.out]
    exact ⟨AB4.out.lr, AB4.out⟩
   ·
    have hfl : fieldsT pc = [[97, 100, 100, 114], quadT 1 2 3 4, Lib.itoa 80, [115, 116, 114, 101, 97, 109]] := by rw [← hpc, quad34, itoa34]; rfl
    rw [hfl] at FD
    clear hfl hpc
    gi_wp2
    refine ⟨trivial, (CallsIn.inRound _ (callsIn_wide.2 (TS.out _))).mono ?_⟩
    rintro _ _ ⟨rfl, rfl⟩
    gi_wp2
    refine ⟨trivial, (CallsIn.inRound _ (callsIn_wide.2 (FD.out _))).mono ?_⟩
    rintro _ V2 ⟨_, rfl, hx, hb2⟩
    obtain ⟨g, cap, rfl, hg, ⟨cur, hcur⟩, hc⟩ := Txts.at hx (by simp)
    have c0 := hc 0 (by simp)
    have c1 := hc 1 (by simp)
    have c2 := hc 2 (by simp)
    have c3 := hc 3 (by simp)
    have AB2 := AB.out.below hb2
    have RC := Hh (readAddr_any 1 2 3 4 80 (by omega) 0 (by decide) (w.heap.size + 1 + 1) rzZ rfl rfl g 0 cap V2 (TB.out _ AB2.kp) (AB2.b4 (by omega)) hg c0 c1 c2 c3)
    have AB3 := Hh AB2
    clear hc c0 c1 c2 c3 hcur hx AB AB2 hb2
    gi_wp2
    refine ⟨trivial, (CallsIn.inRound _ (callsIn_wide.2 RC.out)).mono ?_⟩
    rintro _ V3 ⟨gg, cp, rfl, b3, o3, g3⟩
    have AB4 := Hh (AB3.out.addr ng nl g3 b3 o3)
    clear AB3 b3 g3 o3
    gi_wp2
    rw [hPO.out]
    exact ⟨AB4.out.lr, AB4.out⟩
   ·
    have hfl : fieldsT pc = [] := by rw [← hpc]; rfl
    rw [hfl] at FD
    clear hfl hpc
    gi_wp2
    refine ⟨trivial, (CallsIn.inRound _ (callsIn_wide.2 (TS.out _))).mono ?_⟩
    rintro _ _ ⟨rfl, rfl⟩
    gi_wp2
    refine ⟨trivial, (CallsIn.inRound _ (callsIn_wide.2 (FD.out _))).mono ?_⟩
    rintro _ V2 ⟨_, rfl, hx, hb2⟩
    have AB4 := Hh (AB.out.below hb2)
    rcases hx.2 with ⟨rfl, _⟩ | ⟨g, cap, cur, rfl, _⟩
    all_goals
     clear hx AB hb2
     gi_wp2
     rw [hPO.out]
     exact ⟨AB4.out.lr, ⟨AB4.out.kp, AB4.out.s0, AB4.out.lr, fun hj => by omega, fun _ => AB4.out.b5 (by omega)⟩⟩
 case tail =>
  rintro e V ⟨⟨v, rfl⟩, a⟩
  have a2 := a.putL (by omega) (by omega) (by omega) { r with state := .exhausted }
  refine ⟨none, V.putObj (W1.heap.size + 1) (.loop { r with state := .exhausted }), hrp ▸ run_endLoop a.lr (by rw [hrb]; decide), ?_⟩
  generalize V.putObj (W1.heap.size + 1) (.loop { r with state := .exhausted }) = V2 at *
  obtain ⟨g, cap, cur, e1, e2, e3, e4⟩ := a2.b5 (by decide)
  have K2 : Blk V2 w.heap.size 35 rzZ := (a2.kp.block w.heap.size (by omega) (by omega) (by omega) (by omega)).trans Q2
  have K3 : Blk V2 (w.heap.size + 1) 46 [.int .i64 0] := (a2.kp.block (w.heap.size + 1) (by omega) (by omega) (by omega) (by omega)).trans Q3
  have KD := (a2.kp.block W1.heap.size (by omega) (by omega) (by omega) (by omega)).trans hdf
  have BV := BK V2 a2.kp
  clear BK
  clear a a2 TW A0 s1 s2 s3 Q2 Q3 Q4 hlr hdf up hT hr hrb hrp
  have hgs : W.heap.size ≤ g := e1
  have c0 := e2.cell_ 0 (u := .int .i64 0) rfl
  have c1 := e2.cell_ 1 (u := .slice (some ⟨g, 0, none⟩) 1 cap) rfl
  have c2 := e2.cell_ 2 (u := .string ⟨#[]⟩) rfl
  have c3 := e2.cell_ 3 (u := .string ⟨#[]⟩) rfl
  have c4 := e2.cell_ 4 (u := .string ⟨#[]⟩) rfl
  have c5 := e2.cell_ 5 (u := .slice none 0 0) rfl
  have d0 := K2.cell_ 0 (u := .int .i64 0) rfl
  have d1 := K2.cell_ 1 (u := .slice none 0 0) rfl
  have d2 := K2.cell_ 2 (u := .string ⟨#[]⟩) rfl
  have d3 := K2.cell_ 3 (u := .string ⟨#[]⟩) rfl
  have d4 := K2.cell_ 4 (u := .string ⟨#[]⟩) rfl
  have d5 := K2.cell_ 5 (u := .slice none 0 0) rfl
  have d6 := K3.cell_ 0 (u := .int .i64 0) rfl
  have f0 := K2.frozen 0
  have f1 := K2.frozen 1
  have f2 := K2.frozen 2
  have f3 := K2.frozen 3
  have f4 := K2.frozen 4
  have f5 := K2.frozen 5
  have f6 := K3.frozen 0
  dsimp only
  gi_wp2
  have n2 : ¬ W1.heap.size = w.heap.size := by omega
  have n3 : ¬ W1.heap.size = w.heap.size + 1 := by omega
  refine ⟨by simp, .inl ⟨_, _, rfl, run_takeDeferred (ds := []) ((Below.heap_setCell _ _ _ _ n3).trans ((Below.heap_setCell _ _ _ _ n2).trans ((Below.heap_setCell _ _ _ _ n2).trans ((Below.heap_setCell _ _ _ _ n2).trans ((Below.heap_setCell _ _ _ _ n2).trans ((Below.heap_setCell _ _ _ _ n2).trans ((Below.heap_setCell _ _ _ _ n2).trans KD))))))), ?_⟩⟩
  have n4 : g ≠ w.heap.size := by omega
  have n5 : g ≠ w.heap.size + 1 := by omega
  have n6 : g ≠ W1.heap.size := by omega
  refine ⟨_, rd_res rfl rfl (Blk.putObj (Blk.far (p := ⟨w.heap.size + 1, 0, none⟩) ((((((K2.set 0 _).set 1 _).set 2 _).set 3 _).set 4 _).set 5 _) (by show w.heap.size ≠ w.heap.size + 1; omega) _) (Ne.symm n2) _) rfl (Blk.putObj (Blk.set (Blk.far (p := ⟨w.heap.size, 5, none⟩) (Blk.far (p := ⟨w.heap.size, 4, none⟩) (Blk.far (p := ⟨w.heap.size, 3, none⟩) (Blk.far (p := ⟨w.heap.size, 2, none⟩) (Blk.far (p := ⟨w.heap.size, 1, none⟩) (Blk.far (p := ⟨w.heap.size, 0, none⟩) K3 (by show w.heap.size + 1 ≠ w.heap.size; omega) _) (by show w.heap.size + 1 ≠ w.heap.size; omega) _) (by show w.heap.size + 1 ≠ w.heap.size; omega) _) (by show w.heap.size + 1 ≠ w.heap.size; omega) _) (by show w.heap.size + 1 ≠ w.heap.size; omega) _) (by show w.heap.size + 1 ≠ w.heap.size; omega) _) 0 _) (Ne.symm n3) _), g, cap, rfl, ?_, ?_⟩
  ·
   refine one_inf ((World.putObj_heap_other n6).trans ((Below.heap_setCell _ _ _ _ n5).trans ((Below.heap_setCell _ _ _ _ n4).trans ((Below.heap_setCell _ _ _ _ n4).trans ((Below.heap_setCell _ _ _ _ n4).trans ((Below.heap_setCell _ _ _ _ n4).trans ((Below.heap_setCell _ _ _ _ n4).trans ((Below.heap_setCell _ _ _ _ n4).trans e3)))))))) e4
  ·
   exact below_putObj (((((((BV.setCell (p := ⟨w.heap.size, 0, none⟩) (Nat.le_refl _) _).setCell (p := ⟨w.heap.size, 1, none⟩) (Nat.le_refl _) _).setCell (p := ⟨w.heap.size, 2, none⟩) (Nat.le_refl _) _).setCell (p := ⟨w.heap.size, 3, none⟩) (Nat.le_refl _) _).setCell (p := ⟨w.heap.size, 4, none⟩) (Nat.le_refl _) _).setCell (p := ⟨w.heap.size, 5, none⟩) (Nat.le_refl _) _).setCell (p := ⟨w.heap.size + 1, 0, none⟩) (Nat.le_succ _) _) (by omega) _
end Go.Proofs.YtkcbffldncmbcaaGreatDoor

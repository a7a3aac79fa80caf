/-
  Layer 21, the reference (setup): Bits, Holds, names; what Resolv makes of the servers.
-/
import Derived.Test.YteimenplbanooaaGreatDoorRBEq
import Derived.Test.YteimenplbanooaaGreatDoorRAMq
import Derived.Test.YteimenplbanooaaGreatDoorRAPq
namespace Go.Proofs.YteimenplbanooaaGreatDoor
open _root_.Go.Proofs.Tryz
open Go.RowKit
set_option maxRecDepth 100000
set_option linter.unusedVariables false
set_option linter.unusedSimpArgs false
theorem exec_bsG {P : Program} {w w' : World} {o : Oper} {a : Act} {t : TypeId} {cs : List Value} {v : Value} (x : Operand) (ho : o.op = .buildSlice t 1 #[(0, x)]) (hx : a.eval x = .agg cs.toArray) (hr : (Instr.buildSlice t 1 #[(0, .agg cs.toArray)]).run P w = .ok v w') : (execOp a.eval o).run P w = .ok (.value v) w' := by
 unfold execOp
 simp only [ho, Sem.run_bind, Sem.run_pure, Result.andThen_ok, List.map_toArray, List.map_cons, List.map_nil, hx, hr]
theorem exec_apG {P : Program} {w w' : World} {v v' x : Value} {t ty : TypeId} {o : Oper} {a : Act} (sl y : Operand) (ho : o.op = .call { callee := .builtin .append, args := #[sl, y], argTypes := #[t, t] }) (hty : o.type = ty) (hs : a.eval sl = v) (hy : a.eval y = x)
  (hr : (Builtin.append_ #[t, t] ty #[v, x]).run P w = .ok v' w') : (execOp a.eval o).run P w = .ok (.value v') w' := by
 subst hty
 unfold execOp
 simp only [ho, resolve, invoke, builtin, Sem.run_bind, Sem.run_pure, Result.andThen_ok, List.map_toArray, List.map_cons, List.map_nil, hs, hy, hr]
theorem run_appL {P : Program} {α : Type} {R : List Value → α → Prop} (w : World) (t ty : TypeId) (e : TypeId) (z : Value) (size bytes : Nat) (ht : P.underlying t = some (.slice e)) (hi : (P.info? e).map (fun i => (i.zero, i.size, i.bytes)) = some (some z, size, bytes)) (hzs : z.cells.size = size) (hsz : 0 < size)
  (B : Nat) (v : Value) (l : List α) (h : LOwn w B e size R v l) (hB : B ≤ w.heap.size) (g : Nat) (cs : List Value) (x : α) (hb : Blk w g e cs) (hl : cs.length = size) (h1 : ∀ u ∈ cs, u.oneCell' = true) (hr : R cs x) (h63 : l.length + 1 ≤ maxLen) (hbytes : (l.length + 1) * bytes ≤ 140737488355328) :
  ∃ v' w', (Builtin.append_ #[t, t] ty #[v, .slice (some ⟨g, 0, none⟩) 1 1]).run P w = .ok v' w' ∧ LOwn w' B e size R v' (l ++ [x]) ∧ w.grownBy w' v.ownBlock := by
 obtain ⟨css, hown, hE⟩ := h
 obtain ⟨v', w', hr', h2, h3⟩ := run_appG w t ty e z size bytes ht hi hzs hsz B v l.length css.flatten hown hB (some ⟨g, 0, none⟩) 1 1 cs (fun _ => ⟨g, 0, rfl, fun j u hu => by rw [Nat.zero_add]; exact hb.cell_ j hu⟩) (by omega) h1 h63 hbytes
 exact ⟨v', w', hr', LOwn.app1 (v := v) hE h2 hr, h3⟩
theorem LOwn.keep {α : Type} {R : List Value → α → Prop} {w w' : World} {B : Nat} {e t : TypeId} {k g : Nat} {v : Value} {l : List α} {cs : List Value} (h : LOwn w B e k R v l) (hb : Blk w g t cs) (hne : t ≠ e) (hg : w.grownBy w' v.ownBlock) : Blk w' g t cs := by
 obtain ⟨css, ow, _⟩ := h
 exact blk_own hb ow hne hg
theorem ask_len (q : Qn) (id : Int) (e : Bool) (h : checkN q.name = 0) : (encS (askM q id e) false).1.length ≤ 65535 := by
 have hn := (checkN_ok h).2
 have hp : (putHead (askH id) (1 : Nat) (0 : Nat) (0 : Nat) ((askM q id e).ex.length : Nat)).length = 12 := by simp [putHead, putB_length]
 cases e with
 | false =>
  show ((putHead (askH id) (1 : Nat) (0 : Nat) (0 : Nat) (0 : Nat)) ++ putZ q.name ++ putB 2 q.ty ++ putB 2 q.cl).length ≤ 65535
  simp only [List.length_append, putB_length]
  have h2 : (putZ q.name).length = lsum q.name + 1 := by unfold putZ; rw [if_pos h]; simp [encZ, encN_length]
  have hp' : (putHead (askH id) (1 : Nat) (0 : Nat) (0 : Nat) (0 : Nat)).length = 12 := hp
  omega
 | true =>
  show (putRec ((putHead (askH id) (1 : Nat) (0 : Nat) (0 : Nat) (1 : Nat)) ++ putZ q.name ++ putB 2 q.ty ++ putB 2 q.cl, none) optR).1.length ≤ 65535
  have hp' : (putHead (askH id) (1 : Nat) (0 : Nat) (0 : Nat) (1 : Nat)).length = 12 := hp
  have h2 : (putZ q.name).length = lsum q.name + 1 := by unfold putZ; rw [if_pos h]; simp [encZ, encN_length]
  have h3 : ∀ T k, dataR T k optR = [] := fun T k => rfl
  unfold putRec recD
  rw [h3]
  unfold recS
  have h4 : (putZ optR.name).length = 1 := by decide
  simp only [List.length_append, putB_length, List.length_nil, putSO]
  omega
theorem ask_ok {q : Qn} {id0 : Int} {e0 : Bool} (h : (encM (askM q id0 e0) false).2 = 0) (id : Int) (e : Bool) (h1 : 0 ≤ id) (h2 : id ≤ 65535) : (encM (askM q id e) false).2 = 0 := by
 have hq : qE q = 0 := by
  unfold encM at h
  split at h
  ·
   rename_i hc; exact absurd h hc
  ·
   rename_i hc
   have hc := Decidable.not_not.1 hc
   unfold checkM at hc
   split at hc
   ·
    cases hc
   ·
    split at hc
    ·
     cases hc
    ·
     split at hc
     ·
      rename_i hf; exact absurd hc hf
     ·
      rename_i hf
      have hf := Decidable.not_not.1 hf
      unfold askM at hf
      simp only [List.map_cons, List.map_nil, fstE] at hf
      split at hf
      ·
       rename_i h; exact absurd hf h
      ·
       rename_i h; exact Decidable.not_not.1 h
 have hN : checkN q.name = 0 := by
  unfold qE at hq
  split at hq
  ·
   rename_i h; exact absurd hq h
  ·
   rename_i h; exact Decidable.not_not.1 h
 have hc : checkM (askM q id e) = 0 := by
  have hh : (askM q id e).hd.ok = true := by unfold askM askH Hd.ok; simp [h1, h2, Hd.zero]
  have hqs : fstE ((askM q id e).qs.map qE) = 0 := by unfold askM; simp [fstE, hq]
  have ho : checkR optR = 0 := by decide
  have hrs : fstE ((askM q id e).rrs.map checkR) = 0 := by
   unfold askM Msg.rrs
   cases e <;> simp [fstE, ho]
  unfold checkM
  rw [if_neg (by rw [hh]; decide), if_neg (by unfold askM; cases e <;> simp), if_neg (by rw [hqs]; decide), hrs]
 have hl := ask_len q id e hN
 unfold encM
 rw [if_neg (by rw [hc]; decide), if_neg (by omega)]
theorem run_bxc (v1 v2 v3 vn : Value) (r : Rs) (q : Qn) (A : Option Addr) (n c gl : Nat) (W : World) : (Instr.build 331 #[(0, .agg (rsC v1 v2 v3 r).toArray), (1, .agg (qC vn q).toArray), (2, .slice A n c), (3, .pointer (some ⟨gl, 0, none⟩))]).run prog W = .ok (.agg (xcC (rsC v1 v2 v3 r) vn q (.slice A n c) gl 0 .nilFunc qyZ false none 0 0 false false 0 msgZ).toArray) W := by kernel_rfl
def XnRet (gl : Nat) (r : XR) (w : World) (e : Ending) (w' : World) : Prop := ∃ g v D, e = .returned (.tuple #[.pointer (some ⟨g, 0, none⟩), v]) ∧ OusN w.heap.size w' v r.2.2 ∧ XchgAt w' g gl D r.1 ∧ LotAt w' gl r.2.1 ∧ Fr (fun i => i = gl) w w' ∧ w.heap.size ≤ g ∧ ∀ i, D = some i → w.heap.size ≤ i
theorem triesR_ip {w0 : World} {v : Value} {l : List Adr} (h : TrysO w0 0 v l) : ∀ a ∈ l, a.ip.length = 16 := by
 obtain ⟨css, _, h⟩ := h
 have key : ∀ {css : List (List Value)} {l : List Adr}, Each TryI css l → ∀ a ∈ l, a.ip.length = 16 := by
  intro css l
  induction l generalizing css with
  | nil => intro _ a ha; cases ha
  | cons x l ih =>
   intro h a ha
   match css, h with
   | _ :: _, h =>
    rcases List.mem_cons.1 ha with rfl | ha
    ·
     obtain ⟨_, _, h⟩ := h.1; exact h
    ·
     exact ih h.2 a ha
 exact key h
set_option maxHeartbeats 8000000 in
theorem xnew_any (cs : List Value) (r : Rs) (q : Qn) (A : Option Addr) (c : Nat) (turn : Int) (gl : Nat) (L : Lt) (w : World) (h : RsIs w cs r) (hN : NmR w A c q.name) (hn : q.name.length ≤ 100000) (hl : LotAt w gl L) (hu : L.us ≤ 999999990) (hd : L.ds.length ≤ 17592186044416) :
  Calls prog 181 #[.agg cs.toArray, .agg (qC (.slice A q.name.length c) q).toArray, .int .i64 turn, .pointer (some ⟨gl, 0, none⟩)] w (XnRet gl (newX (heldR r).tmo (heldR r).vc (heldR r).ed q (triesR r turn) L) w) := by
 obtain ⟨R, hR⟩ : ∃ R, Hid (newX (heldR r).tmo (heldR r).vc (heldR r).ed q (triesR r turn) L = R) := ⟨_, Hh rfl⟩
 rw [hR.out]
 have hcl := h.len
 have HX : Below w.heap.size w ((w.alloc (.cells cs.toArray 37)).alloc (.cells (qC (.slice A q.name.length c) q).toArray 218)) := ((Below.refl _ _).alloc (Nat.le_refl _) _).alloc (by simp) _
 have B0 := (Blk.new w 37 cs).alloc (.cells (qC (.slice A q.name.length c) q).toArray 218)
 have B1 := Blk.new' (w.alloc (.cells cs.toArray 37)) 218 (qC (.slice A q.name.length c) q) (w.heap.size + 1) (by simp)
 obtain ⟨w1, hw1⟩ : ∃ w1, Hid ((w.alloc (.cells cs.toArray 37)).alloc (.cells (qC (.slice A q.name.length c) q).toArray 218) = w1) := ⟨_, Hh rfl⟩
 rw [hw1.out] at HX B0 B1
 have CL := Hh (clone_any A c q.name _ (hN.below HX) hn)
 have hll : Hid (∀ l ∈ q.name, l.length ≤ 140737488355328) := Hh hN.2.2.2
 have a0 := B1.cell_ 0 (u := .slice A q.name.length c) rfl
 have HRS := Lib.hid h
 have HLT := Hh hl
 clear h hN hl
 unfold qC at hw1
 show Calls prog 181 #[.agg cs.toArray, .agg #[.slice A q.name.length c, .int .i64 q.ty, .int .i64 q.cl], .int .i64 turn, .pointer (some ⟨gl, 0, none⟩)] w (XnRet gl R w)
 have hnl : q.name.length ≤ 17592186044416 := by omega
 generalize hnn : q.name.length = nl at *
 have HNN := Hh hnn
 clear hnn
 go_enter func181, ntmps181
 go_wp2_with fail
 rw [hw1.out]
 refine CL.out.mono ?_
 rintro _ w1b ⟨A1, c1, hv, own1, b1⟩
 rw [HNN.out] at hv
 subst hv
 have C0 := B0.below b1 B0.lt
 have C1 := B1.below b1 B1.lt
 have H1 := below_then HX HX.size b1
 clear CL b1 B0 B1 a0 HX
 go_wp2_with (refine at_op (.store 81 (.tmp 16) (.tmp 15)) rfl ?_; go_must (refine wpList_stC rfl 81 (.tmp 16) (.tmp 15) rfl (w.heap.size + 1) 0 rfl (.slice A1 nl c1) rfl C1 (by simp [qC]) nameInfo1 rfl rfl ?_))
 intro w2 D1 g2 sw
 clear sw
 have D0 := C0.grown g2 (by simp)
 have H2 := below_grown H1 g2 H1.size (by omega)
 have own2 := own_blk own1 g2 C1 (by decide)
 have hT2 : Txts w2 (.slice A1 q.name.length c1) q.name := own_zero own2
 rw [HNN.out] at hT2
 have hN2 : NmL w2 (.slice A1 nl c1) q.name := ⟨hT2, by rw [HNN.out]; exact hn, hll.out⟩
 rw [show (qC (.slice A nl c) q).set 0 (.slice A1 nl c1) = [.slice A1 nl c1, .int .i64 q.ty, .int .i64 q.cl] from rfl] at D1
 have HN2 := Hh hN2
 have HLT2 := Hh (HLT.out.below H2)
 have RB0 := Hh (HRS.out)
 obtain ⟨e1, e2, e3, e4, e5, e6, hcs, -⟩ := HRS.out
 have RBC : Hid (∀ V, (Instr.build 42 #[(0, .agg cs.toArray)]).run prog V = .ok (.agg (cs ++ [nilS, nilS, nilS]).toArray) V) := Hh (fun V => by rw [hcs]; exact rs_build ..)
 clear hcs
 have SH := Hh (fun V (hV : Below w.heap.size w V) => setHeld_any w cs r V HRS.out hV)
 have TR := Hh (fun V (hV : Below w.heap.size w V) => tries_any w cs r turn V HRS.out hV)
 have LR : Hid (∀ V, Below w2.heap.size w2 V → (Instr.loadAt 37 (.pointer (some ⟨w.heap.size, 0, none⟩))).run prog V = .ok (.agg cs.toArray) V) := Hh (fun V hV => (D0.below hV D0.lt).loads 37 0 10 (by omega) _ underlying37 rfl rsI10 _ (tk0 (by omega)))
 have LQ : Hid (∀ V, Below w2.heap.size w2 V → (Instr.loadAt 218 (.pointer (some ⟨w.heap.size + 1, 0, none⟩))).run prog V = .ok (.agg #[.slice A1 nl c1, .int .i64 q.ty, .int .i64 q.cl]) V) := Hh (fun V hV => (D1.below hV D1.lt).loads 218 0 3 (by simp) _ underlying218 rfl qInfo _ rfl)
 clear own1 own2 hT2 hN2 C0 C1 D0 D1 g2 H1 HRS hll hnl
 obtain ⟨tl, htl⟩ : ∃ tl, Hid (triesR r turn = tl) := ⟨_, Hh rfl⟩
 rw [htl.out] at TR
 obtain ⟨nt, hnt⟩ : ∃ nt, Hid (tl.length = nt) := ⟨_, Hh rfl⟩
 go_upto_region 3 with fail
 go_cut [10] (fun v10 wx => ∃ gx XC v1 v2 v3 At ct, v10 = .pointer (some ⟨gx, 0, none⟩) ∧ Blk wx gx 331 XC ∧ XC = xcC (rsC v1 v2 v3 (heldR r)) (.slice A1 nl c1) q (.slice At nt ct) gl 0 .nilFunc qyZ false none 0 0 false false 0 msgZ ∧ True ∧ RsO w wx (rsC v1 v2 v3 (heldR r)) (heldR r) ∧ TrysO wx 0 (.slice At nt ct) tl ∧ Below w2.heap.size w2 wx ∧ w2.heap.size ≤ gx)
 case first =>
  refine wp_region_held_drew (S := fun V => Below w2.heap.size w2 V) (by kernel_rfl) (Below.refl _ _).drew (fun hS => ?_)
  refine held_seq hS 6 [0,1,4,5,6,8] rfl (by kernel_rfl) (fun _ _ _ _ _ h => h) rfl rfl ?_
  (refine ⟨_, _, rfl, .inl ⟨rfl, fun V hV => (exec_ld 37 (.tmp 4) ⟨w.heap.size, 0, none⟩ rfl rfl (LR.out V hV))⟩, ?_⟩; simp only [Act.put, lsA, lsB, lsC])
  (refine ⟨_, (.agg (cs ++ [nilS, nilS, nilS]).toArray), rfl, .inl ⟨rfl, fun V hV => (exec_bldH 42 _ rfl #[(0, .agg cs.toArray)] (by kernel_rfl) (RBC.out V))⟩, ?_⟩; simp only [Act.put, lsA, lsB, lsC])
  (refine ⟨_, _, rfl, .inl ⟨rfl, fun V hV => (exec_ld 218 (.tmp 5) ⟨w.heap.size + 1, 0, none⟩ rfl rfl (LQ.out V hV))⟩, ?_⟩; simp only [Act.put, lsA, lsB, lsC])
  (refine ⟨_, _, rfl, .inl ⟨rfl, fun V hV => (exec_ld 37 (.tmp 4) ⟨w.heap.size, 0, none⟩ rfl rfl (LR.out V hV))⟩, ?_⟩; simp only [Act.put, lsA, lsB, lsC])
  repeat (refine ⟨_, _, rfl, .inl ⟨rfl, fun W hW => rfl⟩, ?_⟩; simp only [Act.put, lsA, lsB, lsC])
  simp only [SeqC]
  refine ord_one 2 (by kernel_rfl) ?_
  refine opw_call 2 (some 19) 19 #[.agg (cs ++ [nilS, nilS, nilS]).toArray] rfl rfl (by kernel_rfl) (by go_simp) (SH.out _ (below_then H2 H2.size hS)) ?_
  rintro _ w3 ⟨cs1, u1, u2, u3, rfl, RO, b3⟩
  have hl1 := RO.len
  have hS3 := below_then hS hS.size b3
  refine ⟨_, rfl, hS3, ?_⟩
  clear hS b3
  have hS := hS3
  clear hS3
  simp only [Act.put, lsA, lsB, lsC]
  refine held_seq hS 1 [3] rfl (by kernel_rfl) (fun _ _ _ _ _ h => h) rfl rfl ?_
  (refine ⟨_, (.agg cs1.toArray), rfl, .inl ⟨rfl, fun V hV => (exec_fld 42 (.tmp 19) 0 rfl rfl (fill_10 cs1 hl1 u1 u2 u3 V))⟩, ?_⟩; simp only [Act.put, lsA, lsB, lsC])
  simp only [SeqC]
  refine ord_one 7 (by kernel_rfl) ?_
  refine opw_call 7 (some 24) 225 #[.agg cs.toArray, .int .i64 turn] rfl rfl (by kernel_rfl) (by go_simp) (TR.out _ (below_then H2 H2.size hS)) ?_
  rintro _ WA ⟨vt, rfl, TO, b4⟩
  obtain ⟨At, ct, hvt⟩ := TO.form
  rw [hnt.out] at hvt
  subst hvt
  replace RO := RO.below b4
  have hS4 := below_then hS hS.size b4
  refine ⟨_, rfl, hS4, ?_⟩
  clear hS b4
  have hS := hS4
  clear hS4
  simp only [Act.put, lsA, lsB, lsC]
  obtain ⟨v1, v2, v3, hcs1, RO'⟩ := RO
  have RO : RsO w WA (rsC v1 v2 v3 (heldR r)) (heldR r) := ⟨v1, v2, v3, rfl, RO'⟩
  have v1' : True := trivial
  have RB := Hh (fun V => run_bxc v1 v2 v3 (.slice A1 nl c1) (heldR r) q At nt ct gl V)
  rw [← hcs1] at RB
  obtain ⟨XC, HXC⟩ : ∃ XC, Hid (XC = xcC (rsC v1 v2 v3 (heldR r)) (.slice A1 nl c1) q (.slice At nt ct) gl 0 .nilFunc qyZ false none 0 0 false false 0 msgZ) := ⟨_, Hh rfl⟩
  rw [hcs1, ← HXC.out, ← hcs1] at RB
  clear RO' SH TR
  refine held_seq hS 1 [9] rfl (by kernel_rfl) (fun _ _ _ _ _ h => h) rfl rfl ?_
  (refine ⟨_, (.agg XC.toArray), rfl, .inl ⟨rfl, fun V hV => (exec_bldH 331 _ rfl #[(0, .agg cs1.toArray), (1, .agg #[.slice A1 nl c1, .int .i64 q.ty, .int .i64 q.cl]), (2, .slice At nt ct), (3, .pointer (some ⟨gl, 0, none⟩))] (by kernel_rfl) (RB.out V))⟩, ?_⟩; simp only [Act.put, lsA, lsB, lsC])
  simp only [SeqC]
  have kn : Below WA.heap.size WA (WA.alloc (.cells XC.toArray 331)) := (Below.refl _ _).alloc (Nat.le_refl _) _
  have hSx := below_then hS hS.size kn
  have Bn := Blk.new WA 331 XC
  have hgz : w2.heap.size ≤ WA.heap.size := hS.size
  have RO2 := RO.below kn
  have TO2 := LOwn.below TO kn (fun _ _ h => h)
  refine held_run 10 (some 27) (by kernel_rfl) rfl rfl (by kernel_rfl) (v := .pointer (some ⟨WA.heap.size, 0, none⟩)) (w' := WA.alloc (.cells XC.toArray 331)) (by kernel_rfl) hSx ?_
  simp only [Act.put, lsA, lsB, lsC]
  clear hS kn RO TO
  have hS := hSx
  clear hSx
  generalize WA.alloc (.cells XC.toArray 331) = wz at *
  generalize WA.heap.size = gz at *
  refine held_seq hS 1 [11] rfl (by kernel_rfl) (fun _ _ _ _ _ h => h) rfl rfl ?_
  (refine ⟨_, (.pointer (some ⟨gz, 0, none⟩)), rfl, .inl ⟨rfl, fun V hV => rfl⟩, ?_⟩; simp only [Act.put, lsA, lsB, lsC])
  simp only [SeqC]
  refine wpAnyH_done (by kernel_rfl) ?_ _
  go_wp2_with fail
  go_meet
  case rel => exact ⟨gz, XC, v1, v2, v3, At, ct, rfl, Bn, HXC.out, v1', RO2, TO2, hS, hgz⟩
 obtain ⟨gx, XC, v1, v2, v3, At, ct, rfl, BX, hXC, -, RO, TO, H3, hgx⟩ := hcut
 obtain ⟨w5, rfl⟩ : ∃ w5, w5 = wc := ⟨_, rfl⟩
 clear SH TR RBC LR
 have HW := below_then H2 H2.size H3
 have LT5 := HLT2.out.below H3
 have N5 := HN2.out.stays (Stays.below H3)
 obtain ⟨x0, hx0⟩ : ∃ x0, x0 = startX (heldR r).tmo (heldR r).vc (heldR r).ed q tl := ⟨_, rfl⟩
 have HRR : Hid (R = if (encM (askM q 0 (heldR r).ed) false).2 ≠ 0 then ({ x0 with done := true, vd := 3, msg := Msg.zero }, L, []) else tryX x0 L) := Hh (by rw [← hR.out, htl.out, hx0]; rfl)
 have HXB : XchgB w5 gx gl (.slice A1 nl c1) x0 .nilFunc false qyZ none := ⟨⟨rsC v1 v2 v3 (heldR r), .slice At nt ct, msgZ, by rw [hx0]; rw [hXC] at BX; exact BX, rfl, by rw [hx0]; rfl, by rw [hx0]; rfl, by rw [hx0]; rfl, by rw [hx0]; exact TO, by rw [hx0]; exact MsgOwn.zero _⟩, by rw [hx0]; exact N5, qyZ_len⟩
 have HST : Hid ((encM (askM q 0 (heldR r).ed) false).2 = 0 → x0.st) := Hh (fun he => by
  have ht := tries_le r turn
  rw [htl.out] at ht
  rw [hx0]
  exact ⟨triesR_ip TO, (tmo_le r).1, (tmo_le r).2, by show tl.length ≤ 1000; omega, fun id e h1 h2 => ask_ok he id e h1 h2⟩)
 have hdn : x0.done = false := by rw [hx0]; rfl
 have hsn : x0.sent ≤ 1000000 := by rw [hx0]; exact Nat.zero_le _
 have BXX := BX
 have d9 : ∀ V, Below w5.heap.size w5 V → (Instr.loadAt 4 (.pointer (some ⟨gx, 9, none⟩))).run prog V = .ok (.bool (heldR r).ed) V := fun V hV => run_load1 underlying4 rfl ((BXX.below hV BXX.lt).cell_ 9 (by rw [hXC, xc_told rfl qyZ_len 9 (by omega)]; rfl))
 have D9 := Hh d9
 have LQ5 : Hid (∀ V, Below w5.heap.size w5 V → (Instr.loadAt 218 (.pointer (some ⟨w.heap.size + 1, 0, none⟩))).run prog V = .ok (.agg #[.slice A1 nl c1, .int .i64 q.ty, .int .i64 q.cl]) V) := Hh (fun V hV => LQ.out V (below_then H3 H3.size hV))
 have BU : Hid (∀ V, Below w5.heap.size w5 V → Calls prog 226 #[.agg #[.slice A1 nl c1, .int .i64 q.ty, .int .i64 q.cl], .int .i64 0, .bool (heldR r).ed] V (RetB (.tuple #[.string (bs (encM (askM q 0 (heldR r).ed) false).1), .int .i64 (encM (askM q 0 (heldR r).ed) false).2]) V)) := Hh (fun V hV => by
  obtain ⟨A', c', hv, hNR⟩ := N5.form
  injection hv with hv1 hv2 hv3
  subst hv1 hv3
  have := build_any A1 c1 q 0 (heldR r).ed V (hNR.below hV) (by rw [HNN.out]; exact hn)
  rwa [HNN.out] at this)
 have hgw : w.heap.size ≤ gx := Nat.le_trans H2.size hgx
 have HXB' := Hh HXB
 have HLT5 := Hh LT5
 have HHW := Hh HW
 have hwc := HW.size
 have TOR : Hid (∀ V e w', Below w5.heap.size w5 V → XRet gx gl none R V e w' → ∃ v, e = .returned v ∧ XnRet gl R w (.returned (.tuple #[.pointer (some ⟨gx, 0, none⟩), v])) w') := Hh (fun V e w' hV hx => by
  have hWV := below_then HW HW.size hV
  obtain ⟨v, D', rfl, h1, h2, h3, h4, h5⟩ := hx
  refine ⟨v, rfl, gx, v, D', rfl, h1.mono hWV.size, h2, h3, (Fr.below (S := fun i => i = gl) hWV).trans h4 (fun i hi h => ?_), hgw, fun i hi => ?_⟩
  ·
   rcases h with h | h | h
   ·
    omega
   ·
    exact h
   ·
    cases h
  ·
   rcases h5 i hi with h | h
   ·
    cases h
   ·
    exact Nat.le_trans hWV.size h)
 have gne : gx ≠ gl := by
  obtain ⟨Lc, hLc⟩ := lot_blk LT5
  exact blk_ne BX hLc (by decide)
 clear LQ HN2 HLT2 N5 LT5 HW H2 H3 TO RO hXC BX BXX d9 HXB hR htl
 generalize (heldR r).ed = ed at *
 generalize (encM (askM q 0 ed) false).1 = oc at *
 generalize (encM (askM q 0 ed) false).2 = er at *
 clear hx0
 go_upto_region 4 with fail
 go_cut [10, 12] (fun v10 v12 wx => v10 = .pointer (some ⟨gx, 0, none⟩) ∧ v12 = .int .i64 er ∧ Below w5.heap.size w5 wx)
 case first =>
  refine wp_region_held_drew (S := fun V => Below w5.heap.size w5 V) (by kernel_rfl) (Below.refl _ _).drew (fun hS => ?_)
  refine held_seq hS 6 [0,1,2,3,4,5] rfl (by kernel_rfl) (fun _ _ _ _ _ h => h) rfl rfl ?_
  (refine ⟨_, _, rfl, .inl ⟨rfl, fun V hV => (exec_ld 218 (.tmp 5) ⟨w.heap.size + 1, 0, none⟩ rfl rfl (LQ5.out V hV))⟩, ?_⟩; simp only [Act.put, lsA, lsB, lsC])
  repeat (refine ⟨_, _, rfl, .inl ⟨rfl, fun W hW => rfl⟩, ?_⟩; simp only [Act.put, lsA, lsB, lsC])
  (refine ⟨_, _, rfl, .inl ⟨rfl, fun V hV => (exec_ld 4 (.tmp 33) ⟨gx, 9, none⟩ rfl rfl (D9.out V hV))⟩, ?_⟩; simp only [Act.put, lsA, lsB, lsC])
  simp only [SeqC]
  refine held_call 6 (some 35) 226 #[.agg #[.slice A1 nl c1, .int .i64 q.ty, .int .i64 q.cl], .int .i64 0, .bool ed] (by kernel_rfl) rfl rfl (by kernel_rfl) (by go_simp) (BU.out _ hS) ?_
  rintro _ w4 ⟨rfl, b4⟩
  have hS := below_then hS hS.size b4
  refine ⟨_, rfl, hS, ?_⟩
  simp only [Act.put, lsA, lsB, lsC]
  refine held_seq hS 5 [7,8,9,10,11] rfl (by kernel_rfl) (fun _ _ _ _ _ h => h) rfl rfl ?_
  (refine ⟨_, (.tuple #[.string (bs oc), .int .i64 er]), rfl, .inl ⟨rfl, fun V hV => rfl⟩, ?_⟩; simp only [Act.put, lsA, lsB, lsC])
  (refine ⟨_, (.string (bs oc)), rfl, .inl ⟨rfl, fun V hV => rfl⟩, ?_⟩; simp only [Act.put, lsA, lsB, lsC])
  (refine ⟨_, (.int .i64 er), rfl, .inl ⟨rfl, fun V hV => rfl⟩, ?_⟩; simp only [Act.put, lsA, lsB, lsC])
  (refine ⟨_, (.string (bs oc)), rfl, .inl ⟨rfl, fun V hV => rfl⟩, ?_⟩; simp only [Act.put, lsA, lsB, lsC])
  (refine ⟨_, (.int .i64 er), rfl, .inl ⟨rfl, fun V hV => rfl⟩, ?_⟩; simp only [Act.put, lsA, lsB, lsC])
  simp only [SeqC]
  refine wpAnyH_done (by kernel_rfl) ?_ _
  go_wp2_with fail
  go_meet
  case rel => exact ⟨rfl, rfl, hS⟩
 obtain ⟨rfl, rfl, H6⟩ := hcut
 have BG : Hid (er = 0 → Calls prog 228 #[.pointer (some ⟨gx, 0, none⟩)] wc (XRet gx gl none (tryX x0 L) wc)) := Hh (fun h0 => begin_any gx gl _ x0 L _ _ _ none _ (HXB'.out.below H6) (HLT5.out.below H6) (HST.out h0) hdn hu hd hsn)
 have FN : Hid (Calls prog 227 #[.pointer (some ⟨gx, 0, none⟩), .agg (Value.int .i64 3 :: msgZ).toArray] wc (FinRet gx gl (.slice A1 nl c1) x0 false 3 Msg.zero wc)) := Hh (finish_any gx gl _ x0 _ _ _ none 3 msgZ Msg.zero _ (HXB'.out.below H6) (MsgOwn.zero _))
 have TW := Hh (fun e w' hx => TOR.out wc e w' H6 hx)
 have LT6 := Hh (HLT5.out.below H6)
 clear TOR LQ5 BU D9 HXB' HLT5
 by_cases he : er = 0
 case neg =>
  have he' : (er != 0) = true := by simpa using he
  have HR2 : Hid (R = ({ x0 with done := true, vd := 3, msg := Msg.zero }, L, [])) := Hh (by rw [HRR.out, if_pos he])
  have RZ := Hh (fun V => run_bouz 3 V)
  obtain ⟨Z, hZ⟩ : ∃ Z, Hid (Value.int .i64 3 :: msgZ = Z) := ⟨_, Hh rfl⟩
  rw [hZ.out] at RZ FN
  clear he BG HST HRR
  go_wp2_with (refine at_op (.build 282 #[(0, .const (.int .i64 3))]) rfl ?_; go_must (refine wpList_bld rfl 282 _ rfl #[(0, .int .i64 3)] (by simp [Act.eval, Act.put]) (RZ.out _) ?_))
  refine FN.out.mono ?_
  intro e9 w9 hf
  obtain ⟨he, hx⟩ := hf.x (L := L) (D := none) LT6.out gne
  rw [he]
  rw [← HR2.out] at hx
  obtain ⟨v, hv, hx⟩ := TW.out _ _ hx
  injection hv with hv
  subst hv
  have HX9 := Hh hx
  clear hx he hf FN
  go_wp2_with fail
  go_ret2
  exact HX9.out
 subst he
 have HR2 : Hid (R = tryX x0 L) := Hh (by rw [HRR.out, if_neg (by decide)])
 have BGG := Hh (BG.out rfl)
 clear BG FN HST HRR
 go_wp2_with fail
 refine BGG.out.mono ?_
 intro e9 w9 hx
 rw [← HR2.out] at hx
 obtain ⟨v, rfl, hy⟩ := TW.out _ _ hx
 have HX9 := Hh hy
 clear hx hy BGG
 go_wp2_with fail
 go_ret2
 exact HX9.out
theorem xdone_any {w : World} {g gl : Nat} {D : Option Nat} {x : Xc} (h : XchgAt w g gl D x) : Calls prog 178 #[.pointer (some ⟨g, 0, none⟩)] w (Ret (.bool x.done) w) := by
 obtain ⟨_, vn, hs, eb, qs, hb, _⟩ := h
 exact done_any hb
theorem xsent_any {w : World} {g gl : Nat} {D : Option Nat} {x : Xc} (h : XchgAt w g gl D x) : Calls prog 183 #[.pointer (some ⟨g, 0, none⟩)] w (Ret (.int .i64 x.sent) w) := by
 obtain ⟨_, vn, hs, eb, qs, hb, _⟩ := h
 exact sent_any hb
structure InvX (n T : Nat) (x : Xc) (tk : Nat) : Prop where
 tr : x.tr.length = n
 rst : x.sent + x.rest ≤ 3 * n
 phi : x.phi ≤ T - tk
 lg : x.lg ≤ 2
 vd : x.done = true → x.vd ≠ 0
theorem newX_st (r : Rs) (q : Qn) (turn : Int) (L : Lt) (ok : (newX (heldR r).tmo (heldR r).vc (heldR r).ed q (triesR r turn) L).1.ok) (he : (encM (askM q 0 (heldR r).ed) false).2 = 0) : (startX (heldR r).tmo (heldR r).vc (heldR r).ed q (triesR r turn)).st := by
 have hl := (tries_le r turn).1
 unfold newX at ok
 rw [if_neg (by rw [he]; decide)] at ok
 unfold tryX at ok
 rw [if_pos (by show 0 < (triesR r turn).length; omega)] at ok
 obtain ⟨f1, f2, f3, f4, f5, f6, f7, f8, f9⟩ := legX_f (startX (heldR r).tmo (heldR r).vc (heldR r).ed q (triesR r turn)) L (if (startX (heldR r).tmo (heldR r).vc (heldR r).ed q (triesR r turn)).vc then 2 else 0)
 have st := ok.st (f1.trans rfl)
 exact ⟨by have := st.ips; rwa [f2] at this, by have := st.to1; rwa [f4] at this, by have := st.to2; rwa [f4] at this, by have := st.trl; rwa [f2] at this, by have := st.err; rwa [f8] at this⟩
theorem newX_len (tmo : Int) (vc ed : Bool) (q : Qn) (tr : List Adr) (L : Lt) : (newX tmo vc ed q tr L).2.2.length ≤ 1 := by
 unfold newX
 split
 ·
  exact Nat.zero_le _
 ·
  exact tryX_len _ _
theorem ticks_le (r : Rs) : ticksR r ≤ 1350 ∧ mostR r ≤ 45 := by
 obtain ⟨h1, h2⟩ := tries_le r 0
 obtain ⟨h3, h4⟩ := tmo_le r
 have hm : mostR r ≤ 45 := by unfold mostR; omega
 refine ⟨?_, hm⟩
 unfold ticksR
 have : (heldR r).tmo.toNat ≤ 30 := by omega
 exact Nat.le_trans (Nat.mul_le_mul this hm) (by decide)
end Go.Proofs.YteimenplbanooaaGreatDoor

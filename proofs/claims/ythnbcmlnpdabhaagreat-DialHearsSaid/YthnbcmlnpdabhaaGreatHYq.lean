/-
  Layer 28, the reference: a dial in memory; out, Hang.
-/
import Derived.Test.YthnbcmlnpdabhaaGreatHXq
import Derived.Test.YthnbcmlnpdabhaaGreatMt7q
namespace Go.Proofs.YthnbcmlnpdabhaaGreat
open _root_.Go.Proofs.Tryz
open Go.RowKit
set_option maxRecDepth 100000
set_option linter.unusedVariables false
set_option linter.unusedSimpArgs false
def rdC (vn : Value) (d : Dl) (ds : List Value) : List Value := qyC vn d.y ++ ([.string (bs d.heard), .bool d.op, .int .i64 d.st] ++ ds)
def Dl.oc (d : Dl) : Prop := d.st = 0 → errP d.y = 0 ∧ d.oct = putB 2 (octP d.y).length ++ octP d.y
def RDialAt (w : World) (g : Nat) (d : Dl) (A : Option Addr) (c : Nat) : Prop := ∃ ds, Blk w g 163 (rdC (.slice A d.y.q.name.length c) d ds) ∧ d.y.sv.ip.length = 16 ∧ MsgOwn w ds d.msg
theorem MsgOwn.rdial {w w' : World} {g : Nat} {L cs : List Value} {m : Msg} (h : MsgOwn w cs m) (hg : w.grownBy w' (some g)) (hb : Blk w g 163 L) : MsgOwn w' cs m := h.blkT hg hb (by decide) (by decide) (by decide)
section
variable {vn : Value} {d : Dl} {ds : List Value} (h : d.y.sv.ip.length = 16)
include h
theorem rd_len : (rdC vn d ds).length = 26 + ds.length := by simp [rdC, qyC_len h]; omega
theorem rd_qy (i : Nat) (hi : i < 23) : (rdC vn d ds)[i]? = (qyC vn d.y)[i]? := by unfold rdC; rw [List.getElem?_append_left (by rw [qyC_len h]; exact hi)]
theorem rd_at (k : Nat) (hk : k < 3) : (rdC vn d ds)[23 + k]? = [Value.string (bs d.heard), .bool d.op, .int .i64 d.st][k]? := by
 unfold rdC
 rw [List.getElem?_append_right (by rw [qyC_len h]; omega), qyC_len h, Nat.add_sub_cancel_left, List.getElem?_append_left (by simpa using hk)]
theorem rd_q : ((rdC vn d ds).drop 0).take 23 = qyC vn d.y := by rw [List.drop_zero]; exact List.take_left' (qyC_len h)
theorem rd_ad : ((rdC vn d ds).drop 0).take 18 = d.y.sv.cells := by
 rw [List.drop_zero]
 unfold rdC qyC
 rw [List.append_assoc]
 exact List.take_left' (d.y.sv.cells_len h)
theorem rd_q3 : ((rdC vn d ds).drop 20).take 3 = qC vn d.y.q := by
 have := qyC_q (vn := vn) h
 unfold rdC
 rw [List.drop_append_of_le_length (by rw [qyC_len h]; omega), List.take_append_of_le_length (by simp [qyC_len h])]
 exact this
theorem rd_drop : (rdC vn d ds).drop 26 = ds := by
 unfold rdC
 rw [show (26 : Nat) = (qyC vn d.y).length + 3 by rw [qyC_len h], List.drop_append]
 simp
theorem rd_put (sub : List Value) (hs : sub.length = ds.length) : (rdC vn d ds).take 26 ++ sub ++ (rdC vn d ds).drop (26 + sub.length) = rdC vn d sub := by
 rw [List.drop_of_length_le (by rw [rd_len h]; omega), List.append_nil]
 have e1 : (rdC vn d ds).take 26 = qyC vn d.y ++ [.string (bs d.heard), .bool d.op, .int .i64 d.st] := by
  unfold rdC
  rw [← List.append_assoc]
  exact List.take_left' (by simp [qyC_len h])
 rw [e1]
 simp [rdC]
theorem rd_set (k : Nat) (hk : k < 3) (x : Value) : (rdC vn d ds).set (23 + k) x = qyC vn d.y ++ ([Value.string (bs d.heard), .bool d.op, .int .i64 d.st].set k x ++ ds) := by
 unfold rdC
 rw [List.set_append_right _ _ (by rw [qyC_len h]; omega), qyC_len h, Nat.add_sub_cancel_left, List.set_append_left _ _ (by simpa using hk)]
end
theorem RDialAt.below {w w' : World} {g : Nat} {d : Dl} {A : Option Addr} {c : Nat} (h : RDialAt w g d A c) (hb : Below w.heap.size w w') : RDialAt w' g d A c := by
 obtain ⟨ds, h1, h2, h3⟩ := h
 exact ⟨ds, h1.below hb h1.lt, h2, h3.below hb⟩
theorem RDialAt.lt {w : World} {g : Nat} {d : Dl} {A : Option Addr} {c : Nat} (h : RDialAt w g d A c) : g < w.heap.size := by obtain ⟨_, h1, _⟩ := h; exact h1.lt
theorem RDialAt.blk {w : World} {g : Nat} {d : Dl} {A : Option Addr} {c : Nat} (h : RDialAt w g d A c) : ∃ L ds, Blk w g 163 L ∧ L.length = 40 ∧ d.y.sv.ip.length = 16 ∧ (L.drop 0).take 23 = qyC (.slice A d.y.q.name.length c) d.y ∧ (L.drop 0).take 18 = d.y.sv.cells ∧ (L.drop 20).take 3 = qC (.slice A d.y.q.name.length c) d.y.q ∧ L[18]? = some (.int .i64 d.y.port) ∧ L[19]? = some (.int .i64 d.y.id) ∧ L[23]? = some (.string (bs d.heard)) ∧ L[24]? = some (.bool d.op) ∧ L[25]? = some (.int .i64 d.st) ∧ (L.drop 26).take 14 = ds ∧ MsgOwn w ds d.msg ∧
  ∀ w' ds' m, w.grownBy w' (some g) → Blk w' g 163 (L.take 26 ++ ds' ++ L.drop (26 + ds'.length)) → MsgOwn w ds' m → RDialAt w' g { d with msg := m } A c := by
 obtain ⟨ds, hb, hip, hM⟩ := h
 have hdl := hM.len
 refine ⟨_, ds, hb, by rw [rd_len hip, hdl], hip, rd_q hip, rd_ad hip, rd_q3 hip, ?_, ?_, rd_at hip 0 (by omega), rd_at hip 1 (by omega), rd_at hip 2 (by omega), by rw [rd_drop hip, List.take_of_length_le (by omega)], hM, ?_⟩
 ·
  rw [rd_qy hip 18 (by omega)]; exact qyC_at hip 0
 ·
  rw [rd_qy hip 19 (by omega)]; exact qyC_at hip 1
 ·
  intro w' ds' m hg hb' hM'
  rw [rd_put hip ds' (by rw [hM'.len, hdl])] at hb'
  exact ⟨ds', hb', hip, hM'.rdial hg hb⟩
theorem RDialAt.set {w : World} {g : Nat} {d d' : Dl} {A : Option Addr} {c : Nat} (h : RDialAt w g d A c) (k : Nat) (hk : k < 3) (x : Value) (hy : d'.y = d.y) (hm : d'.msg = d.msg) (hx : [Value.string (bs d.heard), .bool d.op, .int .i64 d.st].set k x = [Value.string (bs d'.heard), .bool d'.op, .int .i64 d'.st]) : RDialAt (w.setCell ⟨g, 23 + k, none⟩ x) g d' A c := by
 obtain ⟨ds, hb, hip, hM⟩ := h
 have hg : w.grownBy (w.setCell ⟨g, 23 + k, none⟩ x) (some g) := grown_set (World.grownBy.refl _ _) _ _
 have hb2 := hb.set (23 + k) x
 rw [rd_set hip k hk x, hx, ← hy] at hb2
 exact ⟨ds, hb2, by rw [hy]; exact hip, by rw [hm]; exact hM.rdial hg hb⟩
theorem NmR.grown {w w' : World} {A : Option Addr} {c g : Nat} {n : List (List UInt8)} (h : NmR w A c n) (hg : w.grownBy w' (some g)) (hA : 0 < n.length → ∀ a, A = some a → a.block ≠ g) : NmR w' A c n := by
 refine ⟨fun hp => ?_, h.2⟩
 obtain ⟨b, off, h1, h2, h3⟩ := h.1 hp
 refine ⟨b, off, h1, Nat.lt_of_lt_of_le h2 hg.size, fun i hi => ?_⟩
 rw [← h3 i hi]
 exact grown_cell hg ⟨b, off + i, none⟩ h2 (by intro e; injection e with e; exact hA hp _ h1 e)
def RDialRet (g : Nat) (A : Option Addr) (c : Nat) (r : Dl × List Ou) (w : World) (e : Ending) (w' : World) : Prop := ∃ v, e = .returned v ∧ OusN w.heap.size w' v r.2 ∧ RDialAt w' g r.1 A c ∧ w.grownBy w' (some g)
set_option maxHeartbeats 1000000 in
theorem rout_blk (f : FuncId) (hf : f = 83) (g : Nat) (kind : Int) (data : List UInt8) (L : List Value) (to_ : Adr) (port : Int) (w : World) (hb : Blk w g 163 L) (hl : 23 ≤ L.length) (hip : to_.ip.length = 16) (ha : (L.drop 0).take 18 = to_.cells) (hp : L[18]? = some (.int .i64 port)) :
  Calls prog f #[.pointer (some ⟨g, 0, none⟩), .int .i64 kind, .string (bs data)] w (OutRet ⟨kind, to_, port, data⟩ w) := by
 subst hf
 have RB := Hh (fun W => run_bou kind to_ port data hip W)
 have HL := ouC_len (o := ⟨kind, to_, port, data⟩) hip
 have ON := Hh (fun W => ousN_one W ⟨kind, to_, port, data⟩ hip)
 have HA := Hh ha
 clear hip ha
 generalize ouC ⟨kind, to_, port, data⟩ = oc at *
 generalize to_.cells = tc at *
 go_enter func83, ntmps83
 go_wp2_with fail
 refine wp_region_held_drew (S := fun V => Below w.heap.size w V) (by kernel_rfl) (Below.refl _ _).drew (fun hS => ?_)
 (refine held_val 0 (some 7) rfl rfl (by kernel_rfl) (by kernel_rfl) (by kernel_rfl) (fun _ _ _ h => h) (by kernel_rfl) (fun W hW => rfl) hS ?_; simp only [Act.put, lsA, lsB, lsC])
 (refine held_val 1 (some 8) rfl rfl (by kernel_rfl) (by kernel_rfl) (by kernel_rfl) (fun _ _ _ h => h) (by kernel_rfl) (fun W hW => rfl) hS ?_; simp only [Act.put, lsA, lsB, lsC])
 refine held_val 2 (some 9) (v := .pointer (some ⟨g, 0, none⟩)) rfl rfl (by kernel_rfl) (by kernel_rfl) (by kernel_rfl) (fun _ _ _ h => h) (by kernel_rfl) (fun W hW => by kernel_rfl) hS ?_
 simp only [Act.put, lsA, lsB, lsC]
 refine held_val 3 (some 10) (v := .pointer (some ⟨g, 0, none⟩)) rfl rfl (by kernel_rfl) (by kernel_rfl) (by kernel_rfl) (fun _ _ _ h => h) (by kernel_rfl) (fun W hW => rfl) hS ?_
 simp only [Act.put, lsA, lsB, lsC]
 refine held_val 4 (some 11) (v := .pointer (some ⟨g, 0, none⟩)) rfl rfl (by kernel_rfl) (by kernel_rfl) (by kernel_rfl) (fun _ _ _ h => h) (by kernel_rfl) (fun W hW => rfl) hS ?_
 simp only [Act.put, lsA, lsB, lsC]
 refine held_ld 5 (some 12) 24 (.tmp 11) ⟨g, 0, none⟩ rfl rfl rfl rfl (by kernel_rfl) (by kernel_rfl) (by kernel_rfl) (fun _ _ _ h => h) (by kernel_rfl) (fun V hV => (hb.below hV hb.lt).loads 24 0 18 (by omega) _ underlying24 rfl adInfoM _ HA.out) hS ?_
 simp only [Act.put, lsA, lsB, lsC]
 (refine held_val 6 (some 13) rfl rfl (by kernel_rfl) (by kernel_rfl) (by kernel_rfl) (fun _ _ _ h => h) (by kernel_rfl) (fun W hW => rfl) hS ?_; simp only [Act.put, lsA, lsB, lsC])
 refine held_val 7 (some 14) (v := .pointer (some ⟨g, 0, none⟩)) rfl rfl (by kernel_rfl) (by kernel_rfl) (by kernel_rfl) (fun _ _ _ h => h) (by kernel_rfl) (fun W hW => by kernel_rfl) hS ?_
 simp only [Act.put, lsA, lsB, lsC]
 refine held_val 8 (some 15) (v := .pointer (some ⟨g, 0, none⟩)) rfl rfl (by kernel_rfl) (by kernel_rfl) (by kernel_rfl) (fun _ _ _ h => h) (by kernel_rfl) (fun W hW => rfl) hS ?_
 simp only [Act.put, lsA, lsB, lsC]
 refine held_val 9 (some 16) (v := .pointer (some ⟨g, 18, none⟩)) rfl rfl (by kernel_rfl) (by kernel_rfl) (by kernel_rfl) (fun _ _ _ h => h) (by kernel_rfl) (fun W hW => rfl) hS ?_
 simp only [Act.put, lsA, lsB, lsC]
 refine held_ld 10 (some 17) 3 (.tmp 16) ⟨g, 18, none⟩ rfl rfl rfl rfl (by kernel_rfl) (by kernel_rfl) (by kernel_rfl) (fun _ _ _ h => h) (by kernel_rfl) (fun V hV => run_load1 underlying3 rfl ((hb.below hV hb.lt).cell_ 18 hp)) hS ?_
 simp only [Act.put, lsA, lsB, lsC]
 (refine held_val 11 (some 18) rfl rfl (by kernel_rfl) (by kernel_rfl) (by kernel_rfl) (fun _ _ _ h => h) (by kernel_rfl) (fun W hW => rfl) hS ?_; simp only [Act.put, lsA, lsB, lsC])
 refine held_val 12 (some 19) (v := .agg oc.toArray) rfl rfl (by kernel_rfl) (by kernel_rfl) (by kernel_rfl) (fun _ _ _ h => h) (by kernel_rfl) (fun W hW => exec_bld 97 _ rfl #[(0, .int .i64 kind), (1, .agg tc.toArray), (2, .int .i64 port), (3, .string (bs data))] (by kernel_rfl) (RB.out W)) hS ?_
 simp only [Act.put, lsA, lsB, lsC]
 refine ord_one 13 (by kernel_rfl) ?_
 refine opw_run 13 (some 20) rfl rfl (by kernel_rfl) (exec_bsOu (.tmp 19) rfl rfl (run_bsOu _ oc HL)) ?_
 have OO := ON.out w.drew
 have hS2 : Below w.heap.size w (w.drew.alloc (.cells oc.toArray 97)) := hS.alloc hS.size _
 refine ⟨hS2, ?_⟩
 clear hS
 have hS := hS2
 clear hS2
 simp only [Act.put, lsA, lsB, lsC]
 (refine held_val 14 (some 6) rfl rfl (by kernel_rfl) (by kernel_rfl) (by kernel_rfl) (fun _ _ _ h => h) (by kernel_rfl) (fun W hW => rfl) hS ?_; simp only [Act.put, lsA, lsB, lsC])
 refine wpAnyH_done (by kernel_rfl) ?_ _
 go_wp2_with fail
 go_ret
 exact ⟨_, rfl, OO, hS⟩
theorem RDialAt.out {w : World} {g : Nat} {d : Dl} {A : Option Addr} {c : Nat} (h : RDialAt w g d A c) (kind : Int) (data : List UInt8) :
  Calls prog 83 #[.pointer (some ⟨g, 0, none⟩), .int .i64 kind, .string (bs data)] w (OutRet ⟨kind, d.y.sv, d.y.port, data⟩ w) := by
 obtain ⟨L, ds, hb, hL, hip, _, ha, _, hp, _⟩ := h.blk
 exact rout_blk _ rfl g kind data _ d.y.sv d.y.port w hb (by omega) hip ha hp
theorem rhang_any (g : Nat) (d : Dl) (A : Option Addr) (c : Nat) (w : World) (h : RDialAt w g d A c) : Calls prog 29 #[.pointer (some ⟨g, 0, none⟩)] w (RDialRet g A c (hangD d) w) := by
 have h' := h
 obtain ⟨L, ds, hb, hL, hip, _, _, _, _, _, _, _, c25, _⟩ := h.blk
 have a25 := hb.cell_ 25 c25
 have f25 := hb.frozen 25
 have hgl := hb.lt
 by_cases hs : d.st = 0
 case neg =>
  have e1 : hangD d = (d, []) := by unfold hangD; rw [if_pos hs]
  rw [e1]
  have hs' : (d.st != 0) = true := by simpa using hs
  have H := Hh h'
  clear h' h hb hip hs e1 c25
  generalize d.st = st at *
  go_enter func29, ntmps29
  go_wp2_with fail
  go_ret
  exact ⟨_, rfl, OusN.nil _ _, H.out, World.grownBy.refl _ _⟩
 have e1 : hangD d = ({ d with st := 2 }, [⟨4, d.y.sv, d.y.port, []⟩]) := by unfold hangD; rw [if_neg (by rw [hs]; decide)]
 rw [e1]
 have J2 : RDialAt (w.setCell ⟨g, 25, none⟩ (.int .i64 2)) g { d with st := 2 } A c := h.set 2 (by omega) (.int .i64 2) rfl rfl rfl
 have G2 : w.grownBy (w.setCell ⟨g, 25, none⟩ (.int .i64 2)) (some g) := grown_set (World.grownBy.refl _ _) _ _
 have OC := Hh (J2.out 4 [])
 have HJ := Hh J2
 rw [hs] at a25
 clear h' h hb hip hs e1 J2 c25
 go_enter func29, ntmps29
 go_wp2_with fail
 refine OC.out.mono ?_
 rintro _ w2 ⟨v, rfl, hO, b2⟩
 go_wp2_with fail
 go_ret
 exact ⟨_, rfl, hO.mono (by simp [World.setCell]), HJ.out.below b2, grown_below G2 b2⟩
def firstP (d : Dl) : Msg × Bool := match firstA d.y (frames d.heard) with
 | some m => (m, true)
 | none => (Msg.zero, false)
theorem exec_ixS {ba oa k n c : Nat} {o : Oper} {a : Act} (x y : Operand) (ho : o.op = .indexAddr 25 x y) (hx : a.eval x = .slice (some ⟨ba, oa, none⟩) n c) (hy : a.eval y = .int .i64 k) (hk : k < n) (w : World) : (execOp a.eval o).run prog w = .ok (.value (.pointer (some ⟨ba, oa + k, none⟩))) w := by
 have h1 : (k : Int) < n := by omega
 have hr : (Instr.indexAt 25 (.slice (some ⟨ba, oa, none⟩) n c) (.int .i64 k)).run prog w = .ok (.pointer (some ⟨ba, oa + k, none⟩)) w := by
  obtain ⟨i, hi, _, hsize, _⟩ := info_parts strInfo
  simp [Instr.indexAt, run_underlying underlying25, asIntOf, sizeOf, typeInfo, hi, hsize, h1, Addr.add]
  rw [if_pos hk]
  by_cases h0 : k = 0
  ·
   subst h0; simp
  ·
   rw [if_neg h0]
 unfold execOp
 simp only [ho, hx, hy, Sem.run_bind, hr, Result.andThen_ok, Sem.run_pure]
set_option maxHeartbeats 4000000 in
theorem rfirst_any (g : Nat) (d : Dl) (A : Option Addr) (c : Nat) (w : World) (h : RDialAt w g d A c) (hN : NmR w A c d.y.q.name) (hq : lsum d.y.q.name ≤ 1000) (hb : d.heard.length ≤ 8796093022208) :
  Calls prog 85 #[.pointer (some ⟨g, 0, none⟩)] w (FrRet (firstP d) w) := by
 have HX : Below w.heap.size w (w.alloc (.cells msgZ.toArray 50)) := (Below.refl _ _).alloc (Nat.le_refl _) _
 have BX := Blk.new w 50 msgZ
 obtain ⟨L, ds, hbw, hL, hip, hqq, _, _, _, _, c23, _⟩ := h.blk
 have a23 := hbw.cell_ 23 c23
 have hgl := hbw.lt
 have hbk := hbw.alloc (.cells msgZ.toArray 50)
 clear hbw
 have hNX := hN.below HX
 have FS := Hh (frames_any d.heard (w.alloc (.cells msgZ.toArray 50)) hb)
 have hnl : (frames d.heard).length ≤ 8796093022208 := by
  have := frames_le d.heard.length d.heard (Nat.le_refl _)
  omega
 obtain ⟨R, hR⟩ : ∃ R, Hid (firstP d = R) := ⟨_, Hh rfl⟩
 have HB : Hid (R = match firstA d.y (frames d.heard) with
  | some m => (m, true)
  | none => (Msg.zero, false)) := Hh hR.out.symm
 rw [hR.out]
 unfold FsRet at FS
 have HQ := Hh hqq
 clear h hN hb c23 hqq hR
 generalize ((d.heard.length - (restF d.heard).length : Nat) : Int) = kk at *
 generalize frames d.heard = l at *
 generalize d.heard = hd at *
 go_enter func85, ntmps85
 go_wp2_with fail
 refine FS.out.mono ?_
 rintro _ w1 ⟨v, rfl, hT, b1⟩
 obtain ⟨A1, c1, hv, -, -⟩ := hT.form
 subst hv
 have C1 := hbk.below b1 hbk.lt
 have B1 := BX.below b1 BX.lt
 have HB1 := below_then HX HX.size b1
 have hN1 := hNX.below b1
 clear FS a23 hbk BX HX b1 hNX
 go_wp2_with fail
 go_loopw [6] (fun iv wr => ∃ k : Nat, k ≤ l.length ∧ iv = .int .i64 k ∧ firstA d.y (l.take k) = none ∧ Below w1.heap.size w1 wr) (fun iv _ => l.length - (intOf iv).toNat)
 case atStart => exact ⟨0, Nat.zero_le _, rfl, rfl, Below.refl _ _⟩
 obtain ⟨k, hk, rfl, hno, hW⟩ := hrel
 have HN := Hh hno
 clear hno
 by_cases hlt : k < l.length
 case pos =>
  have hlt' : (k : Int) < l.length := by omega
  obtain ⟨A', c', hA, hTx, hc⟩ := (hT.below hW).form
  injection hA with hA1 hA2 hA3
  subst hA1 hA3
  obtain ⟨ba, oa, hA, la, xa⟩ := hTx (by omega)
  subst hA
  have CW := C1.below hW C1.lt
  have FR := Hh (fun W (b : Below wr.heap.size wr W) => rframe_any (qyC (.slice A d.y.q.name.length c) d.y) d.y A c l[k] W ⟨rfl, hip, (hN1.below hW).below b⟩ hq)
  have XS : Hid (∀ V, Below wr.heap.size wr V → V.cell? ⟨ba, oa + k, none⟩ = some (.string (bs l[k]))) := Hh (fun V hV => (hV.cell (p := ⟨ba, oa + k, none⟩) la).trans (xa k hlt))
  have HY : Hid ((frameP d.y (decM l[k])).2 = true → firstA d.y l = some (frameP d.y (decM l[k])).1) := Hh (fun hf => firstA_take_yes hlt HN.out hf)
  have HNO : Hid ((frameP d.y (decM l[k])).2 = false → firstA d.y (l.take (k + 1)) = none) := Hh (fun hf => firstA_take_no hlt HN.out hf)
  clear xa hTx hc HN
  generalize frameP d.y (decM l[k]) = F at *
  generalize l[k] = t at *
  generalize qyC (.slice A d.y.q.name.length c) d.y = qs at *
  go_upto_region 6 with fail
  go_cut [7, 8] (fun v7 v8 wx => ∃ gz es2, v7 = .pointer (some ⟨gz, 0, none⟩) ∧ v8 = .bool F.2 ∧ Blk wx gz 50 es2 ∧ MsgOwn wx es2 F.1 ∧ Below wr.heap.size wr wx)
  case first =>
   refine wp_region_held_drew (S := fun V => Below wr.heap.size wr V) (by kernel_rfl) (Below.refl _ _).drew (fun hS => ?_)
   (refine held_val 0 (some 24) rfl rfl (by kernel_rfl) (by kernel_rfl) (by kernel_rfl) (fun _ _ _ h => h) (by kernel_rfl) (fun W hW => rfl) hS ?_; simp only [Act.put, lsA, lsB, lsC])
   refine held_val 1 (some 25) (v := .pointer (some ⟨g, 0, none⟩)) rfl rfl (by kernel_rfl) (by kernel_rfl) (by kernel_rfl) (fun _ _ _ h => h) (by kernel_rfl) (fun W hW => by kernel_rfl) hS ?_
   simp only [Act.put, lsA, lsB, lsC]
   refine held_val 2 (some 26) (v := .pointer (some ⟨g, 0, none⟩)) rfl rfl (by kernel_rfl) (by kernel_rfl) (by kernel_rfl) (fun _ _ _ h => h) (by kernel_rfl) (fun W hW => rfl) hS ?_
   simp only [Act.put, lsA, lsB, lsC]
   refine held_ld 3 (some 27) 30 (.tmp 26) ⟨g, 0, none⟩ rfl rfl rfl rfl (by kernel_rfl) (by kernel_rfl) (by kernel_rfl) (fun _ _ _ h => h) (by kernel_rfl) (fun V hV => (CW.below hV CW.lt).loads 30 0 23 (by omega) _ underlying30 rfl qrInfo qs HQ.out) hS ?_
   simp only [Act.put, lsA, lsB, lsC]
   (refine held_val 4 (some 28) rfl rfl (by kernel_rfl) (by kernel_rfl) (by kernel_rfl) (fun _ _ _ h => h) (by kernel_rfl) (fun W hW => rfl) hS ?_; simp only [Act.put, lsA, lsB, lsC])
   (refine held_val 5 (some 29) rfl rfl (by kernel_rfl) (by kernel_rfl) (by kernel_rfl) (fun _ _ _ h => h) (by kernel_rfl) (fun W hW => rfl) hS ?_; simp only [Act.put, lsA, lsB, lsC])
   refine held_val 6 (some 30) (v := .pointer (some ⟨ba, oa + k, none⟩)) rfl rfl (by kernel_rfl) (by kernel_rfl) (by kernel_rfl) (fun _ _ _ h => h) (by kernel_rfl) (fun W hW => exec_ixS (.tmp 28) (.tmp 29) rfl rfl rfl hlt W) hS ?_
   simp only [Act.put, lsA, lsB, lsC]
   refine held_ld 7 (some 31) 9 (.tmp 30) ⟨ba, oa + k, none⟩ rfl rfl rfl rfl (by kernel_rfl) (by kernel_rfl) (by kernel_rfl) (fun _ _ _ h => h) (by kernel_rfl) (fun V hV => run_load1 underlying9 rfl (XS.out V hV)) hS ?_
   simp only [Act.put, lsA, lsB, lsC]
   refine ord_two 8 12 (by kernel_rfl) ?_ ?_
   ·
    refine opw_call 8 (some 32) 20 #[.agg qs.toArray, .string (bs t)] rfl rfl (by kernel_rfl) (by go_simp) (FR.out _ hS) ?_
    rintro _ w9 ⟨es2, rfl, hM9, b9⟩
    have hel := hM9.len
    have he1 := Hh hM9.one
    have hS3 : Below wr.heap.size wr w9 := below_then hS hS.size b9
    refine ⟨_, rfl, hS3, ?_⟩
    clear hS
    have hS := hS3
    clear hS3
    simp only [Act.put, lsA, lsB, lsC]
    (refine held_val 9 (some 23) rfl rfl (by kernel_rfl) (by kernel_rfl) (by kernel_rfl) (fun _ _ _ h => h) (by kernel_rfl) (fun W hW => rfl) hS ?_; simp only [Act.put, lsA, lsB, lsC])
    (refine held_val 10 (some 33) rfl rfl (by kernel_rfl) (by kernel_rfl) (by kernel_rfl) (fun _ _ _ h => h) (by kernel_rfl) (fun W hW => rfl) hS ?_; simp only [Act.put, lsA, lsB, lsC])
    (refine held_val 11 (some 34) rfl rfl (by kernel_rfl) (by kernel_rfl) (by kernel_rfl) (fun _ _ _ h => h) (by kernel_rfl) (fun W hW => rfl) hS ?_; simp only [Act.put, lsA, lsB, lsC])
    refine ord_one 12 (by kernel_rfl) ?_
    generalize hWW : w9 = WW at *
    refine opw_run 12 (some 7) (v := .pointer (some ⟨WW.heap.size, 0, none⟩)) (w' := WW.alloc (.cells msgZ.toArray 50)) rfl rfl (by kernel_rfl) (by kernel_rfl) ?_
    have kn : Below WW.heap.size WW (WW.alloc (.cells msgZ.toArray 50)) := (Below.refl _ _).alloc (Nat.le_refl _) _
    have Bz := Blk.new WW 50 msgZ
    have hS4 := below_then hS hS.size kn
    have hz : wr.heap.size ≤ WW.heap.size := hS.size
    refine ⟨hS4, ?_⟩
    clear hS
    have hS := hS4
    clear hS4
    simp only [Act.put, lsA, lsB, lsC]
    replace hM9 := hM9.below kn
    clear kn
    generalize WW.heap.size = gz at *
    refine held_stB 13 none 50 (.tmp 7) (.tmp 33) (by kernel_rfl) rfl rfl rfl (by kernel_rfl) gz 0 rfl es2 rfl Bz (by have := msgZ_len; omega) (by rw [hel]; exact msgInfo) he1.out ?_
    intro wa Ba ga _
    replace Ba : Blk wa gz 50 es2 := wholeT Ba (by have := msgZ_len; omega)
    have hMa := hM9.blk ga Bz
    have hS5 := below_grown hS ga hS.size hz
    refine ⟨hS5, ?_⟩
    clear hS ga Bz hM9
    have hS := hS5
    clear hS5
    simp only [Act.put, lsA, lsB, lsC]
    (refine held_val 14 (some 8) rfl rfl (by kernel_rfl) (by kernel_rfl) (by kernel_rfl) (fun _ _ _ h => h) (by kernel_rfl) (fun W hW => rfl) hS ?_; simp only [Act.put, lsA, lsB, lsC])
    refine wpAnyH_done (by kernel_rfl) ?_ _
    go_wp2_with fail
    go_meet
    case rel => exact ⟨gz, es2, rfl, rfl, Ba, hMa, hS⟩
   ·
    obtain ⟨WW, hWW⟩ : ∃ WW, wr.drew = WW := ⟨_, rfl⟩
    rw [hWW] at hS ⊢
    refine opw_run 12 (some 7) (v := .pointer (some ⟨WW.heap.size, 0, none⟩)) (w' := WW.alloc (.cells msgZ.toArray 50)) rfl rfl (by kernel_rfl) (by kernel_rfl) ?_
    have kn : Below WW.heap.size WW (WW.alloc (.cells msgZ.toArray 50)) := (Below.refl _ _).alloc (Nat.le_refl _) _
    have Bz := Blk.new WW 50 msgZ
    have hS4 := below_then hS hS.size kn
    have hz : wr.heap.size ≤ WW.heap.size := hS.size
    refine ⟨hS4, ?_⟩
    clear hS
    have hS := hS4
    clear hS4
    simp only [Act.put, lsA, lsB, lsC]
    clear kn
    refine ord_one 8 (by kernel_rfl) ?_
    refine opw_call 8 (some 32) 20 #[.agg qs.toArray, .string (bs t)] rfl rfl (by kernel_rfl) (by go_simp) (FR.out _ hS) ?_
    rintro _ w9 ⟨es2, rfl, hM9, b9⟩
    have hel := hM9.len
    have he1 := Hh hM9.one
    have hS3 : Below wr.heap.size wr w9 := below_then hS hS.size b9
    refine ⟨_, rfl, hS3, ?_⟩
    clear hS
    have hS := hS3
    clear hS3
    simp only [Act.put, lsA, lsB, lsC]
    replace Bz := Bz.below b9 Bz.lt
    (refine held_val 9 (some 23) rfl rfl (by kernel_rfl) (by kernel_rfl) (by kernel_rfl) (fun _ _ _ h => h) (by kernel_rfl) (fun W hW => rfl) hS ?_; simp only [Act.put, lsA, lsB, lsC])
    (refine held_val 10 (some 33) rfl rfl (by kernel_rfl) (by kernel_rfl) (by kernel_rfl) (fun _ _ _ h => h) (by kernel_rfl) (fun W hW => rfl) hS ?_; simp only [Act.put, lsA, lsB, lsC])
    (refine held_val 11 (some 34) rfl rfl (by kernel_rfl) (by kernel_rfl) (by kernel_rfl) (fun _ _ _ h => h) (by kernel_rfl) (fun W hW => rfl) hS ?_; simp only [Act.put, lsA, lsB, lsC])
    generalize WW.heap.size = gz at *
    refine held_stB 13 none 50 (.tmp 7) (.tmp 33) (by kernel_rfl) rfl rfl rfl (by kernel_rfl) gz 0 rfl es2 rfl Bz (by have := msgZ_len; omega) (by rw [hel]; exact msgInfo) he1.out ?_
    intro wa Ba ga _
    replace Ba : Blk wa gz 50 es2 := wholeT Ba (by have := msgZ_len; omega)
    have hMa := hM9.blk ga Bz
    have hS5 := below_grown hS ga hS.size hz
    refine ⟨hS5, ?_⟩
    clear hS ga Bz hM9
    have hS := hS5
    clear hS5
    simp only [Act.put, lsA, lsB, lsC]
    (refine held_val 14 (some 8) rfl rfl (by kernel_rfl) (by kernel_rfl) (by kernel_rfl) (fun _ _ _ h => h) (by kernel_rfl) (fun W hW => rfl) hS ?_; simp only [Act.put, lsA, lsB, lsC])
    refine wpAnyH_done (by kernel_rfl) ?_ _
    go_wp2_with fail
    go_meet
    case rel => exact ⟨gz, es2, rfl, rfl, Ba, hMa, hS⟩
  obtain ⟨gz, es2, rfl, rfl, Bz, hMz, bz⟩ := hcut
  have hel := hMz.len
  have he1 := Hh hMz.one
  have HWz := below_then hW hW.size bz
  have BR := B1.below HWz B1.lt
  have HBz := below_then HB1 HB1.size HWz
  clear FR XS CW bz
  cases hf : F.2 with
  | false =>
   have hn := HNO.out hf
   have HN := Hh hn
   clear hn HNO HY hf hMz Bz BR
   go_wp2_with fail
   go_roundw
   case rel => exact ⟨k + 1, by omega, by go_num, HN.out, HWz⟩
   case measure => simp [intOf]; omega
  | true =>
   have HR2 : Hid (R = (F.1, true)) := Hh (by rw [HB.out, HY.out hf])
   clear HNO HY hf HB
   go_wp2_with (first
    | (refine at_op (.load 50 (.tmp 7)) rfl ?_; go_must (refine wpList_ldB rfl _ _ rfl gz 0 rfl Bz 14 (by omega) _ underlying50 rfl msgInfo es2 (tk0 (by omega)) ?_))
    | (refine at_op (.store 50 (.tmp 2) (.tmp 36)) rfl ?_; go_must (refine wpList_stB rfl _ _ _ rfl w.heap.size 0 rfl es2 rfl BR (by have := msgZ_len; omega) (by rw [hel]; exact msgInfo) he1.out ?_)))
   intro w8 B8 g8 _
   replace B8 : Blk w8 w.heap.size 50 es2 := wholeT B8 (by have := msgZ_len; omega)
   have HB8 := below_grown HBz g8 HBz.size (Nat.le_refl _)
   have hM8 := hMz.blk g8 BR
   clear g8 BR Bz HBz hMz
   go_wp2_with fail
   refine ret_cell_tmp rfl w.heap.size rfl B8 _ underlying50 rfl (by rw [hel]; exact msgInfo) rfl (.bool true) rfl ?_
   rw [HR2.out]
   exact ⟨es2, rfl, hM8, HB8⟩
 obtain rfl : k = l.length := by omega
 have hlt' : ¬ (l.length : Int) < l.length := by omega
 have hn := HN.out
 rw [List.take_of_length_le (Nat.le_refl _)] at hn
 have HR2 : Hid (R = (Msg.zero, false)) := Hh (by rw [HB.out, hn])
 have BR := B1.below hW B1.lt
 have HBz := below_then HB1 HB1.size hW
 clear hn HN HB C1 B1 hT hN1
 go_wp2_with (refine at_op (.store 50 (.tmp 2) (.tmp 37)) rfl ?_; go_must (refine wpList_stB rfl _ _ _ rfl w.heap.size 0 rfl msgZ rfl BR (by have := msgZ_len; omega) msgInfo msgZ_one ?_))
 intro w8 B8 g8 _
 replace B8 : Blk w8 w.heap.size 50 msgZ := by first | exact B8 | exact wholeT B8 (by have := msgZ_len; omega)
 have HB8 := below_grown HBz g8 HBz.size (Nat.le_refl _)
 clear g8 BR HBz
 go_wp2_with fail
 refine ret_cell_tmp rfl w.heap.size rfl B8 _ underlying50 rfl msgInfo rfl (.bool false) rfl ?_
 rw [HR2.out]
 exact ⟨msgZ, rfl, MsgOwn.zero _, HB8⟩
end Go.Proofs.YthnbcmlnpdabhaaGreat

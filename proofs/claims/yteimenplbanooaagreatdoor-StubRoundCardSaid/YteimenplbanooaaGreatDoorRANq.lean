/-
  The reference's layer 24: Message. ask.Build.
-/
import Derived.Test.YteimenplbanooaaGreatDoorRAMq
namespace Go.Proofs.YteimenplbanooaaGreatDoor
open _root_.Go.Proofs.Tryz
open Go.RowKit
set_option maxRecDepth 100000
set_option linter.unusedVariables false
set_option linter.unusedSimpArgs false
set_option maxHeartbeats 1000000 in
theorem build_any (A : Option Addr) (c : Nat) (q : Qn) (id : Int) (edns : Bool) (w : World) (hA : NmR w A c q.name) (hn : q.name.length ≤ 100000) :
  Calls prog 226 #[.agg #[.slice A q.name.length c, .int .i64 q.ty, .int .i64 q.cl], .int .i64 id, .bool edns] w (RetB (.tuple #[.string (bs (encM (askM q id edns) false).1), .int .i64 (encM (askM q id edns) false).2]) w) := by
 have kb : Below w.heap.size w (w.alloc (.cells #[.slice A q.name.length c, .int .i64 q.ty, .int .i64 q.cl] 218)) := (Below.refl _ _).alloc (Nat.le_refl _) _
 have MS := Hh (askMessage_any A c q id edns _ (hA.below kb) hn)
 have h1 : (askM q id edns).qs.length ≤ 700 := by simp [askM]
 have h2 : (askM q id edns).rrs.length ≤ 400 := by cases edns <;> simp [askM, Msg.rrs]
 clear hA hn
 generalize askM q id edns = M at *
 generalize q.ty = ty at *
 generalize q.cl = cl at *
 generalize q.name.length = nl at *
 go_enter func226, ntmps226
 go_wp2_with fail
 refine MS.out.mono ?_
 rintro _ w1 ⟨cs, Aq, Aa, Au, Ae, cq, ca, cu, ce, rfl, b1, hM⟩
 have EN := Hh (mencode_any cs M false Aq Aa Au Ae cq ca cu ce w1 (hM w1 (Above.refl _ _)) h1 h2)
 have b2 := below_then kb kb.size b1
 generalize (encM M false).1 = o1 at *
 generalize (encM M false).2 = o2 at *
 clear hM b1 MS
 go_wp2_with fail
 refine EN.out.mono ?_
 rintro _ w2 ⟨rfl, b3⟩
 have b4 := below_then b2 b2.size b3
 clear EN
 go_wp2_with fail
 go_ret2
 exact RetB.mk rfl b4
structure Ou where
 kind : Int
 to_ : Adr
 port : Int
 data : List UInt8
deriving DecidableEq
structure Dl where
 y : Qy
 oct : List UInt8
 st : Int
 op : Bool
 heard : List UInt8
 msg : Msg
def octP (y : Qy) : List UInt8 := (encM (askM y.q y.id false) false).1
def errP (y : Qy) : Int := (encM (askM y.q y.id false) false).2
def newD (y : Qy) : Dl × List Ou := if errP y = 0 then (⟨y, putB 2 (octP y).length ++ octP y, 0, false, [], Msg.zero⟩, [⟨2, y.sv, y.port, []⟩]) else (⟨y, [], 2, false, [], Msg.zero⟩, [])
def firstA (y : Qy) : List (List UInt8) → Option Msg
 | [] => none
 | s :: l => if (frameP y (decM s)).2 then some (frameP y (decM s)).1 else firstA y l
def Dl.ok (d : Dl) : Prop := d.st = 0 → firstA d.y (frames d.heard) = none
theorem newD_ok (y : Qy) : (newD y).1.ok := by
 unfold newD
 split
 ·
  intro _
  show firstA y (frames []) = none
  rw [(frames_no [] (by simp [wholeB])).1]; rfl
 ·
  intro h; cases h
def ouC (o : Ou) : List Value := .int .i64 o.kind :: (o.to_.cells ++ [.int .i64 o.port, .string (bs o.data)])
theorem ouC_len {o : Ou} (h : o.to_.ip.length = 16) : (ouC o).length = 21 := by simp [ouC, o.to_.cells_len h]
theorem ouC_one {o : Ou} : ∀ v ∈ ouC o, v.oneCell' = true := by
 intro v hv
 rcases List.mem_cons.1 hv with rfl | hv
 ·
  rfl
 rcases List.mem_append.1 hv with hv | hv
 ·
  exact o.to_.cells_one v hv
 ·
  simp only [List.mem_cons, List.not_mem_nil, or_false] at hv
  rcases hv with rfl | rfl <;> rfl
def OusR (w : World) (A : Option Addr) (l : List Ou) : Prop := (∀ o ∈ l, o.to_.ip.length = 16) ∧ (0 < l.length → ∃ b off, A = some ⟨b, off, none⟩ ∧ b < w.heap.size ∧ ∀ i (hi : i < l.length), w.rangeAt b (off + i * 21) (ouC l[i]))
theorem run_eqA9 (a b : Adr) (ha : a.ip.length = 16) (hb : b.ip.length = 16) (w : World) : (Op.equalIn 9999 24 (.agg a.cells.toArray) (.agg b.cells.toArray)).run prog w = .ok (decide (a = b)) w := by
 rw [run_equalIn_struct w 9998 24 _ _ (by unfold Program.fieldsOf; rw [underlying24]) (by kernel_rfl), fields_adr]
 have p0 : ∀ (x : Adr) (w : World), (part 3 x.cells.toArray 0).run prog w = .ok (.int .i64 x.fam) w := fun x w => by simp [part, isAgg, run_underlying underlying3, Adr.cells]
 have p1 : ∀ (x : Adr), x.ip.length = 16 → ∀ (w : World), (part 22 x.cells.toArray 1).run prog w = .ok (.agg (octs x.ip).toArray) w := fun x hx w => by
  simp only [part, isAgg, Sem.run_bind, run_underlying underlying22, Result.andThen_ok, Sem.run_pure, if_true, size_ip, Sem.run_ite]
  rw [show 1 + 16 = 17 from rfl, x.ip_part hx]
 have p2 : ∀ (x : Adr), x.ip.length = 16 → ∀ (w : World), (part 3 x.cells.toArray 17).run prog w = .ok (.int .i64 x.zone) w := fun x hx w => by simp [part, isAgg, run_underlying underlying3, x.zone_at hx]
 have e0 : (Op.equalIn 9998 3 (.int .i64 a.fam) (.int .i64 b.fam)).run prog w = .ok (a.fam == b.fam) w := run_equalIn_int w 9997 _ _ _ _ _ underlying3
 have e1 : (Op.equalIn 9998 22 (.agg (octs a.ip).toArray) (.agg (octs b.ip).toArray)).run prog w = .ok (decide (a.ip = b.ip)) w := by
  rw [octs_map, octs_map, run_equalIn_ints w 9996 _ 5 16 .u8 underlying22 underlying5 size_u8 _ _ (by simpa using ha) (by simpa using hb), toNat_inj_list]
 have e2 : (Op.equalIn 9998 3 (.int .i64 a.zone) (.int .i64 b.zone)).run prog w = .ok (a.zone == b.zone) w := run_equalIn_int w 9997 _ _ _ _ _ underlying3
 simp only [Op.eqFields, ne_eq, String.reduceEq, not_false_eq_true, if_true, Sem.run_bind, p0, p1 a ha, p1 b hb, p2 a ha, p2 b hb, e0, e1, e2, Result.andThen_ok, Sem.run_ite, Sem.run_pure]
 obtain ⟨fa, ia, za⟩ := a
 obtain ⟨fb, ib, zb⟩ := b
 simp only [Adr.mk.injEq]
 by_cases h1 : fa = fb <;> by_cases h2 : ia = ib <;> by_cases h3 : za = zb <;> simp [h1, h2, h3]
theorem size_adr (w : World) : (sizeOf 24).run prog w = .ok 18 w := by kernel_rfl
def NmL (w : World) (v : Value) (n : List (List UInt8)) : Prop := Txts w v n ∧ n.length ≤ 100000 ∧ ∀ l ∈ n, l.length ≤ 140737488355328
theorem NmL.stays {w w' : World} {v : Value} {n : List (List UInt8)} (h : NmL w v n) (k : Stays w w') : NmL w' v n := ⟨k _ _ h.1, h.2⟩
theorem NmL.form {w : World} {v : Value} {n : List (List UInt8)} (h : NmL w v n) : ∃ A c, v = .slice A n.length c ∧ NmR w A c n := by
 obtain ⟨A, c, h1, h2, h3⟩ := h.1.form
 exact ⟨A, c, h1, h2, h3, by have := h.2.1; omega, h.2.2⟩
theorem MsgOwn.blkT {w w' : World} {g : Nat} {t : TypeId} {cs L : List Value} {m : Msg} (h : MsgOwn w cs m) (hg : w.grownBy w' (some g)) (hb : Blk w g t L) (h1 : t ≠ 218) (h2 : t ≠ 96) (h3 : t ≠ 9) : MsgOwn w' cs m := by
 obtain ⟨vq, va, vu, ve, k1, k2, k3, k4, k5, l⟩ := h
 exact ⟨vq, va, vu, ve, k1, k2.blk hg hb h1 h3, k3.blk hg hb h2 h3, k4.blk hg hb h2 h3, k5.blk hg hb h2 h3, l⟩
def dlP (vn : Value) (d : Dl) : List Value := qyC vn d.y ++ [.string (bs d.oct), .int .i64 d.st, .bool d.op]
section
variable {vn : Value} {d : Dl} (h : d.y.sv.ip.length = 16) {post : List Value} {a b c e : Value}
include h
theorem dlP_len : (dlP vn d).length = 26 := by simp [dlP, qyC_len h]
theorem dl_pre (i : Nat) (hi : i < 26) : (JB (dlP vn d) post a b c e)[i]? = (dlP vn d)[i]? := by unfold JB; rw [List.getElem?_append_left (by rw [dlP_len h]; exact hi)]
theorem dl_at (k : Nat) (hk : k < 3) : (JB (dlP vn d) post a b c e)[23 + k]? = [Value.string (bs d.oct), .int .i64 d.st, .bool d.op][k]? := by
 rw [dl_pre h _ (by omega)]
 unfold dlP
 rw [List.getElem?_append_right (by rw [qyC_len h]; omega), qyC_len h, Nat.add_sub_cancel_left]
theorem dl_qy (i : Nat) (hi : i < 23) : (JB (dlP vn d) post a b c e)[i]? = (qyC vn d.y)[i]? := by
 rw [dl_pre h _ (by omega)]
 unfold dlP
 rw [List.getElem?_append_left (by rw [qyC_len h]; exact hi)]
theorem dl_port : (JB (dlP vn d) post a b c e)[18]? = some (.int .i64 d.y.port) := by rw [dl_qy h 18 (by omega)]; exact qyC_at h 0
theorem dl_q : ((JB (dlP vn d) post a b c e).drop 0).take 23 = qyC vn d.y := by
 rw [List.drop_zero]
 unfold JB dlP
 rw [List.append_assoc]
 exact List.take_left' (qyC_len h)
theorem dl_ad : ((JB (dlP vn d) post a b c e).drop 0).take 18 = d.y.sv.cells := by
 rw [List.drop_zero]
 unfold JB dlP qyC
 rw [List.append_assoc, List.append_assoc]
 exact List.take_left' (d.y.sv.cells_len h)
theorem dl_len : (JB (dlP vn d) post a b c e).length = 30 + post.length := by simp [JB, dlP_len h]; omega
theorem dl_post : (JB (dlP vn d) post a b c e).drop 30 = post := by
 unfold JB
 rw [show (30 : Nat) = (dlP vn d).length + 4 by rw [dlP_len h], List.drop_append]
 simp
theorem dl_put (sub : List Value) (hs : sub.length = post.length) : (JB (dlP vn d) post a b c e).take 30 ++ sub ++ (JB (dlP vn d) post a b c e).drop (30 + sub.length) = JB (dlP vn d) sub a b c e := by
 rw [List.drop_of_length_le (by rw [dl_len h]; omega), List.append_nil]
 have e1 : (JB (dlP vn d) post a b c e).take 30 = dlP vn d ++ [a, b, c, e] := by
  unfold JB
  rw [show (30 : Nat) = (dlP vn d).length + 4 by rw [dlP_len h], List.take_append]
  simp
  exact List.take_of_length_le (by omega)
 rw [e1]
 simp [JB]
theorem dl_set (k : Nat) (hk : k < 3) (x : Value) : (JB (dlP vn d) post a b c e).set (23 + k) x = JB (qyC vn d.y ++ ([Value.string (bs d.oct), .int .i64 d.st, .bool d.op].set k x)) post a b c e := by
 unfold JB
 rw [List.set_append_left _ _ (by rw [dlP_len h]; omega)]
 unfold dlP
 rw [List.set_append_right _ _ (by rw [qyC_len h]; omega), qyC_len h, Nat.add_sub_cancel_left]
end
def DialJ (w : World) (g : Nat) (d : Dl) (p : List UInt8) : Prop := ∃ vn ds, JoinAt w g (dlP vn d) ds p ∧ d.y.sv.ip.length = 16 ∧ NmL w vn d.y.q.name ∧ MsgOwn w ds d.msg
def DialAt (w : World) (g : Nat) (d : Dl) : Prop := ∃ p, DialJ w g d p ∧ (d.st = 0 → p = restF d.heard) ∧ d.ok
theorem DialJ.below {w w' : World} {g : Nat} {d : Dl} {p : List UInt8} (h : DialJ w g d p) (hb : Below w.heap.size w w') : DialJ w' g d p := by
 obtain ⟨vn, ds, h1, h2, h3, h4⟩ := h
 exact ⟨vn, ds, h1.below hb, h2, h3.stays (Stays.below hb), h4.below hb⟩
theorem DialAt.below {w w' : World} {g : Nat} {d : Dl} (h : DialAt w g d) (hb : Below w.heap.size w w') : DialAt w' g d := by
 obtain ⟨p, h1, h2⟩ := h
 exact ⟨p, h1.below hb, h2⟩
theorem DialJ.open_ {w : World} {g : Nat} {d : Dl} {p : List UInt8} (h : DialJ w g d p) : ∃ vn ds a b c e, Blk w g 437 (JB (dlP vn d) ds a b c e) ∧ d.y.sv.ip.length = 16 ∧ NmL w vn d.y.q.name ∧ MsgOwn w ds d.msg ∧ JoinAt w g (dlP vn d) ds p := by
 obtain ⟨vn, ds, h1, h2, h3, h4⟩ := h
 have h1' := h1
 obtain ⟨last, ts, b0, b1, hpl, hb, _⟩ := h1'
 exact ⟨vn, ds, _, _, _, _, hb, h2, h3, h4, h1⟩
theorem NmL.dial {w w' : World} {g : Nat} {L : List Value} {v : Value} {n : List (List UInt8)} (h : NmL w v n) (hg : w.grownBy w' (some g)) (hb : Blk w g 437 L) : NmL w' v n := h.stays (Stays.blk hg hb (by decide))
theorem MsgOwn.dial {w w' : World} {g : Nat} {L cs : List Value} {m : Msg} (h : MsgOwn w cs m) (hg : w.grownBy w' (some g)) (hb : Blk w g 437 L) : MsgOwn w' cs m := h.blkT hg hb (by decide) (by decide) (by decide)
theorem DialJ.blk {w : World} {g : Nat} {d : Dl} {p : List UInt8} (h : DialJ w g d p) : ∃ vn L ds, Blk w g 437 L ∧ L.length = 44 ∧ d.y.sv.ip.length = 16 ∧ NmL w vn d.y.q.name ∧ (L.drop 0).take 23 = qyC vn d.y ∧ (L.drop 0).take 18 = d.y.sv.cells ∧ L[18]? = some (.int .i64 d.y.port) ∧ L[23]? = some (.string (bs d.oct)) ∧ L[24]? = some (.int .i64 d.st) ∧ L[25]? = some (.bool d.op) ∧ (L.drop 30).take 14 = ds ∧ MsgOwn w ds d.msg ∧
  ∀ w' ds' m, w.grownBy w' (some g) → Blk w' g 437 (L.take 30 ++ ds' ++ L.drop (30 + ds'.length)) → MsgOwn w ds' m → DialJ w' g { d with msg := m } p := by
 obtain ⟨vn, ds, h1, hip, hN, hM⟩ := h
 obtain ⟨last, ts, b0, b1, hpl, hb, hc, r⟩ := h1
 have hdl := hM.len
 refine ⟨vn, _, ds, hb, by rw [dl_len hip, hdl], hip, hN, dl_q hip, dl_ad hip, dl_port hip, dl_at hip 0 (by omega), dl_at hip 1 (by omega), dl_at hip 2 (by omega), ?_, hM, ?_⟩
 ·
  rw [dl_post hip, List.take_of_length_le (by omega)]
 ·
  intro w' ds' m hg hb' hM'
  rw [dl_put hip ds' (by rw [hM'.len, hdl])] at hb'
  exact ⟨vn, ds', ⟨last, ts, b0, b1, dlP_len hip, hb', Chain.grown hb hg _ _ hc, r⟩, hip, hN.dial hg hb, hM'.dial hg hb⟩
theorem DialJ.set {w : World} {g : Nat} {d d' : Dl} {p : List UInt8} (h : DialJ w g d p) (k : Nat) (hk : k < 3) (x : Value) (hy : d'.y = d.y) (hm : d'.msg = d.msg) (hx : [Value.string (bs d.oct), .int .i64 d.st, .bool d.op].set k x = [Value.string (bs d'.oct), .int .i64 d'.st, .bool d'.op]) : DialJ (w.setCell ⟨g, 23 + k, none⟩ x) g d' p := by
 obtain ⟨vn, ds, h1, h2, h3, h4⟩ := h
 obtain ⟨last, ts, b0, b1, hpl, hb, hc, r⟩ := h1
 have hg : w.grownBy (w.setCell ⟨g, 23 + k, none⟩ x) (some g) := grown_set (World.grownBy.refl _ _) _ _
 have hb2 := hb.set (23 + k) x
 rw [dl_set h2 k hk x, hx, ← hy] at hb2
 refine ⟨vn, ds, ⟨last, ts, b0, b1, dlP_len (by rw [hy]; exact h2), hb2, Chain.grown hb hg _ _ hc, r⟩, by rw [hy]; exact h2, by rw [hy]; exact h3.dial hg hb, by rw [hm]; exact h4.dial hg hb⟩
def OuI (cs : List Value) (o : Ou) : Prop := cs = ouC o ∧ o.to_.ip.length = 16
theorem OuI.len (cs : List Value) (o : Ou) (h : OuI cs o) : cs.length = 21 := by rw [h.1]; exact ouC_len h.2
def OusN (lo : Nat) (w : World) (v : Value) (l : List Ou) : Prop := LOwn w lo 415 21 OuI v l
theorem each_ip : ∀ {css : List (List Value)} {l : List Ou}, Each OuI css l → ∀ o ∈ l, o.to_.ip.length = 16
 | [], [], _, o, ho => by cases ho
 | _ :: _, _ :: _, h, o, ho => by
  rcases List.mem_cons.1 ho with rfl | ho
  ·
   exact h.1.2
  ·
   exact each_ip h.2 o ho
theorem OusN.nil (lo : Nat) (w : World) : OusN lo w (.slice none 0 0) [] := ⟨[], World.ownsRow_nil _ _ _ _, trivial⟩
theorem OusN.below {lo : Nat} {w w' : World} {v : Value} {l : List Ou} (h : OusN lo w v l) (hb : Below w.heap.size w w') : OusN lo w' v l := LOwn.stays h (fun _ x => own_below x hb) (fun _ _ x => x)
theorem OusN.mono {lo lo' : Nat} {w : World} {v : Value} {l : List Ou} (h : OusN lo w v l) (hl : lo' ≤ lo) : OusN lo' w v l := by
 obtain ⟨css, h1, h2⟩ := h
 exact ⟨css, ⟨h1.1, h1.2.imp id fun ⟨g, c, cur, hv, hg, r⟩ => ⟨g, c, cur, hv, Nat.le_trans hl hg, r⟩⟩, h2⟩
theorem OusN.grown {lo : Nat} {w w' : World} {g : Nat} {v : Value} {l : List Ou} (h : OusN lo w v l) (hg : w.grownBy w' (some g)) (hl : g < lo) : OusN lo w' v l := by
 obtain ⟨css, h1, h2⟩ := h
 refine ⟨css, h1.kept hg (.inr ?_), h2⟩
 intro e
 have := own_base h1 g e
 omega
theorem OusN.form {lo : Nat} {w : World} {v : Value} {l : List Ou} (h : OusN lo w v l) : ∃ A c, v = .slice A l.length c ∧ OusR w A l ∧ ∀ b, A = some b → lo ≤ b.block := by
 obtain ⟨A, c, rfl⟩ := LOwn.form h
 refine ⟨A, c, rfl, ⟨?_, fun hp => ?_⟩, fun b hb => ?_⟩
 ·
  obtain ⟨css, _, h2⟩ := h; exact each_ip h2
 ·
  obtain ⟨g, h1, h2, h3⟩ := LOwn.at_ OuI.len h hp
  refine ⟨g, 0, h1, h2, fun i hi => ?_⟩
  obtain ⟨cs, h4, h5, _⟩ := h3 i hi
  rw [← h5]; exact h4
 ·
  obtain ⟨css, h1, _⟩ := h
  exact own_base h1 b.block (by rw [hb]; rfl)
theorem exec_bld {P : Program} {w : World} {o : Oper} {a : Act} (t : TypeId) (parts : Array (Nat × Operand)) (ho : o.op = .build t parts) (vals : Array (Nat × Value)) (hv : parts.map (fun (i, x) => (i, a.eval x)) = vals) {v : Value} (hr : (Instr.build t vals).run P w = .ok v w) : (execOp a.eval o).run P w = .ok (.value v) w := by
 unfold execOp
 simp only [ho, hv, Sem.run_bind, hr, Result.andThen_ok, Sem.run_pure]
theorem run_bou16 (kind fam zone port : Int) (b0 b1 b2 b3 b4 b5 b6 b7 b8 b9 b10 b11 b12 b13 b14 b15 : UInt8) (data : List UInt8) (W : World) :
  (Instr.build 415 #[(0, .int .i64 kind), (1, .agg (Adr.cells ⟨fam, [b0, b1, b2, b3, b4, b5, b6, b7, b8, b9, b10, b11, b12, b13, b14, b15], zone⟩).toArray), (2, .int .i64 port), (3, .string (bs data))]).run prog W = .ok (.agg (ouC ⟨kind, ⟨fam, [b0, b1, b2, b3, b4, b5, b6, b7, b8, b9, b10, b11, b12, b13, b14, b15], zone⟩, port, data⟩).toArray) W := by
 kernel_rfl
theorem run_bou (kind : Int) (to_ : Adr) (port : Int) (data : List UInt8) (h : to_.ip.length = 16) (W : World) : (Instr.build 415 #[(0, .int .i64 kind), (1, .agg to_.cells.toArray), (2, .int .i64 port), (3, .string (bs data))]).run prog W = .ok (.agg (ouC ⟨kind, to_, port, data⟩).toArray) W := by
 obtain ⟨fam, ip, zone⟩ := to_
 have h' : ip.length = 16 := h
 clear h
 match ip, h' with
 | [b0, b1, b2, b3, b4, b5, b6, b7, b8, b9, b10, b11, b12, b13, b14, b15], _ => exact run_bou16 kind fam zone port b0 b1 b2 b3 b4 b5 b6 b7 b8 b9 b10 b11 b12 b13 b14 b15 data W
def ouZ : List Value := ouC ⟨0, Adr.zero, 0, []⟩
theorem ouInfo3 : (prog.info? 415).map (fun i => (i.zero, i.size, i.bytes)) = some (some (.agg ouZ.toArray), 21, 64) := by kernel_rfl
theorem run_bsOu (w : World) (cs : List Value) (hl : cs.length = 21) : (Instr.buildSlice 30 1 #[(0, .agg cs.toArray)]).run prog w = .ok (.slice (some ⟨w.heap.size, 0, none⟩) 1 1) (w.alloc (.cells cs.toArray 415)) := by
 obtain ⟨i, hi, hz, hsize, hby⟩ := info_parts ouInfo3
 refine run_buildSlice w 30 415 1 _ cs.toArray i _ underlying30 hi hz (by rw [hsize]; decide) (by rw [hsize]; decide) ?_
 rw [hsize]
 have := fill_one 21 ((Array.range (1 * 21)).map ((Value.agg ouZ.toArray).cells[· % (Value.agg ouZ.toArray).cells.size]!)).toList cs hl (by simp)
 rw [Array.toArray_toList] at this
 exact this
theorem exec_bsOu {w w' : World} {v v' : Value} {o : Oper} {a : Act} (x : Operand) (ho : o.op = .buildSlice 30 1 #[(0, x)]) (hx : a.eval x = v) (hr : (Instr.buildSlice 30 1 #[(0, v)]).run prog w = .ok v' w') : (execOp a.eval o).run prog w = .ok (.value v') w' := by
 unfold execOp
 simp only [ho, Sem.run_bind, Sem.run_pure, Result.andThen_ok, List.map_toArray, List.map_cons, List.map_nil, hx, hr]
theorem ousN_one (w : World) (o : Ou) (h : o.to_.ip.length = 16) : OusN w.heap.size (w.alloc (.cells (ouC o).toArray 415)) (.slice (some ⟨w.heap.size, 0, none⟩) 1 1) [o] := by
 have hl := ouC_len h
 refine ⟨[ouC o], ⟨by simp [hl], .inr ⟨w.heap.size, 1, (ouC o).toArray, rfl, Nat.le_refl _, Blk.new w 415 (ouC o), Nat.le_refl _, by simp [maxLen], by simp [hl], ?_⟩⟩, ⟨rfl, h⟩, trivial⟩
 simp only [List.flatten_cons, List.flatten_nil, List.append_nil, List.length_singleton, Nat.one_mul]
 exact List.take_of_length_le (by omega)
def OutRet (o : Ou) (w : World) (e : Ending) (w' : World) : Prop := ∃ v, e = .returned v ∧ OusN w.heap.size w' v [o] ∧ Below w.heap.size w w'
set_option maxHeartbeats 1000000 in
theorem out_blk (f : FuncId) (hf : f = 333) (g : Nat) (kind : Int) (data : List UInt8) (L : List Value) (to_ : Adr) (port : Int) (w : World) (hb : Blk w g 437 L) (hl : 23 ≤ L.length) (hip : to_.ip.length = 16) (ha : (L.drop 0).take 18 = to_.cells) (hp : L[18]? = some (.int .i64 port)) :
  Calls prog f #[.pointer (some ⟨g, 0, none⟩), .int .i64 kind, .string (bs data)] w (OutRet ⟨kind, to_, port, data⟩ w) := by
 subst hf
 have RB := Hh (fun W => run_bou kind to_ port data hip W)
 have HL := ouC_len (o := ⟨kind, to_, port, data⟩) hip
 have ON := Hh (fun W => ousN_one W ⟨kind, to_, port, data⟩ hip)
 have HA := Hh ha
 clear hip ha
 generalize ouC ⟨kind, to_, port, data⟩ = oc at *
 generalize to_.cells = tc at *
 go_enter func333, ntmps333
 go_wp2_with fail
 refine wp_region_held_drew (S := fun V => Below w.heap.size w V) (by kernel_rfl) (Below.refl _ _).drew (fun hS => ?_)
 (refine held_val 0 (some 7) rfl rfl (by kernel_rfl) (by kernel_rfl) (by kernel_rfl) (fun _ _ _ h => h) (by kernel_rfl) (fun W hW => rfl) hS ?_; simp only [Act.put, lsA, lsB, lsC])
 (refine held_val 1 (some 8) rfl rfl (by kernel_rfl) (by kernel_rfl) (by kernel_rfl) (fun _ _ _ h => h) (by kernel_rfl) (fun W hW => rfl) hS ?_; simp only [Act.put, lsA, lsB, lsC])
 refine held_val 2 (some 9) (v := .pointer (some ⟨g, 0, none⟩)) rfl rfl (by kernel_rfl) (by kernel_rfl) (by kernel_rfl) (fun _ _ _ h => h) (by kernel_rfl) (fun W hW => by kernel_rfl) hS ?_
 simp only [Act.put, lsA, lsB, lsC]
 refine held_val 3 (some 10) (v := .pointer (some ⟨g, 0, none⟩)) rfl rfl (by kernel_rfl) (by kernel_rfl) (by kernel_rfl) (fun _ _ _ h => h) (by kernel_rfl) (fun W hW => rfl) hS ?_
 simp only [Act.put, lsA, lsB, lsC]
 refine held_val 4 (some 11) (v := .pointer (some ⟨g, 0, none⟩)) rfl rfl (by kernel_rfl) (by kernel_rfl) (by kernel_rfl) (fun _ _ _ h => h) (by kernel_rfl) (fun W hW => rfl) hS ?_
 simp only [Act.put, lsA, lsB, lsC]
 refine held_ld 5 (some 12) 24 (.tmp 11) ⟨g, 0, none⟩ rfl rfl rfl rfl (by kernel_rfl) (by kernel_rfl) (by kernel_rfl) (fun _ _ _ h => h) (by kernel_rfl) (fun V hV => (hb.below hV hb.lt).loads 24 0 18 (by omega) _ underlying24 rfl adInfoM _ HA.out) hS ?_
 simp only [Act.put, lsA, lsB, lsC]
 (refine held_val 6 (some 13) rfl rfl (by kernel_rfl) (by kernel_rfl) (by kernel_rfl) (fun _ _ _ h => h) (by kernel_rfl) (fun W hW => rfl) hS ?_; simp only [Act.put, lsA, lsB, lsC])
 refine held_val 7 (some 14) (v := .pointer (some ⟨g, 0, none⟩)) rfl rfl (by kernel_rfl) (by kernel_rfl) (by kernel_rfl) (fun _ _ _ h => h) (by kernel_rfl) (fun W hW => by kernel_rfl) hS ?_
 simp only [Act.put, lsA, lsB, lsC]
 refine held_val 8 (some 15) (v := .pointer (some ⟨g, 0, none⟩)) rfl rfl (by kernel_rfl) (by kernel_rfl) (by kernel_rfl) (fun _ _ _ h => h) (by kernel_rfl) (fun W hW => rfl) hS ?_
 simp only [Act.put, lsA, lsB, lsC]
 refine held_val 9 (some 16) (v := .pointer (some ⟨g, 18, none⟩)) rfl rfl (by kernel_rfl) (by kernel_rfl) (by kernel_rfl) (fun _ _ _ h => h) (by kernel_rfl) (fun W hW => rfl) hS ?_
 simp only [Act.put, lsA, lsB, lsC]
 refine held_ld 10 (some 17) 3 (.tmp 16) ⟨g, 18, none⟩ rfl rfl rfl rfl (by kernel_rfl) (by kernel_rfl) (by kernel_rfl) (fun _ _ _ h => h) (by kernel_rfl) (fun V hV => run_load1 underlying3 rfl ((hb.below hV hb.lt).cell_ 18 hp)) hS ?_
 simp only [Act.put, lsA, lsB, lsC]
 (refine held_val 11 (some 18) rfl rfl (by kernel_rfl) (by kernel_rfl) (by kernel_rfl) (fun _ _ _ h => h) (by kernel_rfl) (fun W hW => rfl) hS ?_; simp only [Act.put, lsA, lsB, lsC])
 refine held_val 12 (some 19) (v := .agg oc.toArray) rfl rfl (by kernel_rfl) (by kernel_rfl) (by kernel_rfl) (fun _ _ _ h => h) (by kernel_rfl) (fun W hW => exec_bld 415 _ rfl #[(0, .int .i64 kind), (1, .agg tc.toArray), (2, .int .i64 port), (3, .string (bs data))] (by kernel_rfl) (RB.out W)) hS ?_
 simp only [Act.put, lsA, lsB, lsC]
 refine ord_one 13 (by kernel_rfl) ?_
 refine opw_run 13 (some 20) rfl rfl (by kernel_rfl) (exec_bsOu (.tmp 19) rfl rfl (run_bsOu _ oc HL)) ?_
 have OO := ON.out w.drew
 have hS2 : Below w.heap.size w (w.drew.alloc (.cells oc.toArray 415)) := hS.alloc hS.size _
 refine ⟨hS2, ?_⟩
 clear hS
 have hS := hS2
 clear hS2
 simp only [Act.put, lsA, lsB, lsC]
 (refine held_val 14 (some 6) rfl rfl (by kernel_rfl) (by kernel_rfl) (by kernel_rfl) (fun _ _ _ h => h) (by kernel_rfl) (fun W hW => rfl) hS ?_; simp only [Act.put, lsA, lsB, lsC])
 refine wpAnyH_done (by kernel_rfl) ?_ _
 go_wp2_with fail
 go_ret
 exact ⟨_, rfl, OO, hS⟩
theorem DialJ.out {w : World} {g : Nat} {d : Dl} {p : List UInt8} (h : DialJ w g d p) (kind : Int) (data : List UInt8) :
  Calls prog 333 #[.pointer (some ⟨g, 0, none⟩), .int .i64 kind, .string (bs data)] w (OutRet ⟨kind, d.y.sv, d.y.port, data⟩ w) := by
 obtain ⟨vn, ds, a, b, c, e, hb, hip, _, hM, _⟩ := h.open_
 exact out_blk _ rfl g kind data _ d.y.sv d.y.port w hb (by rw [dl_len hip]; omega) hip (dl_ad hip) (dl_port hip)
theorem newD_len (y : Qy) : (newD y).2.length ≤ 1 := by unfold newD; split <;> simp
theorem newD_y (y : Qy) : (newD y).1.y = y := by unfold newD; split <;> rfl
def xs (n : List (List UInt8)) (k : Nat) : List (List UInt8) := (n.take k).map (· ++ [120]) ++ n.drop k
theorem ask_plain (q : Qn) (id : Int) (edns : Bool) : (encM (askM q id edns) false).2 ≠ 0 ∨ ((encM (askM q id edns) false).2 = 0 ∧ (encM (askM q id edns) false).1.length ≤ 65535 ∧ decM (encM (askM q id edns) false).1 = .ok (askM q id edns)) := by
 have hw : ∀ r ∈ (askM q id edns).rrs, r.wf := by
  intro r hr
  cases edns with
  | false => simp [askM, Msg.rrs] at hr
  | true =>
   have : r = optR := by simpa [askM, Msg.rrs] using hr
   subst this
   exact ⟨rfl, rfl⟩
 rcases back_plain _ hw with ⟨h1, h2, h3, h4, h5, h6⟩ | ⟨h1, _⟩ | ⟨h1, _⟩
 ·
  exact .inr ⟨h1, h4, h5⟩
 ·
  exact .inl h1
 ·
  exact .inl h1
def dl0 (y : Qy) : Dl := ⟨y, [], 0, false, [], Msg.zero⟩
def dlZ (vn : Value) (y : Qy) : List Value := JB (dlP vn (dl0 y)) msgZ (.pointer none) (.int .i64 0) (.int .u8 0) (.int .u8 0)
theorem run_bdl16 (fam zone port id : Int) (q : Qn) (b0 b1 b2 b3 b4 b5 b6 b7 b8 b9 b10 b11 b12 b13 b14 b15 : UInt8) (vn : Value) (W : World) :
  (Instr.build 437 #[(0, .agg (qyC vn ⟨⟨fam, [b0, b1, b2, b3, b4, b5, b6, b7, b8, b9, b10, b11, b12, b13, b14, b15], zone⟩, port, id, q⟩).toArray)]).run prog W = .ok (.agg (dlZ vn ⟨⟨fam, [b0, b1, b2, b3, b4, b5, b6, b7, b8, b9, b10, b11, b12, b13, b14, b15], zone⟩, port, id, q⟩).toArray) W := by
 kernel_rfl
theorem run_bdl (vn : Value) (y : Qy) (h : y.sv.ip.length = 16) (W : World) : (Instr.build 437 #[(0, .agg (qyC vn y).toArray)]).run prog W = .ok (.agg (dlZ vn y).toArray) W := by
 obtain ⟨⟨fam, ip, zone⟩, port, id, q⟩ := y
 have h' : ip.length = 16 := h
 clear h
 match ip, h' with
 | [b0, b1, b2, b3, b4, b5, b6, b7, b8, b9, b10, b11, b12, b13, b14, b15], _ => exact run_bdl16 fam zone port id q b0 b1 b2 b3 b4 b5 b6 b7 b8 b9 b10 b11 b12 b13 b14 b15 vn W
theorem qyC_set20 (vn vm : Value) (y : Qy) (h : y.sv.ip.length = 16) : (qyC vn y).set 20 vm = qyC vm y := by
 unfold qyC
 rw [List.set_append_right _ _ (by rw [y.sv.cells_len h]; omega), y.sv.cells_len h]
 rfl
def DnRet (y : Qy) (w : World) (e : Ending) (w' : World) : Prop := ∃ g v, e = .returned (.tuple #[.pointer (some ⟨g, 0, none⟩), v]) ∧ DialAt w' g (newD y).1 ∧ OusN (g + 1) w' v (newD y).2 ∧ Below w.heap.size w w' ∧ w.heap.size ≤ g
theorem frames_none : frames [] = [] ∧ restF [] = [] := frames_no [] (by simp [wholeB])
set_option maxHeartbeats 2000000 in
theorem dnew_any (cs : List Value) (y : Qy) (A : Option Addr) (c : Nat) (w : World) (h : QyIs w cs y A c) (hn : y.q.name.length ≤ 100000) :
  Calls prog 303 #[.agg cs.toArray] w (DnRet y w) := by
 have hip := h.ip
 have hcl : cs.length = 23 := by rw [h.hcs]; exact qyC_len hip
 have L20 : cs[20]? = some (.slice A y.q.name.length c) := by rw [h.hcs]; exact qyC_at hip 2
 have hset : ∀ vm, cs.set 20 vm = qyC vm y := fun vm => by rw [h.hcs]; exact qyC_set20 _ _ _ hip
 have B1 := Blk.new w 328 cs
 have HB1 : Below w.heap.size w (w.alloc (.cells cs.toArray 328)) := (Below.refl _ _).alloc (Nat.le_refl _) _
 have CL := Hh (clone_any A c y.q.name _ (h.nm.below HB1) hn)
 have hll : Hid (∀ l ∈ y.q.name, l.length ≤ 140737488355328) := Hh h.nm.2.2.2
 have a20 := B1.cell_ 20 L20
 have HSET := Hh hset
 have hnl : y.q.name.length ≤ 17592186044416 := by omega
 obtain ⟨R, hR⟩ : ∃ R, Hid (newD y = R) := ⟨_, Hh rfl⟩
 unfold DnRet
 rw [hR.out]
 clear h L20 hset
 go_enter func303, ntmps303
 go_wp2_with fail
 refine CL.out.mono ?_
 rintro _ w1 ⟨A1, c1, rfl, own1, b1⟩
 have C1 := B1.below b1 B1.lt
 have HB2 := below_then HB1 HB1.size b1
 clear CL B1 HB1 b1 a20
 go_wp2_with (refine at_op (.store 81 (.tmp 12) (.tmp 10)) rfl ?_; go_must (refine wpList_stC rfl 81 (.tmp 12) (.tmp 10) rfl w.heap.size 20 rfl (.slice A1 y.q.name.length c1) rfl C1 (by rw [hcl]; decide) nameInfo1 rfl rfl ?_))
 intro w2 C2 g2 zs
 clear zs
 rw [HSET.out] at C2
 have own2 := own_blk own1 g2 C1 (by decide)
 have HB3 := below_grown HB2 g2 HB2.size (Nat.le_refl _)
 have hT2 : Txts w2 (.slice A1 y.q.name.length c1) y.q.name := own_zero own2
 have N2 := own_nm own2 hnl hll.out
 have hN2 : NmL w2 (.slice A1 y.q.name.length c1) y.q.name := ⟨hT2, hn, hll.out⟩
 have RB := Hh (fun W => run_bdl (.slice A1 y.q.name.length c1) y hip W)
 have hql := qyC_len (vn := .slice A1 y.q.name.length c1) hip
 have q19 : (qyC (.slice A1 y.q.name.length c1) y)[19]? = some (.int .i64 y.id) := qyC_at hip 1
 have Q3 := Hh (qyC_q (vn := .slice A1 y.q.name.length c1) hip)
 have a19 := fun o => (C2.alloc o).cell_ 19 q19
 have HLL : Hid (∀ W, Blk W w2.heap.size 437 (dlZ (.slice A1 y.q.name.length c1) y) → NmL W (.slice A1 y.q.name.length c1) y.q.name → DialJ W w2.heap.size (dl0 y) []) := Hh (fun W hb hN =>
  ⟨_, msgZ, ⟨none, [], 0, 0, dlP_len (d := dl0 y) hip, hb, rfl, rfl, by simp, by simp⟩, hip, hN, MsgOwn.zero _⟩)
 have BU := Hh (fun W (hb : Below w2.heap.size w2 W) => build_any A1 c1 y.q y.id false W (N2.below hb) hn)
 have AP : Hid (errP y = 0 → (octP y).length ≤ 65535) := Hh (fun h0 => by
  rcases ask_plain y.q y.id false with h | ⟨_, h, _⟩
  ·
   exact absurd h0 h
  ·
   exact h)
 clear HSET own1 g2 C1 HB2 own2 hT2 N2 q19 hll hnl
 generalize qyC (.slice A1 y.q.name.length c1) y = qs at *
 obtain ⟨LL, hLL⟩ : ∃ LL, Hid (dlZ (.slice A1 y.q.name.length c1) y = LL) := ⟨_, Hh rfl⟩
 rw [hLL.out] at RB HLL
 unfold qC at Q3
 go_wp2_with (first
  | (refine at_op (.load 328 (.tmp 1)) rfl ?_; go_must (refine wpList_ldB rfl _ _ rfl w.heap.size 0 rfl C2 23 (by omega) _ underlying328 rfl qyInfo qs (tk0 (by omega)) ?_))
  | (refine at_op (.build 437 #[(0, .tmp 13)]) rfl ?_; go_must (refine wpList_bld rfl 437 _ rfl #[(0, .agg qs.toArray)] (by simp [Act.eval, Act.put]) (RB.out _) ?_))
  | (refine at_op (.load 218 (.tmp 17)) rfl ?_; go_must (refine wpList_ldB rfl _ _ rfl w.heap.size 20 rfl (C2.alloc _) 3 (by omega) _ underlying218 rfl qInfo _ Q3.out ?_)))
 have kn : Below w2.heap.size w2 (w2.alloc (.cells LL.toArray 437)) := (Below.refl _ _).alloc (Nat.le_refl _) _
 have D1 := Blk.new w2 437 LL
 refine (BU.out _ kn).mono ?_
 rintro _ w3 ⟨rfl, b3⟩
 have k3 := below_then kn kn.size b3
 have J3 := HLL.out w3 (D1.below b3 D1.lt) (hN2.stays (Stays.below k3))
 have HB4 := below_then HB3 HB3.size k3
 have hg : w.heap.size ≤ w2.heap.size := HB3.size
 clear RB HLL BU kn D1 b3 k3 hN2 HB3 C2 a19 Q3 hLL
 generalize w2.heap.size = g at *
 obtain ⟨vn, L, _, hbk, hL, _, _, _, _, _, c23, c24, _⟩ := J3.blk
 have a23 := hbk.cell_ 23 c23
 have a24 := hbk.cell_ 24 c24
 have f23 := hbk.frozen 23
 have f24 := hbk.frozen 24
 have hgl := hbk.lt
 clear c23 c24 hL
 by_cases he : errP y = 0
 case neg =>
  have HR2 : Hid (R = (⟨y, [], 2, false, [], Msg.zero⟩, [])) := Hh (by rw [← hR.out]; unfold newD; rw [if_neg he])
  have he1 : (errP y == 0) = false := by simpa using he
  have he2 : (errP y != 0) = true := by simpa using he
  have J4 : DialJ (w3.setCell ⟨g, 24, none⟩ (.int .i64 2)) g ⟨y, [], 2, false, [], Msg.zero⟩ [] := J3.set 1 (by omega) (.int .i64 2) rfl rfl rfl
  have H5 : Below w.heap.size w (w3.setCell ⟨g, 24, none⟩ (.int .i64 2)) := below_grown HB4 (grown_set (World.grownBy.refl _ _) 24 (.int .i64 2)) HB4.size hg
  have HJ := Hh J4
  clear he hR J4 J3 AP hbk
  unfold errP at *
  generalize (encM (askM y.q y.id false) false).1 = o1 at *
  generalize (encM (askM y.q y.id false) false).2 = o2 at *
  go_wp2_with fail
  go_ret2
  rw [HR2.out]
  exact ⟨g, _, rfl, ⟨[], HJ.out, fun h => (by cases h), fun h => (by cases h)⟩, OusN.nil _ _, H5, hg⟩
 have HR2 : Hid (R = (⟨y, putB 2 (octP y).length ++ octP y, 0, false, [], Msg.zero⟩, [⟨2, y.sv, y.port, []⟩])) := Hh (by rw [← hR.out]; unfold newD; rw [if_pos he])
 have hl := AP.out he
 clear AP hR hbk
 unfold errP at he
 unfold octP at HR2 hl
 generalize (encM (askM y.q y.id false) false).1 = o1 at *
 rw [he]
 clear he
 go_wp2_with fail
 refine (streamPut_ok o1 _ hl).mono ?_
 rintro _ w4 ⟨rfl, b4⟩
 have J4 := J3.below b4
 have HB5 := below_then HB4 HB4.size b4
 have J5 : DialJ (w4.setCell ⟨g, 23, none⟩ (.string (bs (putB 2 o1.length ++ o1)))) g ⟨y, putB 2 o1.length ++ o1, 0, false, [], Msg.zero⟩ [] := J4.set 0 (by omega) (.string (bs (putB 2 o1.length ++ o1))) rfl rfl rfl
 have H5 : Below w.heap.size w (w4.setCell ⟨g, 23, none⟩ (.string (bs (putB 2 o1.length ++ o1)))) := below_grown HB5 (grown_set (World.grownBy.refl _ _) 23 _) HB5.size hg
 obtain ⟨_, L4, _, hb4, _, _, _, _, _, _, c23, _⟩ := J4.blk
 have e23 := hb4.cell_ 23 c23
 have e23f := hb4.frozen 23
 have hgl4 := hb4.lt
 have OC := Hh (J5.out 2 [])
 have HJ := Hh J5
 clear J3 J4 J5 HB4 b4 hb4 c23 a23 a24 f23 f24 hgl
 generalize putB 2 o1.length ++ o1 = o2 at *
 go_wp2_with fail
 refine OC.out.mono ?_
 rintro _ w5 ⟨v, rfl, hO, b5⟩
 have H6 := below_then H5 H5.size b5
 go_wp2_with fail
 go_ret2
 rw [HR2.out]
 exact ⟨g, _, rfl, ⟨[], HJ.out.below b5, fun _ => frames_none.2.symm, fun _ => by show firstA y (frames []) = none; rw [frames_none.1]; rfl⟩, hO.mono (by have : g + 1 ≤ w4.heap.size := hgl4; simpa [World.setCell] using this), H6, hg⟩
end Go.Proofs.YteimenplbanooaaGreatDoor

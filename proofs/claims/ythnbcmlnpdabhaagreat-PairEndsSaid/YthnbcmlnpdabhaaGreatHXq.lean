/-
  Layer 28 (dial): a dial in memory; State, Message, out.
-/
import Derived.Test.YthnbcmlnpdabhaaGreatHWq
namespace Go.Proofs.YthnbcmlnpdabhaaGreat
open _root_.Go.Proofs.Tryz
open Go.RowKit
set_option maxRecDepth 100000
set_option linter.unusedVariables false
set_option linter.unusedSimpArgs false
def NmL (w : World) (v : Value) (n : List (List UInt8)) : Prop := Txts w v n ∧ n.length ≤ 100000 ∧ ∀ l ∈ n, l.length ≤ 140737488355328
theorem NmL.stays {w w' : World} {v : Value} {n : List (List UInt8)} (h : NmL w v n) (k : Stays w w') : NmL w' v n := ⟨k _ _ h.1, h.2⟩
theorem NmL.form {w : World} {v : Value} {n : List (List UInt8)} (h : NmL w v n) : ∃ A c, v = .slice A n.length c ∧ NmR w A c n := by
 obtain ⟨A, c, h1, h2, h3⟩ := h.1.form
 exact ⟨A, c, h1, h2, h3, by have := h.2.1; omega, h.2.2⟩
theorem MsgOwn.blkT {w w' : World} {g : Nat} {t : TypeId} {cs L : List Value} {m : Msg} (h : MsgOwn w cs m) (hg : w.grownBy w' (some g)) (hb : Blk w g t L) (h1 : t ≠ 28) (h2 : t ≠ 119) (h3 : t ≠ 9) : MsgOwn w' cs m := by
 obtain ⟨vq, va, vu, ve, k1, k2, k3, k4, k5, l⟩ := h
 exact ⟨vq, va, vu, ve, k1, k2.blk hg hb h1 h3, k3.blk hg hb h2 h3, k4.blk hg hb h2 h3, k5.blk hg hb h2 h3, l⟩
theorem wholeT {w : World} {g n : Nat} {t : TypeId} {L M : List Value} (h : Blk w g t (L ++ M.drop n)) (hM : M.length ≤ n) : Blk w g t L := by
 rwa [List.drop_of_length_le hM, List.append_nil] at h
def dlP (vn : Value) (d : Dl) : List Value := qyC vn d.y ++ [.string (bs d.oct), .int .i64 d.st, .bool d.op]
section
variable {vn : Value} {d : Dl} (h : d.y.sv.ip.length = 16) {post : List Value} {a b c e : Value}
include h
theorem dlP_len : (dlP vn d).length = 26 := by simp [dlP, qyC_len h]
theorem dl_pre (i : Nat) (hi : i < 26) : (JB (dlP vn d) post a b c e)[i]? = (dlP vn d)[i]? := by unfold JB; rw [List.getElem?_append_left (by rw [dlP_len h]; exact hi)]
theorem dl_at (k : Nat) (hk : k < 3) : (JB (dlP vn d) post a b c e)[23 + k]? = [Value.string (bs d.oct), .int .i64 d.st, .bool d.op][k]? := by
 rw [dl_pre h _ (by omega)]
 unfold dlP
 rw [List.getElem?_append_right (by rw [qyC_len h]; omega), qyC_len h, Nat.add_sub_cancel_left]
theorem dl_qy (i : Nat) (hi : i < 23) : (JB (dlP vn d) post a b c e)[i]? = (qyC vn d.y)[i]? := by
 rw [dl_pre h _ (by omega)]
 unfold dlP
 rw [List.getElem?_append_left (by rw [qyC_len h]; exact hi)]
theorem dl_port : (JB (dlP vn d) post a b c e)[18]? = some (.int .i64 d.y.port) := by rw [dl_qy h 18 (by omega)]; exact qyC_at h 0
theorem dl_q : ((JB (dlP vn d) post a b c e).drop 0).take 23 = qyC vn d.y := by
 rw [List.drop_zero]
 unfold JB dlP
 rw [List.append_assoc]
 exact List.take_left' (qyC_len h)
theorem dl_ad : ((JB (dlP vn d) post a b c e).drop 0).take 18 = d.y.sv.cells := by
 rw [List.drop_zero]
 unfold JB dlP qyC
 rw [List.append_assoc, List.append_assoc]
 exact List.take_left' (d.y.sv.cells_len h)
theorem dl_len : (JB (dlP vn d) post a b c e).length = 30 + post.length := by simp [JB, dlP_len h]; omega
theorem dl_post : (JB (dlP vn d) post a b c e).drop 30 = post := by
 unfold JB
 rw [show (30 : Nat) = (dlP vn d).length + 4 by rw [dlP_len h], List.drop_append]
 simp
theorem dl_put (sub : List Value) (hs : sub.length = post.length) : (JB (dlP vn d) post a b c e).take 30 ++ sub ++ (JB (dlP vn d) post a b c e).drop (30 + sub.length) = JB (dlP vn d) sub a b c e := by
 rw [List.drop_of_length_le (by rw [dl_len h]; omega), List.append_nil]
 have e1 : (JB (dlP vn d) post a b c e).take 30 = dlP vn d ++ [a, b, c, e] := by
  unfold JB
  rw [show (30 : Nat) = (dlP vn d).length + 4 by rw [dlP_len h], List.take_append]
  simp
  exact List.take_of_length_le (by omega)
 rw [e1]
 simp [JB]
theorem dl_set (k : Nat) (hk : k < 3) (x : Value) : (JB (dlP vn d) post a b c e).set (23 + k) x = JB (qyC vn d.y ++ ([Value.string (bs d.oct), .int .i64 d.st, .bool d.op].set k x)) post a b c e := by
 unfold JB
 rw [List.set_append_left _ _ (by rw [dlP_len h]; omega)]
 unfold dlP
 rw [List.set_append_right _ _ (by rw [qyC_len h]; omega), qyC_len h, Nat.add_sub_cancel_left]
end
def DialJ (w : World) (g : Nat) (d : Dl) (p : List UInt8) : Prop := ∃ vn ds, JoinAt w g (dlP vn d) ds p ∧ d.y.sv.ip.length = 16 ∧ NmL w vn d.y.q.name ∧ MsgOwn w ds d.msg
def DialAt (w : World) (g : Nat) (d : Dl) : Prop := ∃ p, DialJ w g d p ∧ (d.st = 0 → p = restF d.heard) ∧ d.ok
theorem DialJ.below {w w' : World} {g : Nat} {d : Dl} {p : List UInt8} (h : DialJ w g d p) (hb : Below w.heap.size w w') : DialJ w' g d p := by
 obtain ⟨vn, ds, h1, h2, h3, h4⟩ := h
 exact ⟨vn, ds, h1.below hb, h2, h3.stays (Stays.below hb), h4.below hb⟩
theorem DialAt.below {w w' : World} {g : Nat} {d : Dl} (h : DialAt w g d) (hb : Below w.heap.size w w') : DialAt w' g d := by
 obtain ⟨p, h1, h2⟩ := h
 exact ⟨p, h1.below hb, h2⟩
theorem DialJ.open_ {w : World} {g : Nat} {d : Dl} {p : List UInt8} (h : DialJ w g d p) : ∃ vn ds a b c e, Blk w g 152 (JB (dlP vn d) ds a b c e) ∧ d.y.sv.ip.length = 16 ∧ NmL w vn d.y.q.name ∧ MsgOwn w ds d.msg ∧ JoinAt w g (dlP vn d) ds p := by
 obtain ⟨vn, ds, h1, h2, h3, h4⟩ := h
 have h1' := h1
 obtain ⟨last, ts, b0, b1, hpl, hb, _⟩ := h1'
 exact ⟨vn, ds, _, _, _, _, hb, h2, h3, h4, h1⟩
theorem NmL.dial {w w' : World} {g : Nat} {L : List Value} {v : Value} {n : List (List UInt8)} (h : NmL w v n) (hg : w.grownBy w' (some g)) (hb : Blk w g 152 L) : NmL w' v n := h.stays (Stays.blk hg hb (by decide))
theorem MsgOwn.dial {w w' : World} {g : Nat} {L cs : List Value} {m : Msg} (h : MsgOwn w cs m) (hg : w.grownBy w' (some g)) (hb : Blk w g 152 L) : MsgOwn w' cs m := h.blkT hg hb (by decide) (by decide) (by decide)
theorem DialJ.blk {w : World} {g : Nat} {d : Dl} {p : List UInt8} (h : DialJ w g d p) : ∃ vn L ds, Blk w g 152 L ∧ L.length = 44 ∧ d.y.sv.ip.length = 16 ∧ NmL w vn d.y.q.name ∧ (L.drop 0).take 23 = qyC vn d.y ∧ (L.drop 0).take 18 = d.y.sv.cells ∧ L[18]? = some (.int .i64 d.y.port) ∧ L[23]? = some (.string (bs d.oct)) ∧ L[24]? = some (.int .i64 d.st) ∧ L[25]? = some (.bool d.op) ∧ (L.drop 30).take 14 = ds ∧ MsgOwn w ds d.msg ∧
  ∀ w' ds' m, w.grownBy w' (some g) → Blk w' g 152 (L.take 30 ++ ds' ++ L.drop (30 + ds'.length)) → MsgOwn w ds' m → DialJ w' g { d with msg := m } p := by
 obtain ⟨vn, ds, h1, hip, hN, hM⟩ := h
 obtain ⟨last, ts, b0, b1, hpl, hb, hc, r⟩ := h1
 have hdl := hM.len
 refine ⟨vn, _, ds, hb, by rw [dl_len hip, hdl], hip, hN, dl_q hip, dl_ad hip, dl_port hip, dl_at hip 0 (by omega), dl_at hip 1 (by omega), dl_at hip 2 (by omega), ?_, hM, ?_⟩
 ·
  rw [dl_post hip, List.take_of_length_le (by omega)]
 ·
  intro w' ds' m hg hb' hM'
  rw [dl_put hip ds' (by rw [hM'.len, hdl])] at hb'
  exact ⟨vn, ds', ⟨last, ts, b0, b1, dlP_len hip, hb', Chain.grown hb hg _ _ hc, r⟩, hip, hN.dial hg hb, hM'.dial hg hb⟩
theorem DialJ.set {w : World} {g : Nat} {d d' : Dl} {p : List UInt8} (h : DialJ w g d p) (k : Nat) (hk : k < 3) (x : Value) (hy : d'.y = d.y) (hm : d'.msg = d.msg) (hx : [Value.string (bs d.oct), .int .i64 d.st, .bool d.op].set k x = [Value.string (bs d'.oct), .int .i64 d'.st, .bool d'.op]) : DialJ (w.setCell ⟨g, 23 + k, none⟩ x) g d' p := by
 obtain ⟨vn, ds, h1, h2, h3, h4⟩ := h
 obtain ⟨last, ts, b0, b1, hpl, hb, hc, r⟩ := h1
 have hg : w.grownBy (w.setCell ⟨g, 23 + k, none⟩ x) (some g) := grown_set (World.grownBy.refl _ _) _ _
 have hb2 := hb.set (23 + k) x
 rw [dl_set h2 k hk x, hx, ← hy] at hb2
 refine ⟨vn, ds, ⟨last, ts, b0, b1, dlP_len (by rw [hy]; exact h2), hb2, Chain.grown hb hg _ _ hc, r⟩, by rw [hy]; exact h2, by rw [hy]; exact h3.dial hg hb, by rw [hm]; exact h4.dial hg hb⟩
def OuI (cs : List Value) (o : Ou) : Prop := cs = ouC o ∧ o.to_.ip.length = 16
theorem OuI.len (cs : List Value) (o : Ou) (h : OuI cs o) : cs.length = 21 := by rw [h.1]; exact ouC_len h.2
def OusN (lo : Nat) (w : World) (v : Value) (l : List Ou) : Prop := LOwn w lo 97 21 OuI v l
theorem each_ip : ∀ {css : List (List Value)} {l : List Ou}, Each OuI css l → ∀ o ∈ l, o.to_.ip.length = 16
 | [], [], _, o, ho => by cases ho
 | _ :: _, _ :: _, h, o, ho => by
  rcases List.mem_cons.1 ho with rfl | ho
  ·
   exact h.1.2
  ·
   exact each_ip h.2 o ho
theorem OusN.nil (lo : Nat) (w : World) : OusN lo w (.slice none 0 0) [] := ⟨[], World.ownsRow_nil _ _ _ _, trivial⟩
theorem OusN.below {lo : Nat} {w w' : World} {v : Value} {l : List Ou} (h : OusN lo w v l) (hb : Below w.heap.size w w') : OusN lo w' v l := LOwn.stays h (fun _ x => own_below x hb) (fun _ _ x => x)
theorem OusN.mono {lo lo' : Nat} {w : World} {v : Value} {l : List Ou} (h : OusN lo w v l) (hl : lo' ≤ lo) : OusN lo' w v l := by
 obtain ⟨css, h1, h2⟩ := h
 exact ⟨css, ⟨h1.1, h1.2.imp id fun ⟨g, c, cur, hv, hg, r⟩ => ⟨g, c, cur, hv, Nat.le_trans hl hg, r⟩⟩, h2⟩
theorem OusN.grown {lo : Nat} {w w' : World} {g : Nat} {v : Value} {l : List Ou} (h : OusN lo w v l) (hg : w.grownBy w' (some g)) (hl : g < lo) : OusN lo w' v l := by
 obtain ⟨css, h1, h2⟩ := h
 refine ⟨css, h1.kept hg (.inr ?_), h2⟩
 intro e
 have := own_base h1 g e
 omega
theorem OusN.form {lo : Nat} {w : World} {v : Value} {l : List Ou} (h : OusN lo w v l) : ∃ A c, v = .slice A l.length c ∧ OusR w A l ∧ ∀ b, A = some b → lo ≤ b.block := by
 obtain ⟨A, c, rfl⟩ := LOwn.form h
 refine ⟨A, c, rfl, ⟨?_, fun hp => ?_⟩, fun b hb => ?_⟩
 ·
  obtain ⟨css, _, h2⟩ := h; exact each_ip h2
 ·
  obtain ⟨g, h1, h2, h3⟩ := LOwn.at_ OuI.len h hp
  refine ⟨g, 0, h1, h2, fun i hi => ?_⟩
  obtain ⟨cs, h4, h5, _⟩ := h3 i hi
  rw [← h5]; exact h4
 ·
  obtain ⟨css, h1, _⟩ := h
  exact own_base h1 b.block (by rw [hb]; rfl)
def DialRet (g : Nat) (r : Dl × List Ou) (w : World) (e : Ending) (w' : World) : Prop := ∃ v, e = .returned v ∧ OusN w.heap.size w' v r.2 ∧ DialAt w' g r.1 ∧ w.grownBy w' (some g)
def MsgRet (m : Msg) (w : World) (e : Ending) (w' : World) : Prop := ∃ ds, e = .returned (.agg ds.toArray) ∧ MsgOwn w' ds m ∧ Below w.heap.size w w'
theorem dstate_any (g : Nat) (d : Dl) (w : World) (h : DialAt w g d) : Calls prog 17 #[.pointer (some ⟨g, 0, none⟩)] w (Ret (.int .i64 d.st) w) := by
 obtain ⟨p, h, _⟩ := h
 obtain ⟨vn, ds, a, b, c, e, hb, hip, _⟩ := h.open_
 have c24 := hb.cell_ 24 (dl_at hip 1 (by omega))
 clear h hb
 go_enter func17, ntmps17
 go_wp2
 go_ret
 exact Ret.mk rfl rfl
theorem dmsg_any (g : Nat) (d : Dl) (w : World) (h : DialAt w g d) : Calls prog 22 #[.pointer (some ⟨g, 0, none⟩)] w (MsgRet d.msg w) := by
 obtain ⟨p, h, _⟩ := h
 obtain ⟨vn, ds, a, b, c, e, hb, hip, _, hM, _⟩ := h.open_
 have hl := dl_len (vn := vn) (post := ds) (a := a) (b := b) (c := c) (e := e) hip
 have hp := dl_post (vn := vn) (post := ds) (a := a) (b := b) (c := c) (e := e) hip
 generalize JB (dlP vn d) ds a b c e = L at *
 have hdl := hM.len
 have hd1 := Hh hM.one
 have C := hb.alloc (.cells msgZ.toArray 50)
 have B2 := Blk.new w 50 msgZ
 have HB : Below w.heap.size w (w.alloc (.cells msgZ.toArray 50)) := (Below.refl _ _).alloc (Nat.le_refl _) _
 have hM2 := hM.below HB
 have HP : Hid ((L.drop 30).take 14 = ds) := Hh (by rw [hp, List.take_of_length_le (by omega)])
 clear h hp hb hM
 go_enter func22, ntmps22
 go_wp2_with (first
  | (refine at_op (.load 50 (.tmp 8)) rfl ?_; go_must (refine wpList_ldB rfl _ _ rfl g 30 rfl C 14 (by omega) _ underlying50 rfl msgInfo ds HP.out ?_))
  | (refine at_op (.store 50 (.tmp 2) (.tmp 9)) rfl ?_; go_must (refine wpList_stB rfl _ _ _ rfl w.heap.size 0 rfl ds rfl B2 (by have := msgZ_len; omega) (by rw [hdl]; exact msgInfo) hd1.out ?_)))
 intro w8 B8 g8 _
 replace B8 : Blk w8 w.heap.size 50 ds := wholeT B8 (by have := msgZ_len; omega)
 have HB8 := below_grown HB g8 HB.size (Nat.le_refl _)
 have hM8 := hM2.blkT g8 B2 (by decide) (by decide) (by decide)
 clear g8 HB B2 hM2 C
 go_wp2_with fail
 refine ret_cell rfl w.heap.size rfl B8 _ underlying50 rfl (by rw [hdl]; exact msgInfo) rfl ?_
 exact ⟨ds, rfl, hM8, HB8⟩
theorem exec_bld {P : Program} {w : World} {o : Oper} {a : Act} (t : TypeId) (parts : Array (Nat × Operand)) (ho : o.op = .build t parts) (vals : Array (Nat × Value)) (hv : parts.map (fun (i, x) => (i, a.eval x)) = vals) {v : Value} (hr : (Instr.build t vals).run P w = .ok v w) : (execOp a.eval o).run P w = .ok (.value v) w := by
 unfold execOp
 simp only [ho, hv, Sem.run_bind, hr, Result.andThen_ok, Sem.run_pure]
theorem run_bou16 (kind fam zone port : Int) (b0 b1 b2 b3 b4 b5 b6 b7 b8 b9 b10 b11 b12 b13 b14 b15 : UInt8) (data : List UInt8) (W : World) :
  (Instr.build 97 #[(0, .int .i64 kind), (1, .agg (Adr.cells ⟨fam, [b0, b1, b2, b3, b4, b5, b6, b7, b8, b9, b10, b11, b12, b13, b14, b15], zone⟩).toArray), (2, .int .i64 port), (3, .string (bs data))]).run prog W = .ok (.agg (ouC ⟨kind, ⟨fam, [b0, b1, b2, b3, b4, b5, b6, b7, b8, b9, b10, b11, b12, b13, b14, b15], zone⟩, port, data⟩).toArray) W := by
 kernel_rfl
theorem run_bou (kind : Int) (to_ : Adr) (port : Int) (data : List UInt8) (h : to_.ip.length = 16) (W : World) : (Instr.build 97 #[(0, .int .i64 kind), (1, .agg to_.cells.toArray), (2, .int .i64 port), (3, .string (bs data))]).run prog W = .ok (.agg (ouC ⟨kind, to_, port, data⟩).toArray) W := by
 obtain ⟨fam, ip, zone⟩ := to_
 have h' : ip.length = 16 := h
 clear h
 match ip, h' with
 | [b0, b1, b2, b3, b4, b5, b6, b7, b8, b9, b10, b11, b12, b13, b14, b15], _ => exact run_bou16 kind fam zone port b0 b1 b2 b3 b4 b5 b6 b7 b8 b9 b10 b11 b12 b13 b14 b15 data W
def ouZ : List Value := ouC ⟨0, Adr.zero, 0, []⟩
theorem ouInfo3 : (prog.info? 97).map (fun i => (i.zero, i.size, i.bytes)) = some (some (.agg ouZ.toArray), 21, 64) := by kernel_rfl
theorem run_bsOu (w : World) (cs : List Value) (hl : cs.length = 21) : (Instr.buildSlice 34 1 #[(0, .agg cs.toArray)]).run prog w = .ok (.slice (some ⟨w.heap.size, 0, none⟩) 1 1) (w.alloc (.cells cs.toArray 97)) := by
 obtain ⟨i, hi, hz, hsize, hby⟩ := info_parts ouInfo3
 refine run_buildSlice w 34 97 1 _ cs.toArray i _ underlying34 hi hz (by rw [hsize]; decide) (by rw [hsize]; decide) ?_
 rw [hsize]
 have := fill_one 21 ((Array.range (1 * 21)).map ((Value.agg ouZ.toArray).cells[· % (Value.agg ouZ.toArray).cells.size]!)).toList cs hl (by simp)
 rw [Array.toArray_toList] at this
 exact this
theorem exec_bsOu {w w' : World} {v v' : Value} {o : Oper} {a : Act} (x : Operand) (ho : o.op = .buildSlice 34 1 #[(0, x)]) (hx : a.eval x = v) (hr : (Instr.buildSlice 34 1 #[(0, v)]).run prog w = .ok v' w') : (execOp a.eval o).run prog w = .ok (.value v') w' := by
 unfold execOp
 simp only [ho, Sem.run_bind, Sem.run_pure, Result.andThen_ok, List.map_toArray, List.map_cons, List.map_nil, hx, hr]
theorem ousN_one (w : World) (o : Ou) (h : o.to_.ip.length = 16) : OusN w.heap.size (w.alloc (.cells (ouC o).toArray 97)) (.slice (some ⟨w.heap.size, 0, none⟩) 1 1) [o] := by
 have hl := ouC_len h
 refine ⟨[ouC o], ⟨by simp [hl], .inr ⟨w.heap.size, 1, (ouC o).toArray, rfl, Nat.le_refl _, Blk.new w 97 (ouC o), Nat.le_refl _, by simp [maxLen], by simp [hl], ?_⟩⟩, ⟨rfl, h⟩, trivial⟩
 simp only [List.flatten_cons, List.flatten_nil, List.append_nil, List.length_singleton, Nat.one_mul]
 exact List.take_of_length_le (by omega)
def OutRet (o : Ou) (w : World) (e : Ending) (w' : World) : Prop := ∃ v, e = .returned v ∧ OusN w.heap.size w' v [o] ∧ Below w.heap.size w w'
set_option maxHeartbeats 1000000 in
theorem out_blk (f : FuncId) (hf : f = 76) (g : Nat) (kind : Int) (data : List UInt8) (L : List Value) (to_ : Adr) (port : Int) (w : World) (hb : Blk w g 152 L) (hl : 23 ≤ L.length) (hip : to_.ip.length = 16) (ha : (L.drop 0).take 18 = to_.cells) (hp : L[18]? = some (.int .i64 port)) :
  Calls prog f #[.pointer (some ⟨g, 0, none⟩), .int .i64 kind, .string (bs data)] w (OutRet ⟨kind, to_, port, data⟩ w) := by
 subst hf
 have RB := Hh (fun W => run_bou kind to_ port data hip W)
 have HL := ouC_len (o := ⟨kind, to_, port, data⟩) hip
 have ON := Hh (fun W => ousN_one W ⟨kind, to_, port, data⟩ hip)
 have HA := Hh ha
 clear hip ha
 generalize ouC ⟨kind, to_, port, data⟩ = oc at *
 generalize to_.cells = tc at *
 go_enter func76, ntmps76
 go_wp2_with fail
 refine wp_region_held_drew (S := fun V => Below w.heap.size w V) (by kernel_rfl) (Below.refl _ _).drew (fun hS => ?_)
 (refine held_val 0 (some 7) rfl rfl (by kernel_rfl) (by kernel_rfl) (by kernel_rfl) (fun _ _ _ h => h) (by kernel_rfl) (fun W hW => rfl) hS ?_; simp only [Act.put, lsA, lsB, lsC])
 (refine held_val 1 (some 8) rfl rfl (by kernel_rfl) (by kernel_rfl) (by kernel_rfl) (fun _ _ _ h => h) (by kernel_rfl) (fun W hW => rfl) hS ?_; simp only [Act.put, lsA, lsB, lsC])
 refine held_val 2 (some 9) (v := .pointer (some ⟨g, 0, none⟩)) rfl rfl (by kernel_rfl) (by kernel_rfl) (by kernel_rfl) (fun _ _ _ h => h) (by kernel_rfl) (fun W hW => by kernel_rfl) hS ?_
 simp only [Act.put, lsA, lsB, lsC]
 refine held_val 3 (some 10) (v := .pointer (some ⟨g, 0, none⟩)) rfl rfl (by kernel_rfl) (by kernel_rfl) (by kernel_rfl) (fun _ _ _ h => h) (by kernel_rfl) (fun W hW => rfl) hS ?_
 simp only [Act.put, lsA, lsB, lsC]
 refine held_val 4 (some 11) (v := .pointer (some ⟨g, 0, none⟩)) rfl rfl (by kernel_rfl) (by kernel_rfl) (by kernel_rfl) (fun _ _ _ h => h) (by kernel_rfl) (fun W hW => rfl) hS ?_
 simp only [Act.put, lsA, lsB, lsC]
 refine held_ld 5 (some 12) 24 (.tmp 11) ⟨g, 0, none⟩ rfl rfl rfl rfl (by kernel_rfl) (by kernel_rfl) (by kernel_rfl) (fun _ _ _ h => h) (by kernel_rfl) (fun V hV => (hb.below hV hb.lt).loads 24 0 18 (by omega) _ underlying24 rfl adInfoM _ HA.out) hS ?_
 simp only [Act.put, lsA, lsB, lsC]
 (refine held_val 6 (some 13) rfl rfl (by kernel_rfl) (by kernel_rfl) (by kernel_rfl) (fun _ _ _ h => h) (by kernel_rfl) (fun W hW => rfl) hS ?_; simp only [Act.put, lsA, lsB, lsC])
 refine held_val 7 (some 14) (v := .pointer (some ⟨g, 0, none⟩)) rfl rfl (by kernel_rfl) (by kernel_rfl) (by kernel_rfl) (fun _ _ _ h => h) (by kernel_rfl) (fun W hW => by kernel_rfl) hS ?_
 simp only [Act.put, lsA, lsB, lsC]
 refine held_val 8 (some 15) (v := .pointer (some ⟨g, 0, none⟩)) rfl rfl (by kernel_rfl) (by kernel_rfl) (by kernel_rfl) (fun _ _ _ h => h) (by kernel_rfl) (fun W hW => rfl) hS ?_
 simp only [Act.put, lsA, lsB, lsC]
 refine held_val 9 (some 16) (v := .pointer (some ⟨g, 18, none⟩)) rfl rfl (by kernel_rfl) (by kernel_rfl) (by kernel_rfl) (fun _ _ _ h => h) (by kernel_rfl) (fun W hW => rfl) hS ?_
 simp only [Act.put, lsA, lsB, lsC]
 refine held_ld 10 (some 17) 3 (.tmp 16) ⟨g, 18, none⟩ rfl rfl rfl rfl (by kernel_rfl) (by kernel_rfl) (by kernel_rfl) (fun _ _ _ h => h) (by kernel_rfl) (fun V hV => run_load1 underlying3 rfl ((hb.below hV hb.lt).cell_ 18 hp)) hS ?_
 simp only [Act.put, lsA, lsB, lsC]
 (refine held_val 11 (some 18) rfl rfl (by kernel_rfl) (by kernel_rfl) (by kernel_rfl) (fun _ _ _ h => h) (by kernel_rfl) (fun W hW => rfl) hS ?_; simp only [Act.put, lsA, lsB, lsC])
 refine held_val 12 (some 19) (v := .agg oc.toArray) rfl rfl (by kernel_rfl) (by kernel_rfl) (by kernel_rfl) (fun _ _ _ h => h) (by kernel_rfl) (fun W hW => exec_bld 97 _ rfl #[(0, .int .i64 kind), (1, .agg tc.toArray), (2, .int .i64 port), (3, .string (bs data))] (by kernel_rfl) (RB.out W)) hS ?_
 simp only [Act.put, lsA, lsB, lsC]
 refine ord_one 13 (by kernel_rfl) ?_
 refine opw_run 13 (some 20) rfl rfl (by kernel_rfl) (exec_bsOu (.tmp 19) rfl rfl (run_bsOu _ oc HL)) ?_
 have OO := ON.out w.drew
 have hS2 : Below w.heap.size w (w.drew.alloc (.cells oc.toArray 97)) := hS.alloc hS.size _
 refine ⟨hS2, ?_⟩
 clear hS
 have hS := hS2
 clear hS2
 simp only [Act.put, lsA, lsB, lsC]
 (refine held_val 14 (some 6) rfl rfl (by kernel_rfl) (by kernel_rfl) (by kernel_rfl) (fun _ _ _ h => h) (by kernel_rfl) (fun W hW => rfl) hS ?_; simp only [Act.put, lsA, lsB, lsC])
 refine wpAnyH_done (by kernel_rfl) ?_ _
 go_wp2_with fail
 go_ret
 exact ⟨_, rfl, OO, hS⟩
theorem DialJ.out {w : World} {g : Nat} {d : Dl} {p : List UInt8} (h : DialJ w g d p) (kind : Int) (data : List UInt8) :
  Calls prog 76 #[.pointer (some ⟨g, 0, none⟩), .int .i64 kind, .string (bs data)] w (OutRet ⟨kind, d.y.sv, d.y.port, data⟩ w) := by
 obtain ⟨vn, ds, a, b, c, e, hb, hip, _, hM, _⟩ := h.open_
 exact out_blk _ rfl g kind data _ d.y.sv d.y.port w hb (by rw [dl_len hip]; omega) hip (dl_ad hip) (dl_port hip)
theorem hang_any (g : Nat) (d : Dl) (w : World) (h : DialAt w g d) : Calls prog 28 #[.pointer (some ⟨g, 0, none⟩)] w (DialRet g (hangD d) w) := by
 have h' := h
 obtain ⟨p, hJ, hp, hok⟩ := h
 obtain ⟨vn, ds, a, b, c, e, hb, hip, _⟩ := hJ.open_
 have c24 := hb.cell_ 24 (dl_at hip 1 (by omega))
 have f24 := hb.frozen 24
 have hgl := hb.lt
 by_cases hs : d.st = 0
 case neg =>
  have e1 : hangD d = (d, []) := by unfold hangD; rw [if_pos hs]
  rw [e1]
  have hs' : (d.st != 0) = true := by simpa using hs
  have H := Hh h'
  clear h' hJ hp hok hb hip hs e1
  generalize d.st = st at *
  go_enter func28, ntmps28
  go_wp2_with fail
  go_ret
  exact ⟨_, rfl, OusN.nil _ _, H.out, World.grownBy.refl _ _⟩
 have e1 : hangD d = ({ d with st := 2 }, [⟨4, d.y.sv, d.y.port, []⟩]) := by unfold hangD; rw [if_neg (by rw [hs]; decide)]
 rw [e1]
 have J2 : DialJ (w.setCell ⟨g, 24, none⟩ (.int .i64 2)) g { d with st := 2 } p := hJ.set 1 (by omega) (.int .i64 2) rfl rfl rfl
 have G2 : w.grownBy (w.setCell ⟨g, 24, none⟩ (.int .i64 2)) (some g) := grown_set (World.grownBy.refl _ _) _ _
 have OC := Hh (J2.out 4 [])
 have HJ := Hh J2
 rw [hs] at c24
 clear h' hJ hp hok hb hip hs e1 J2
 go_enter func28, ntmps28
 go_wp2_with fail
 refine OC.out.mono ?_
 rintro _ w2 ⟨v, rfl, hO, b2⟩
 go_wp2_with fail
 go_ret
 exact ⟨_, rfl, hO.mono (by simp [World.setCell]), ⟨p, HJ.out.below b2, fun h => (by cases h), fun h => (by cases h)⟩, grown_below G2 b2⟩
theorem frames_mem : ∀ (n : Nat) (s : List UInt8), s.length ≤ n → ∀ t ∈ frames s, t.length ≤ s.length := by
 intro n
 induction n with
 | zero =>
  intro s hs t ht
  have : s = [] := List.length_eq_zero_iff.1 (by omega)
  subst this
  rw [(frames_no [] (by simp [wholeB])).1] at ht
  cases ht
 | succ n ih =>
  intro s hs t ht
  cases hw : wholeB s with
  | false => rw [(frames_no s hw).1] at ht; cases ht
  | true =>
   have hr := rest1_lt s hw
   rw [(frames_yes s hw).1] at ht
   rcases List.mem_cons.1 ht with rfl | ht
   ·
    unfold msg1; simp; omega
   ·
    have := ih (rest1 s) (by omega) t ht
    omega
def bytesD (d : Dl) (s : List UInt8) : Dl × List Ou := match firstA d.y (frames (d.heard ++ s)) with
 | some m => ({ d with heard := d.heard ++ s, msg := m, st := 1 }, [⟨4, d.y.sv, d.y.port, []⟩])
 | none => ({ d with heard := d.heard ++ s }, [])
theorem dyInfo : (prog.info? 37).map (·.size) = some 23 := by kernel_rfl
set_option maxHeartbeats 2000000 in
theorem bytes_any (g : Nat) (d : Dl) (s : List UInt8) (w : World) (h : DialAt w g d) (hst : d.st = 0) (hb : d.heard.length + s.length ≤ 8796093022208) :
  Calls prog 77 #[.pointer (some ⟨g, 0, none⟩), .string (bs s)] w (DialRet g (bytesD d s) w) := by
 obtain ⟨p, hJ, hp, hok⟩ := h
 have hp := hp hst
 have hpl : p.length ≤ d.heard.length := by rw [hp]; exact restF_le d.heard.length d.heard (Nat.le_refl _)
 obtain ⟨HF, HR⟩ := firstA_rest d hok hst s
 rw [← hp] at HF HR
 obtain ⟨R, hR⟩ : ∃ R, Hid (bytesD d s = R) := ⟨_, Hh rfl⟩
 rw [hR.out]
 have FD : Hid (Calls prog 118 #[.pointer (some ⟨g, 26, none⟩), .string (bs s)] w (fun e w' => ∃ v, e = .returned v ∧ Txts w' v (frames (p ++ s)) ∧ DialJ w' g d (restF (p ++ s)) ∧ w.grownBy w' (some g))) := Hh (by
  obtain ⟨vn, ds, hJA, hip, hN, hM⟩ := hJ
  refine (feed_any g _ ds p s w hJA (by omega)).mono ?_
  rintro e w' ⟨v, he, hT, hJ1, g1⟩
  obtain ⟨_, _, _, _, _, hbk, _⟩ := hJA
  exact ⟨v, he, hT, ⟨vn, ds, hJ1, hip, hN.dial g1 hbk, hM.dial g1 hbk⟩, g1⟩)
 have HLm : Hid (∀ t ∈ frames (p ++ s), t.length ≤ maxLen) := Hh (fun t ht => Nat.le_trans (frames_mem _ _ (Nat.le_refl _) t ht) (by simp [maxLen]; omega))
 have hnl : (frames (p ++ s)).length ≤ 8796093022208 := by
  have := frames_le (p ++ s).length (p ++ s) (Nat.le_refl _)
  simp at this; omega
 have HB : Hid (bytesD d s = match firstA d.y (frames (p ++ s)) with
  | some m => ({ d with heard := d.heard ++ s, msg := m, st := 1 }, [⟨4, d.y.sv, d.y.port, []⟩])
  | none => ({ d with heard := d.heard ++ s }, [])) := Hh (by unfold bytesD; rw [HF])
 have HF' := Hh HF
 have HR' := Hh HR
 have HST := Hh hst
 clear hJ hp hok hpl HF HR hb hst
 generalize frames (p ++ s) = l at *
 generalize restF (p ++ s) = q at *
 go_enter func77, ntmps77
 go_wp2_with fail
 refine FD.out.mono ?_
 rintro _ w1 ⟨v, rfl, hT, hJ1, g1⟩
 obtain ⟨A, c, hv, -, -⟩ := hT.form
 subst hv
 clear FD
 go_wp2_with fail
 go_loopw [15] (fun iv wr => ∃ k : Nat, k ≤ l.length ∧ iv = .int .i64 k ∧ firstA d.y (l.take k) = none ∧ DialJ wr g d q ∧ Txts wr (.slice A l.length c) l ∧ w.grownBy wr (some g)) (fun iv _ => l.length - (intOf iv).toNat)
 case atStart => exact ⟨0, Nat.zero_le _, rfl, rfl, hJ1, hT, g1⟩
 clear hJ1 hT g1
 obtain ⟨k, hk, rfl, hno, hJ, hT, hg⟩ := hrel
 have HN := Hh hno
 clear hno
 by_cases hlt : k < l.length
 case pos =>
  have hlt' : (k : Int) < l.length := by omega
  obtain ⟨A', c', hA, hTx, hc⟩ := hT.form
  injection hA with hA1 hA2 hA3
  subst hA1 hA3
  obtain ⟨ba, oa, hA, la, xa⟩ := hTx (by omega)
  subst hA
  have cs1 := xa k hlt
  obtain ⟨vn, L, ds, hbk, hL, hip, hNm, hq, ha, c18, c23, c24, c25, hpo, hM, hput⟩ := hJ.blk
  obtain ⟨An, cn, hvn, hNR⟩ := hNm.form
  subst hvn
  have FR := Hh (frame_any (qyC (.slice An d.y.q.name.length cn) d.y) d.y An cn l[k] wr ⟨rfl, hip, hNR⟩ (HLm.out _ (List.getElem_mem hlt)))
  have HQ := Hh hq
  have HJ := Hh hJ
  have HT := Hh hT
  have HY : Hid ((frameP d.y (decM l[k])).2 = true → firstA d.y l = some (frameP d.y (decM l[k])).1) := Hh (fun hf => firstA_take_yes hlt HN.out hf)
  have HNO : Hid ((frameP d.y (decM l[k])).2 = false → firstA d.y (l.take (k + 1)) = none) := Hh (fun hf => firstA_take_no hlt HN.out hf)
  clear hJ hT hNm hNR hq ha c18 c23 c24 c25 hpo hM hput xa hTx hip hc HN
  generalize frameP d.y (decM l[k]) = F at *
  generalize l[k] = t at *
  generalize qyC (.slice An d.y.q.name.length cn) d.y = qs at *
  go_wp2_with (refine at_op (.load 37 (.tmp 22)) rfl ?_; go_must (refine wpList_ldB rfl _ _ rfl g 0 rfl hbk 23 (by omega) _ underlying37 rfl dyInfo qs HQ.out ?_))
  refine FR.out.mono ?_
  rintro _ w2 ⟨ds2, rfl, hM2, b2⟩
  have hdl := hM2.len
  have hd1 := Hh hM2.one
  have J2 := HJ.out.below b2
  have T2 := HT.out.below b2
  have g2 := grown_below hg b2
  clear FR hbk HJ HT hg b2 cs1 HQ
  go_wp2_with (refine at_op (.store 50 (.tmp 7) (.tmp 26)) rfl ?_; go_must (refine wpList_stB rfl _ _ _ rfl w2.heap.size 0 rfl ds2 rfl (Blk.new' _ _ msgZ _ rfl) (by rw [hdl, msgZ_len]; omega) (by rw [hdl]; exact msgInfo) hd1.out ?_))
  intro w3 B3 g3 _
  replace B3 : Blk w3 w2.heap.size 50 ds2 := wholeT B3 (by have := msgZ_len; omega)
  have k3 : Below w2.heap.size w2 w3 := below_grown ((Below.refl _ _).alloc (Nat.le_refl _) _) g3 (by simp) (Nat.le_refl _)
  have J3 := J2.below k3
  have T3 := T2.below k3
  have G3 := grown_below g2 k3
  have M3 := hM2.below k3
  clear g3 k3 J2 T2 g2 hM2
  cases hf : F.2 with
  | false =>
   have hn := HNO.out hf
   have HN := Hh hn
   clear hn HNO HY hf M3 B3
   go_wp2_with fail
   go_roundw
   case rel => exact ⟨k + 1, by omega, by go_num, HN.out, J3, T3, G3⟩
   case measure => simp [intOf]; omega
  | true =>
   have hy := HY.out hf
   have hR2 : R = ({ d with heard := d.heard ++ s, msg := F.1, st := 1 }, [⟨4, d.y.sv, d.y.port, []⟩]) := by rw [← hR.out, HB.out, hy]
   have HR2 := Hh hR2
   clear hy hR2 HNO HY hf T3 HB hR
   obtain ⟨vn, L3, ds3, hb3, hL3, hip, hNm, hq, ha, c18, c23, c24, c25, hpo, hM, hput⟩ := J3.blk
   have HP := Hh hput
   clear hput hNm hq ha c18 c23 c24 c25 hpo hM
   go_wp2_with (first
    | (refine at_op (.load 50 (.tmp 7)) rfl ?_; go_must (refine wpList_ldB rfl _ _ rfl w2.heap.size 0 rfl B3 14 (by omega) _ underlying50 rfl msgInfo ds2 (tk0 (by omega)) ?_))
    | (refine at_op (.store 50 (.tmp 32) (.tmp 30)) rfl ?_; go_must (refine wpList_stB rfl _ _ _ rfl g 30 rfl ds2 rfl hb3 (by rw [hdl, hL3]; omega) (by rw [hdl]; exact msgInfo) hd1.out ?_)))
   intro w4 B4 g4 _
   have J4 := HP.out w4 ds2 F.1 g4 (by rw [hdl, List.append_assoc]; exact B4) M3
   have G4 := grown_trans G3 g4 (.inl rfl)
   obtain ⟨vn4, L4, _, hb4, hL4, _, _, _, _, _, _, c24, _⟩ := J4.blk
   have d24 := hb4.cell_ 24 c24
   have f24 := hb4.frozen 24
   have hgl := hb4.lt
   have J5 : DialJ (w4.setCell ⟨g, 24, none⟩ (.int .i64 1)) g { d with msg := F.1, st := 1 } q := J4.set 1 (by omega) (.int .i64 1) rfl rfl rfl
   have G5 : w.grownBy (w4.setCell ⟨g, 24, none⟩ (.int .i64 1)) (some g) := grown_trans G4 (grown_set (World.grownBy.refl _ _) _ _) (.inl rfl)
   have OC := Hh (J5.out 4 [])
   have HJ5 := Hh J5
   clear HP B4 g4 M3 B3 hb3 G3 J3 hb4 J4 G4 c24 J5
   go_wp2_with fail
   refine OC.out.mono ?_
   rintro _ w5 ⟨v, rfl, hO, b5⟩
   go_wp2_with fail
   go_ret
   rw [HR2.out]
   obtain ⟨vn6, ds6, k1, k2, k3, k4⟩ := HJ5.out.below b5
   exact ⟨_, rfl, hO.mono G5.size, ⟨q, ⟨vn6, ds6, k1, k2, k3, k4⟩, fun h => (by cases h), fun h => (by cases h)⟩, grown_below G5 b5⟩
 obtain rfl : k = l.length := by omega
 have hlt' : ¬ (l.length : Int) < l.length := by omega
 have hn := HN.out
 rw [List.take_of_length_le (Nat.le_refl _)] at hn
 have hR2 : R = ({ d with heard := d.heard ++ s }, []) := by rw [← hR.out, HB.out, hn]
 have HR2 := Hh hR2
 have HOK := Hh hn
 clear hR2 hn hT
 go_wp2_with fail
 go_ret
 rw [HR2.out]
 obtain ⟨vn6, ds6, k1, k2, k3, k4⟩ := hJ
 exact ⟨_, rfl, OusN.nil _ _, ⟨q, ⟨vn6, ds6, k1, k2, k3, k4⟩, fun _ => HR'.out.symm, fun _ => by rw [show firstA d.y (frames (d.heard ++ s)) = firstA d.y l from HF'.out]; exact HOK.out⟩, hg⟩
set_option maxHeartbeats 2000000 in
theorem hear_any (g : Nat) (d : Dl) (e : Ev) (w : World) (h : DialAt w g d) (hip : e.fr.ip.length = 16) (hb : d.heard.length + e.data.length ≤ 8796093022208) :
  Calls prog 18 #[.pointer (some ⟨g, 0, none⟩), .agg (evC e).toArray] w (DialRet g (hearD d e) w) := by
 have hel := evC_len hip
 have E0 : (evC e)[0]? = some (.int .i64 e.kind) := rfl
 have E20 : (evC e)[20]? = some (.int .i64 e.port) := evC_at hip 1
 have E21 : (evC e)[21]? = some (.string (bs e.data)) := evC_at hip 2
 have HX : Below w.heap.size w (w.alloc (.cells (evC e).toArray 42)) := (Below.refl _ _).alloc (Nat.le_refl _) _
 have E := Blk.new w 42 (evC e)
 obtain ⟨p, hJ, hp, hok⟩ := h
 have HK := Hh (And.intro hp hok)
 obtain ⟨vn, L, ds, hbk, hL, _, _, _, _, c18, _, c24, _⟩ := (hJ.below HX).blk
 replace c18 := hbk.cell_ 18 c18
 replace c24 := hbk.cell_ 24 c24
 have d20 := E.cell_ 20 E20
 obtain ⟨R, hR⟩ : ∃ R, Hid (hearD d e = R) := ⟨_, Hh rfl⟩
 rw [hR.out]
 have BY := Hh (fun W (hD : DialAt W g d) hs => bytes_any g d e.data W hD hs hb)
 clear hp hok hbk hL hip hb E20
 generalize hes : evC e = es at *
 clear hes
 by_cases hs : d.st = 0
 case neg =>
  have HR2 : Hid (R = (d, [])) := Hh (by rw [← hR.out]; unfold hearD; rw [if_pos (.inl hs)])
  have hs' : (d.st != 0) = true := by simpa using hs
  clear hs BY hR
  go_enter func18, ntmps18
  go_wp2_with fail
  go_quiet (fail)
  go_wp2_with fail
  go_ret
  rw [HR2.out]
  exact ⟨_, rfl, OusN.nil _ _, ⟨p, hJ.below (below_drewN HX _), HK.out⟩, grown_of_below (below_drewN HX _) _⟩
 rw [hs] at c24
 by_cases hpo : e.port = d.y.port
 case neg =>
  have HR2 : Hid (R = (d, [])) := Hh (by rw [← hR.out]; unfold hearD; rw [if_pos (.inr hpo)])
  have hpo' : (e.port != d.y.port) = true := by simpa using hpo
  clear hpo BY hR
  go_enter func18, ntmps18
  go_wp2_with fail
  go_quiet (fail)
  go_wp2_with fail
  go_ret
  rw [HR2.out]
  exact ⟨_, rfl, OusN.nil _ _, ⟨p, hJ.below (below_drewN HX _), HK.out⟩, grown_of_below (below_drewN HX _) _⟩
 have H0 : Hid (¬ (d.st ≠ 0 ∨ e.port ≠ d.y.port)) := Hh (by rw [hs, hpo]; simp)
 have HS := Hh hs
 rw [hpo] at d20
 clear hs hpo
 by_cases hk3 : e.kind = 3
 case pos =>
  rw [hk3] at E0
  cases hop : d.op with
  | true =>
   have HR2 : Hid (R = (d, [])) := Hh (by rw [← hR.out]; unfold hearD; rw [if_neg H0.out, if_pos hk3, if_pos hop])
   clear hk3 BY hR
   go_enter func18, ntmps18
   go_wp2_with fail
   go_quiet (fail)
   obtain ⟨W, hW⟩ : ∃ W, W = (w.alloc (.cells es.toArray 42)).drewN nq := ⟨_, rfl⟩
   rw [← hW]
   have HW : Below w.heap.size w W := hW ▸ below_drewN HX _
   have EW : Blk W w.heap.size 42 es := hW ▸ E.drewN _
   have JW := hJ.below HW
   clear hW c18 c24 d20 E hJ HX
   obtain ⟨vn, L, ds, hbk, hL, _, _, _, _, _, c23, c24, c25, _⟩ := JW.blk
   have a23 := hbk.cell_ 23 c23
   have a24 := hbk.cell_ 24 c24
   have a25 := hbk.cell_ 25 c25
   have f24 := hbk.frozen 24
   have f25 := hbk.frozen 25
   have hgl := hbk.lt
   have d0 := EW.cell_ 0 E0
   have d21 := EW.cell_ 21 E21
   clear c23 c24 c25 EW hbk hL
   rw [hop] at a25
   clear hop
   go_wp2_with fail
   go_ret
   rw [HR2.out]
   exact ⟨_, rfl, OusN.nil _ _, ⟨p, JW, HK.out⟩, grown_of_below HW _⟩
  | false =>
   have HR2 : Hid (R = ({ d with op := true }, [⟨3, d.y.sv, d.y.port, d.oct⟩])) := Hh (by rw [← hR.out]; unfold hearD; rw [if_neg H0.out, if_pos hk3, if_neg (by rw [hop]; decide)])
   clear hk3 BY hR
   go_enter func18, ntmps18
   go_wp2_with fail
   go_quiet (fail)
   obtain ⟨W, hW⟩ : ∃ W, W = (w.alloc (.cells es.toArray 42)).drewN nq := ⟨_, rfl⟩
   rw [← hW]
   have HW : Below w.heap.size w W := hW ▸ below_drewN HX _
   have EW : Blk W w.heap.size 42 es := hW ▸ E.drewN _
   have JW := hJ.below HW
   clear hW c18 c24 d20 E hJ HX
   obtain ⟨vn, L, ds, hbk, hL, _, _, _, _, _, c23, c24, c25, _⟩ := JW.blk
   have a23 := hbk.cell_ 23 c23
   have a24 := hbk.cell_ 24 c24
   have a25 := hbk.cell_ 25 c25
   have f24 := hbk.frozen 24
   have f25 := hbk.frozen 25
   have hgl := hbk.lt
   have d0 := EW.cell_ 0 E0
   have d21 := EW.cell_ 21 E21
   clear c23 c24 c25 EW hbk hL
   rw [hop] at a25
   have J6 : DialJ (W.setCell ⟨g, 25, none⟩ (.bool true)) g { d with op := true } p := JW.set 2 (by omega) (.bool true) rfl rfl rfl
   have G6 : w.grownBy (W.setCell ⟨g, 25, none⟩ (.bool true)) (some g) := grown_trans (grown_of_below HW _) (grown_set (World.grownBy.refl _ _) _ _) (.inl rfl)
   have OC := Hh (J6.out 3 d.oct)
   have HJ := Hh J6
   clear hop J6 JW
   go_wp2_with fail
   refine OC.out.mono ?_
   rintro _ w5 ⟨v, rfl, hO, b5⟩
   go_wp2_with fail
   go_ret
   rw [HR2.out]
   exact ⟨_, rfl, hO.mono G6.size, ⟨p, HJ.out.below b5, HK.out⟩, grown_below G6 b5⟩
 have hk3' : (e.kind == 3) = false := by simpa using hk3
 by_cases hk4 : e.kind = 4
 case pos =>
  rw [hk4] at E0
  cases hop : d.op with
  | true =>
   have HR2 : Hid (R = bytesD d e.data) := Hh (by rw [← hR.out]; unfold hearD bytesD; rw [if_neg H0.out, if_neg hk3, if_pos hk4, if_pos hop]; rfl)
   clear hk3 hk4 hk3' hR
   go_enter func18, ntmps18
   go_wp2_with fail
   go_quiet (fail)
   obtain ⟨W, hW⟩ : ∃ W, W = (w.alloc (.cells es.toArray 42)).drewN nq := ⟨_, rfl⟩
   rw [← hW]
   have HW : Below w.heap.size w W := hW ▸ below_drewN HX _
   have EW : Blk W w.heap.size 42 es := hW ▸ E.drewN _
   have JW := hJ.below HW
   clear hW c18 c24 d20 E hJ HX
   obtain ⟨vn, L, ds, hbk, hL, _, _, _, _, _, c23, c24, c25, _⟩ := JW.blk
   have a23 := hbk.cell_ 23 c23
   have a24 := hbk.cell_ 24 c24
   have a25 := hbk.cell_ 25 c25
   have f24 := hbk.frozen 24
   have f25 := hbk.frozen 25
   have hgl := hbk.lt
   have d0 := EW.cell_ 0 E0
   have d21 := EW.cell_ 21 E21
   clear c23 c24 c25 EW hbk hL
   rw [hop] at a25
   have BC := Hh (BY.out W ⟨p, JW, HK.out⟩ HS.out)
   clear hop BY JW
   generalize e.data = dt at *
   go_wp2_with fail
   refine BC.out.mono ?_
   rintro _ w5 ⟨v, rfl, hO, hD, g5⟩
   go_wp2_with fail
   go_ret
   rw [HR2.out]
   exact ⟨_, rfl, hO.mono HW.size, hD, grown_trans (grown_of_below HW _) g5 (.inl rfl)⟩
  | false =>
   have HR2 : Hid (R = (d, [])) := Hh (by rw [← hR.out]; unfold hearD; rw [if_neg H0.out, if_neg hk3, if_pos hk4, if_neg (by rw [hop]; decide)])
   clear hk3 hk4 hk3' BY hR
   go_enter func18, ntmps18
   go_wp2_with fail
   go_quiet (fail)
   obtain ⟨W, hW⟩ : ∃ W, W = (w.alloc (.cells es.toArray 42)).drewN nq := ⟨_, rfl⟩
   rw [← hW]
   have HW : Below w.heap.size w W := hW ▸ below_drewN HX _
   have EW : Blk W w.heap.size 42 es := hW ▸ E.drewN _
   have JW := hJ.below HW
   clear hW c18 c24 d20 E hJ HX
   obtain ⟨vn, L, ds, hbk, hL, _, _, _, _, _, c23, c24, c25, _⟩ := JW.blk
   have a23 := hbk.cell_ 23 c23
   have a24 := hbk.cell_ 24 c24
   have a25 := hbk.cell_ 25 c25
   have f24 := hbk.frozen 24
   have f25 := hbk.frozen 25
   have hgl := hbk.lt
   have d0 := EW.cell_ 0 E0
   have d21 := EW.cell_ 21 E21
   clear c23 c24 c25 EW hbk hL
   rw [hop] at a25
   clear hop
   go_wp2_with fail
   go_ret
   rw [HR2.out]
   exact ⟨_, rfl, OusN.nil _ _, ⟨p, JW, HK.out⟩, grown_of_below HW _⟩
 have hk4' : (e.kind == 4) = false := by simpa using hk4
 by_cases hk5 : e.kind = 5
 case pos =>
  have HR2 : Hid (R = ({ d with st := 2 }, [])) := Hh (by rw [← hR.out]; unfold hearD; rw [if_neg H0.out, if_neg hk3, if_neg hk4, if_pos hk5])
  rw [hk5] at E0
  clear hk3 hk4 hk5 hk3' hk4' BY hR
  go_enter func18, ntmps18
  go_wp2_with fail
  go_quiet (fail)
  obtain ⟨W, hW⟩ : ∃ W, W = (w.alloc (.cells es.toArray 42)).drewN nq := ⟨_, rfl⟩
  rw [← hW]
  have HW : Below w.heap.size w W := hW ▸ below_drewN HX _
  have EW : Blk W w.heap.size 42 es := hW ▸ E.drewN _
  have JW := hJ.below HW
  clear hW c18 c24 d20 E hJ HX
  obtain ⟨vn, L, ds, hbk, hL, _, _, _, _, _, c23, c24, c25, _⟩ := JW.blk
  have a23 := hbk.cell_ 23 c23
  have a24 := hbk.cell_ 24 c24
  have a25 := hbk.cell_ 25 c25
  have f24 := hbk.frozen 24
  have f25 := hbk.frozen 25
  have hgl := hbk.lt
  have d0 := EW.cell_ 0 E0
  have d21 := EW.cell_ 21 E21
  clear c23 c24 c25 EW hbk hL
  have J6 : DialJ (W.setCell ⟨g, 24, none⟩ (.int .i64 2)) g { d with st := 2 } p := JW.set 1 (by omega) (.int .i64 2) rfl rfl rfl
  have G6 : w.grownBy (W.setCell ⟨g, 24, none⟩ (.int .i64 2)) (some g) := grown_trans (grown_of_below HW _) (grown_set (World.grownBy.refl _ _) _ _) (.inl rfl)
  have HJ := Hh J6
  clear J6 JW
  go_wp2_with fail
  go_ret
  rw [HR2.out]
  exact ⟨_, rfl, OusN.nil _ _, ⟨p, HJ.out, fun h => (by cases h), fun h => (by cases h)⟩, G6⟩
 have HR2 : Hid (R = (d, [])) := Hh (by rw [← hR.out]; unfold hearD; rw [if_neg H0.out, if_neg hk3, if_neg hk4, if_neg hk5])
 have hk5' : (e.kind == 5) = false := by simpa using hk5
 clear hk3 hk4 hk5 BY hR
 generalize e.kind = kd at *
 go_enter func18, ntmps18
 go_wp2_with fail
 go_quiet (fail)
 obtain ⟨W, hW⟩ : ∃ W, W = (w.alloc (.cells es.toArray 42)).drewN nq := ⟨_, rfl⟩
 rw [← hW]
 have HW : Below w.heap.size w W := hW ▸ below_drewN HX _
 have EW : Blk W w.heap.size 42 es := hW ▸ E.drewN _
 have JW := hJ.below HW
 clear hW c18 c24 d20 E hJ HX
 obtain ⟨vn, L, ds, hbk, hL, _, _, _, _, _, c23, c24, c25, _⟩ := JW.blk
 have a23 := hbk.cell_ 23 c23
 have a24 := hbk.cell_ 24 c24
 have a25 := hbk.cell_ 25 c25
 have f24 := hbk.frozen 24
 have f25 := hbk.frozen 25
 have hgl := hbk.lt
 have d0 := EW.cell_ 0 E0
 have d21 := EW.cell_ 21 E21
 clear c23 c24 c25 EW hbk hL
 go_wp2_with fail
 go_ret
 rw [HR2.out]
 exact ⟨_, rfl, OusN.nil _ _, ⟨p, JW, HK.out⟩, grown_of_below HW _⟩
end Go.Proofs.YthnbcmlnpdabhaaGreat

/-
  Layer 28 (dial): a dial in memory; State, Message, out.
-/
import Derived.Test.YthnbcmlnpdabhaaGreatHWq
namespace Go.Proofs.YthnbcmlnpdabhaaGreat
open _root_.Go.Proofs.Tryz
open Go.RowKit
set_option maxRecDepth 100000
set_option linter.unusedVariables false
set_option linter.unusedSimpArgs false
def y9 (w : World) (v : Value) (n : List (List UInt8)) : Prop := pL w v n /\ n.length <= 100000 /\ ∀ l ∈ n, l.length <= 140737488355328
theorem y9.stays {w w' : World} {v : Value} {n : List (List UInt8)} (h : y9 w v n) (k : nQ w w') : y9 w' v n := ⟨k _ _ h.1, h.2⟩
theorem y9.form {w : World} {v : Value} {n : List (List UInt8)} (h : y9 w v n) : ∃ A c, v = .slice A n.length c /\ rQ w A c n := by
 obtain ⟨A, c, h1, h2, h3⟩ := h.1.form;exact ⟨A, c, h1, h2, h3, by have := h.2.1; omega, h.2.2⟩
theorem nL.u9 {w w' : World} {g : Nat} {t : TypeId} {cs L : List Value} {m : oh} (h : nL w cs m) (hg : w.grownBy w' (some g)) (hb : nj w g t L) (h1 : t ≠ 28) (h2 : t ≠ 119) (h3 : t ≠ 9) : nL w' cs m := by
 obtain ⟨vq, va, vu, ve, k1, k2, k3, k4, k5, l⟩ := h;exact ⟨vq, va, vu, ve, k1, k2.oL hg hb h1 h3, k3.oL hg hb h2 h3, k4.oL hg hb h2 h3, k5.oL hg hb h2 h3, l⟩
theorem su {w : World} {g n : Nat} {t : TypeId} {L M : List Value} (h : nj w g t (L ++ M.drop n)) (hM : M.length <= n) : nj w g t L := by
 exact lY
def yc (vn : Value) (d : Dl) : List Value := qY vn d.y ++ [.string (bs d.oct), .int .i64 d.st, .bool d.op]
section
variable {vn : Value} {d : Dl} (h : d.y.sv.ip.length = 16) {post : List Value} {a b c e : Value}
include h
theorem uj : (yc vn d).length = 26 := by simp [yc, qS h]
theorem Qk (i : Nat) (hi : i < 26) : (JB (yc vn d) post a b c e)[i]? = (yc vn d)[i]? := by unfold JB; rw [List.getElem?_append_left (by rw [uj h]; exact hi)]
theorem Ii (k : Nat) (hk : k < 3) : (JB (yc vn d) post a b c e)[23 + k]? = [Value.string (bs d.oct), .int .i64 d.st, .bool d.op][k]? := by
 rw [Qk h _ ak];unfold yc;rw [List.getElem?_append_right (by rw [qS h]; omega), qS h, Nat.add_sub_cancel_left]
theorem VY (i : Nat) (hi : i < 23) : (JB (yc vn d) post a b c e)[i]? = (qY vn d.y)[i]? := by
 rw [Qk h _ ak];unfold yc;rw [List.getElem?_append_left (by rw [qS h]; exact hi)]
theorem Le : (JB (yc vn d) post a b c e)[18]? = some (.int .i64 d.y.port) := by rw [VY h 18 ak]; exact tY h 0
theorem WH : ((JB (yc vn d) post a b c e).drop 0).take 23 = qY vn d.y := by
 rw [List.drop_zero];unfold JB yc;rw [List.append_assoc];exact List.take_left' (qS h)
theorem Ua : ((JB (yc vn d) post a b c e).drop 0).take 18 = d.y.sv.cells := by
 rw [List.drop_zero];unfold JB yc qY;rw [List.append_assoc, List.append_assoc];exact List.take_left' (d.y.sv.nV h)
theorem Fo : (JB (yc vn d) post a b c e).length = 30 + post.length := by simp [JB, uj h]; omega
theorem Lf : (JB (yc vn d) post a b c e).drop 30 = post := by
 unfold JB;rw [show (30 : Nat) = (yc vn d).length + 4 by rw [uj h], List.drop_append];simp
theorem US (sub : List Value) (hs : sub.length = post.length) : (JB (yc vn d) post a b c e).take 30 ++ sub ++ (JB (yc vn d) post a b c e).drop (30 + sub.length) = JB (yc vn d) sub a b c e := by
 rw [List.drop_of_length_le (by rw [Fo h]; omega), List.append_nil];have e1 : (JB (yc vn d) post a b c e).take 30 = yc vn d ++ [a, b, c, e] := by unfold JB;rw [show (30 : Nat) = (yc vn d).length + 4 by rw [uj h], List.take_append];simp;exact List.take_of_length_le ak
 rw [e1];simp [JB]
theorem UT (k : Nat) (hk : k < 3) (x : Value) : (JB (yc vn d) post a b c e).set (23 + k) x = JB (qY vn d.y ++ ([Value.string (bs d.oct), .int .i64 d.st, .bool d.op].set k x)) post a b c e := by
 unfold JB;rw [List.set_append_left _ _ (by rw [uj h]; omega)];unfold yc;rw [List.set_append_right _ _ (by rw [qS h]; omega), qS h, Nat.add_sub_cancel_left]
end
def rn (w : World) (g : Nat) (d : Dl) (p : List UInt8) : Prop := ∃ vn ds, pA w g (yc vn d) ds p /\ d.y.sv.ip.length = 16 /\ y9 w vn d.y.q.name /\ nL w ds d.msg
def rp (w : World) (g : Nat) (d : Dl) : Prop := ∃ p, rn w g d p /\ (d.st = 0 -> p = pB d.heard) /\ d.ok
theorem rn.below {w w' : World} {g : Nat} {d : Dl} {p : List UInt8} (h : rn w g d p) (hb : Below w.heap.size w w') : rn w' g d p := by
 obtain ⟨vn, ds, h1, h2, h3, h4⟩ := h;exact ⟨vn, ds, h1.below hb, h2, h3.stays (nQ.below hb), h4.below hb⟩
theorem rp.below {w w' : World} {g : Nat} {d : Dl} (h : rp w g d) (hb : Below w.heap.size w w') : rp w' g d := by
 obtain ⟨p, h1, h2⟩ := h;exact ⟨p, h1.below hb, h2⟩
theorem rn.open_ {w : World} {g : Nat} {d : Dl} {p : List UInt8} (h : rn w g d p) : ∃ vn ds a b c e, nj w g 152 (JB (yc vn d) ds a b c e) /\ d.y.sv.ip.length = 16 /\ y9 w vn d.y.q.name /\ nL w ds d.msg /\ pA w g (yc vn d) ds p := by
 obtain ⟨vn, ds, h1, h2, h3, h4⟩ := h;have h1' := h1;obtain ⟨last, ts, b0, b1, hpl, hb, _⟩ := h1';exact ⟨vn, ds, _, _, _, _, hb, h2, h3, h4, h1⟩
theorem y9.Bi {w w' : World} {g : Nat} {L : List Value} {v : Value} {n : List (List UInt8)} (h : y9 w v n) (hg : w.grownBy w' (some g)) (hb : nj w g 152 L) : y9 w' v n := h.stays (nQ.oL hg hb aj)
theorem nL.Bi {w w' : World} {g : Nat} {L cs : List Value} {m : oh} (h : nL w cs m) (hg : w.grownBy w' (some g)) (hb : nj w g 152 L) : nL w' cs m := h.u9 hg hb aj aj aj
theorem rn.oL {w : World} {g : Nat} {d : Dl} {p : List UInt8} (h : rn w g d p) : ∃ vn L ds, nj w g 152 L /\ L.length = 44 /\ d.y.sv.ip.length = 16 /\ y9 w vn d.y.q.name /\ (L.drop 0).take 23 = qY vn d.y /\ (L.drop 0).take 18 = d.y.sv.cells /\ L[18]? = some (.int .i64 d.y.port) /\ L[23]? = some (.string (bs d.oct)) /\ L[24]? = some (.int .i64 d.st) /\ L[25]? = some (.bool d.op) /\ (L.drop 30).take 14 = ds /\ nL w ds d.msg /\
  ∀ w' ds' m, w.grownBy w' (some g) -> nj w' g 152 (L.take 30 ++ ds' ++ L.drop (30 + ds'.length)) -> nL w ds' m -> rn w' g { d with msg := m } p := by
 obtain ⟨vn, ds, h1, hip, hN, hM⟩ := h;obtain ⟨last, ts, b0, b1, hpl, hb, hc, r⟩ := h1;have hdl := hM.len;refine ⟨vn, _, ds, hb, by rw [Fo hip, hdl], hip, hN, WH hip, Ua hip, Le hip, Ii hip 0 ak, Ii hip 1 ak, Ii hip 2 ak, ?_, hM, ?_⟩
 ·rw [Lf hip, List.take_of_length_le ak]
 ·intro w' ds' m hg hb' hM';rw [US hip ds' (by rw [hM'.len, hdl])] at hb';exact ⟨vn, ds', ⟨last, ts, b0, b1, uj hip, hb', om.grown hb hg _ _ hc, r⟩, hip, hN.Bi hg hb, hM'.Bi hg hb⟩
theorem rn.set {w : World} {g : Nat} {d d' : Dl} {p : List UInt8} (h : rn w g d p) (k : Nat) (hk : k < 3) (x : Value) (hy : d'.y = d.y) (hm : d'.msg = d.msg) (hx : [Value.string (bs d.oct), .int .i64 d.st, .bool d.op].set k x = [Value.string (bs d'.oct), .int .i64 d'.st, .bool d'.op]) : rn (w.setCell ⟨g, 23 + k, none⟩ x) g d' p := by
 obtain ⟨vn, ds, h1, h2, h3, h4⟩ := h;obtain ⟨last, ts, b0, b1, hpl, hb, hc, r⟩ := h1;have hg : w.grownBy (w.setCell ⟨g, 23 + k, none⟩ x) (some g) := gI;have hb2 := hb.set (23 + k) x;rw [UT h2 k hk x, hx, <- hy] at hb2;refine ⟨vn, ds, ⟨last, ts, b0, b1, uj (by rw [hy]; exact h2), hb2, om.grown hb hg _ _ hc, r⟩, by rw [hy]; exact h2, by rw [hy]; exact h3.Bi hg hb, by rw [hm]; exact h4.Bi hg hb⟩
def Vn (cs : List Value) (o : Ou) : Prop := cs = xu o /\ o.to_.ip.length = 16
theorem Vn.len (cs : List Value) (o : Ou) (h : Vn cs o) : cs.length = 21 := by rw [h.1]; exact wP h.2
def pX (lo : Nat) (w : World) (v : Value) (l : List Ou) : Prop := nZ w lo 97 21 Vn v l
theorem Lh : ∀ {css : List (List Value)} {l : List Ou}, tq Vn css l -> ∀ o ∈ l, o.to_.ip.length = 16
 | [], [], _, o, ho => by cases ho
 | _ :: _, _ :: _, h, o, ho => by
  rcases List.mem_cons.1 ho with rfl | ho
  ·exact h.1.2
  ·exact Lh h.2 o ho
theorem pX.nil (lo : Nat) (w : World) : pX lo w (.slice none 0 0) [] := ⟨[], World.ownsRow_nil _ _ _ _, trivial⟩
theorem pX.below {lo : Nat} {w w' : World} {v : Value} {l : List Ou} (h : pX lo w v l) (hb : Below w.heap.size w w') : pX lo w' v l := nZ.stays h (fun _ x => pC x hb) (fun _ _ x => x)
theorem pX.mono {lo lo' : Nat} {w : World} {v : Value} {l : List Ou} (h : pX lo w v l) (hl : lo' <= lo) : pX lo' w v l := by
 obtain ⟨css, h1, h2⟩ := h;exact ⟨css, ⟨h1.1, h1.2.imp id fun ⟨g, c, cur, hv, hg, r⟩ => ⟨g, c, cur, hv, Nat.le_trans hl hg, r⟩⟩, h2⟩
theorem pX.grown {lo : Nat} {w w' : World} {g : Nat} {v : Value} {l : List Ou} (h : pX lo w v l) (hg : w.grownBy w' (some g)) (hl : g < lo) : pX lo w' v l := by
 obtain ⟨css, h1, h2⟩ := h;refine ⟨css, h1.kept hg (.inr ?_), h2⟩;intro e;have := sf h1 g e;omega
theorem pX.form {lo : Nat} {w : World} {v : Value} {l : List Ou} (h : pX lo w v l) : ∃ A c, v = .slice A l.length c /\ Nk w A l /\ ∀ b, A = some b -> lo <= b.block := by
 obtain ⟨A, c, rfl⟩ := nZ.form h;refine ⟨A, c, rfl, ⟨?_, fun hp => ?_⟩, fun b hb => ?_⟩
 ·obtain ⟨css, _, h2⟩ := h; exact Lh h2
 ·obtain ⟨g, h1, h2, h3⟩ := nZ.at_ Vn.len h hp;refine ⟨g, 0, h1, h2, fun i hi => ?_⟩;obtain ⟨cs, h4, h5, _⟩ := h3 i hi;rw [<- h5]; exact h4
 ·obtain ⟨css, h1, _⟩ := h;exact sf h1 b.block (by rw [hb]; rfl)
def zu (g : Nat) (r : Dl × List Ou) (w : World) (e : Ending) (w' : World) : Prop := ∃ v, e = .returned v /\ pX w.heap.size w' v r.2 /\ rp w' g r.1 /\ w.grownBy w' (some g)
def Ql (m : oh) (w : World) (e : Ending) (w' : World) : Prop := ∃ ds, e = .returned (.agg ds.toArray) /\ nL w' ds m /\ Below w.heap.size w w'
theorem JQ (g : Nat) (d : Dl) (w : World) (h : rp w g d) : Calls prog 17 #[.pointer (some ⟨g, 0, none⟩)] w (rN (.int .i64 d.st) w) := by
 obtain ⟨p, h, _⟩ := h;obtain ⟨vn, ds, a, b, c, e, hb, hip, _⟩ := h.open_;have c24 := hb.nf 24 (Ii hip 1 ak);clear h hb;go_enter func17, ntmps17;go_wp2;exact j8
theorem Qm (g : Nat) (d : Dl) (w : World) (h : rp w g d) : Calls prog 22 #[.pointer (some ⟨g, 0, none⟩)] w (Ql d.msg w) := by
 obtain ⟨p, h, _⟩ := h;obtain ⟨vn, ds, a, b, c, e, hb, hip, _, hM, _⟩ := h.open_;have hl := Fo (vn := vn) (post := ds) (a := a) (b := b) (c := c) (e := e) hip;have hp := Lf (vn := vn) (post := ds) (a := a) (b := b) (c := c) (e := e) hip;generalize JB (yc vn d) ds a b c e = L at *;have hdl := hM.len;have hd1 := Hh hM.one;have C := hb.alloc (.cells nR.toArray 50);have B2 := nj.new w 50 nR;have HB : Below w.heap.size w (w.alloc (.cells nR.toArray 50)) := eC;have hM2 := hM.below HB;have HP : Hid ((L.drop 30).take 14 = ds) := Hh (by rw [hp, List.take_of_length_le ak]);clear h hp hb hM;go_enter func22, ntmps22;go_wp2_with (first
  | (refine nh (.load 50 (.tmp 8)) rfl ?_; go_must (refine ni rfl _ _ rfl g 30 rfl C 14 ak _ underlying50 rfl oy ds HP.out ?_))
  | (refine nh (.store 50 (.tmp 2) (.tmp 9)) rfl (ab rfl w.heap.size 0 ds B2 cH cG hd1.out ?_)))
 intro w8 B8 g8 _;replace B8 : nj w8 w.heap.size 50 ds := su B8 cH;have HB8 := ng HB g8 HB.size (Nat.le_refl _);have hM8 := hM2.u9 g8 B2 aj aj aj;clear g8 HB B2 hM2 C;go_wp2_with fail;refine oP rfl w.heap.size rfl B8 _ underlying50 rfl cG rfl ?_;exact m6
theorem Ij {P : Program} {w : World} {o : Oper} {a : Act} (t : TypeId) (parts : Array (Nat × Operand)) (ho : o.op = .build t parts) (pc : Array (Nat × Value)) (hv : parts.map (fun (i, x) => (i, a.eval x)) = pc) {v : Value} (hr : (Instr.build t pc).run P w = .ok v w) : (execOp a.eval o).run P w = .ok (.value v) w := by
 exact mw
theorem Nm (kind fam zone port : Int) (b0 b1 b2 b3 b4 b5 b6 b7 b8 b9 b10 b11 b12 b13 b14 b15 : UInt8) (data : List UInt8) (W : World) :
  (Instr.build 97 #[(0, .int .i64 kind), (1, .agg (oi.cells ⟨fam, [b0, b1, b2, b3, b4, b5, b6, b7, b8, b9, b10, b11, b12, b13, b14, b15], zone⟩).toArray), (2, .int .i64 port), (3, .string (bs data))]).run prog W = .ok (.agg (xu ⟨kind, ⟨fam, [b0, b1, b2, b3, b4, b5, b6, b7, b8, b9, b10, b11, b12, b13, b14, b15], zone⟩, port, data⟩).toArray) W := by
 kernel_rfl
theorem Li (kind : Int) (to_ : oi) (port : Int) (data : List UInt8) (h : to_.ip.length = 16) (W : World) : (Instr.build 97 #[(0, .int .i64 kind), (1, .agg to_.cells.toArray), (2, .int .i64 port), (3, .string (bs data))]).run prog W = .ok (.agg (xu ⟨kind, to_, port, data⟩).toArray) W := by
 obtain ⟨fam, ip, zone⟩ := to_;have h' : ip.length = 16 := h;clear h;match ip, h' with
 | [b0, b1, b2, b3, b4, b5, b6, b7, b8, b9, b10, b11, b12, b13, b14, b15], _ => exact Nm kind fam zone port b0 b1 b2 b3 b4 b5 b6 b7 b8 b9 b10 b11 b12 b13 b14 b15 data W
def Wn : List Value := xu ⟨0, oi.zero, 0, []⟩
theorem Lm : (prog.info? 97).map (fun i => (i.zero, i.size, i.bytes)) = some (some (.agg Wn.toArray), 21, 64) := by kernel_rfl
theorem Ik (w : World) (cs : List Value) (hl : cs.length = 21) : (Instr.buildSlice 34 1 #[(0, .agg cs.toArray)]).run prog w = .ok (.slice (some ⟨w.heap.size, 0, none⟩) 1 1) (w.alloc (.cells cs.toArray 97)) := by
 obtain ⟨i, hi, hz, hsize, hby⟩ := info_parts Lm;refine run_buildSlice w 34 97 1 _ cs.toArray i _ underlying34 hi hz bD bD ?_;rw [hsize];have := xW 21 ((Array.range (1 * 21)).map ((Value.agg Wn.toArray).cells[· % (Value.agg Wn.toArray).cells.size]!)).toList cs hl ag;exact lR
theorem Eb {w w' : World} {v v' : Value} {o : Oper} {a : Act} (x : Operand) (ho : o.op = .buildSlice 34 1 #[(0, x)]) (hx : a.eval x = v) (hr : (Instr.buildSlice 34 1 #[(0, v)]).run prog w = .ok v' w') : (execOp a.eval o).run prog w = .ok (.value v') w' := by
 exact kD
theorem Il (w : World) (o : Ou) (h : o.to_.ip.length = 16) : pX w.heap.size (w.alloc (.cells (xu o).toArray 97)) (.slice (some ⟨w.heap.size, 0, none⟩) 1 1) [o] := by
 have hl := wP h;refine ⟨[xu o], ⟨by simp [hl], .inr ⟨w.heap.size, 1, (xu o).toArray, rfl, Nat.le_refl _, nj.new w 97 (xu o), Nat.le_refl _, by simp [maxLen], by simp [hl], ?_⟩⟩, ⟨rfl, h⟩, trivial⟩;exact lH
def Qo (o : Ou) (w : World) (e : Ending) (w' : World) : Prop := ∃ v, e = .returned v /\ pX w.heap.size w' v [o] /\ Below w.heap.size w w'
set_option maxHeartbeats 1000000 in
theorem SY (f : FuncId) (hf : f = 76) (g : Nat) (kind : Int) (data : List UInt8) (L : List Value) (to_ : oi) (port : Int) (w : World) (hb : nj w g 152 L) (hl : 23 <= L.length) (hip : to_.ip.length = 16) (ha : (L.drop 0).take 18 = to_.cells) (hp : L[18]? = some (.int .i64 port)) :
  Calls prog f #[.pointer (some ⟨g, 0, none⟩), .int .i64 kind, .string (bs data)] w (Qo ⟨kind, to_, port, data⟩ w) := by
 subst hf;have RB := Hh (fun W => Li kind to_ port data hip W);have HL := wP (o := ⟨kind, to_, port, data⟩) hip;have ON := Hh (fun W => Il W ⟨kind, to_, port, data⟩ hip);have HA := Hh ha;clear hip ha;generalize xu ⟨kind, to_, port, data⟩ = oc at *;generalize to_.cells = tc at *;go_enter func76, ntmps76;go_wp2_with fail;refine wp_region_held_drew (S := fun V => Below w.heap.size w V) (by kernel_rfl) (Below.refl _ _).drew (fun hS => ?_)
 (refine nF 0 (some 7) rfl rfl (by kernel_rfl) (by kernel_rfl) (by kernel_rfl) (fun _ _ _ h => h) (by kernel_rfl) (fun W hW => rfl) hS ?_; simp only [Act.put, nB, nC, nD])
 (refine nF 1 (some 8) rfl rfl (by kernel_rfl) (by kernel_rfl) (by kernel_rfl) (fun _ _ _ h => h) (by kernel_rfl) (fun W hW => rfl) hS ?_; simp only [Act.put, nB, nC, nD])
 refine nF 2 (some 9) (v := .pointer (some ⟨g, 0, none⟩)) rfl rfl (by kernel_rfl) (by kernel_rfl) (by kernel_rfl) (fun _ _ _ h => h) (by kernel_rfl) (fun W hW => by kernel_rfl) hS ?_;simp only [Act.put, nB, nC, nD];refine nF 3 (some 10) (v := .pointer (some ⟨g, 0, none⟩)) rfl rfl (by kernel_rfl) (by kernel_rfl) (by kernel_rfl) (fun _ _ _ h => h) (by kernel_rfl) (fun W hW => rfl) hS ?_;simp only [Act.put, nB, nC, nD];refine nF 4 (some 11) (v := .pointer (some ⟨g, 0, none⟩)) rfl rfl (by kernel_rfl) (by kernel_rfl) (by kernel_rfl) (fun _ _ _ h => h) (by kernel_rfl) (fun W hW => rfl) hS ?_;simp only [Act.put, nB, nC, nD];refine qf 5 (some 12) 24 (.tmp 11) ⟨g, 0, none⟩ rfl rfl rfl rfl (by kernel_rfl) (by kernel_rfl) (by kernel_rfl) (fun _ _ _ h => h) (by kernel_rfl) (fun V hV => (hb.below hV hb.lt).pF 24 0 18 ak _ underlying24 rfl yb _ HA.out) hS ?_;simp only [Act.put, nB, nC, nD]
 (refine nF 6 (some 13) rfl rfl (by kernel_rfl) (by kernel_rfl) (by kernel_rfl) (fun _ _ _ h => h) (by kernel_rfl) (fun W hW => rfl) hS ?_; simp only [Act.put, nB, nC, nD])
 refine nF 7 (some 14) (v := .pointer (some ⟨g, 0, none⟩)) rfl rfl (by kernel_rfl) (by kernel_rfl) (by kernel_rfl) (fun _ _ _ h => h) (by kernel_rfl) (fun W hW => by kernel_rfl) hS ?_;simp only [Act.put, nB, nC, nD];refine nF 8 (some 15) (v := .pointer (some ⟨g, 0, none⟩)) rfl rfl (by kernel_rfl) (by kernel_rfl) (by kernel_rfl) (fun _ _ _ h => h) (by kernel_rfl) (fun W hW => rfl) hS ?_;simp only [Act.put, nB, nC, nD];refine nF 9 (some 16) (v := .pointer (some ⟨g, 18, none⟩)) rfl rfl (by kernel_rfl) (by kernel_rfl) (by kernel_rfl) (fun _ _ _ h => h) (by kernel_rfl) (fun W hW => rfl) hS ?_;simp only [Act.put, nB, nC, nD];refine qf 10 (some 17) 3 (.tmp 16) ⟨g, 18, none⟩ rfl rfl rfl rfl (by kernel_rfl) (by kernel_rfl) (by kernel_rfl) (fun _ _ _ h => h) (by kernel_rfl) (fun V hV => nN underlying3 rfl ((hb.below hV hb.lt).nf 18 hp)) hS ?_;simp only [Act.put, nB, nC, nD]
 (refine nF 11 (some 18) rfl rfl (by kernel_rfl) (by kernel_rfl) (by kernel_rfl) (fun _ _ _ h => h) (by kernel_rfl) (fun W hW => rfl) hS ?_; simp only [Act.put, nB, nC, nD])
 refine nF 12 (some 19) (v := .agg oc.toArray) rfl rfl (by kernel_rfl) (by kernel_rfl) (by kernel_rfl) (fun _ _ _ h => h) (by kernel_rfl) (fun W hW => Ij 97 _ rfl #[(0, .int .i64 kind), (1, .agg tc.toArray), (2, .int .i64 port), (3, .string (bs data))] (by kernel_rfl) (RB.out W)) hS ?_;simp only [Act.put, nB, nC, nD];refine nJ 13 (by kernel_rfl) ?_;refine oe 13 (some 20) rfl rfl (by kernel_rfl) (Eb (.tmp 19) rfl rfl (Ik _ oc HL)) ?_;have OO := ON.out w.drew;have hS2 : Below w.heap.size w (w.drew.alloc (.cells oc.toArray 97)) := hS.alloc hS.size _;refine ⟨hS2, ?_⟩;clear hS;have hS := hS2;clear hS2;simp only [Act.put, nB, nC, nD]
 (refine nF 14 (some 6) rfl rfl (by kernel_rfl) (by kernel_rfl) (by kernel_rfl) (fun _ _ _ h => h) (by kernel_rfl) (fun W hW => rfl) hS ?_; simp only [Act.put, nB, nC, nD])
 refine wpAnyH_done (by kernel_rfl) ?_ _;go_wp2_with fail;go_ret;exact ⟨_, rfl, OO, hS⟩
theorem rn.out {w : World} {g : Nat} {d : Dl} {p : List UInt8} (h : rn w g d p) (kind : Int) (data : List UInt8) :
  Calls prog 76 #[.pointer (some ⟨g, 0, none⟩), .int .i64 kind, .string (bs data)] w (Qo ⟨kind, d.y.sv, d.y.port, data⟩ w) := by
 obtain ⟨vn, ds, a, b, c, e, hb, hip, _, hM, _⟩ := h.open_;exact SY _ rfl g kind data _ d.y.sv d.y.port w hb (by rw [Fo hip]; omega) hip (Ua hip) (Le hip)
theorem Qp (g : Nat) (d : Dl) (w : World) (h : rp w g d) : Calls prog 28 #[.pointer (some ⟨g, 0, none⟩)] w (zu g (qI d) w) := by
 have h' := h;obtain ⟨p, hJ, hp, hok⟩ := h;obtain ⟨vn, ds, a, b, c, e, hb, hip, _⟩ := hJ.open_;have c24 := hb.nf 24 (Ii hip 1 ak);have f24 := hb.frozen 24;have hgl := hb.lt;by_cases hs : d.st = 0
 case neg =>
  have e1 : qI d = (d, []) := by unfold qI; rw [if_pos hs]
  rw [e1];have hs' : (d.st != 0) = true := iB;have H := Hh h';clear h' hJ hp hok hb hip hs e1;generalize d.st = st at *;go_enter func28, ntmps28;go_wp2_with fail;go_ret;exact ⟨_, rfl, pX.nil _ _, H.out, World.grownBy.refl _ _⟩
 have e1 : qI d = ({ d with st := 2 }, [⟨4, d.y.sv, d.y.port, []⟩]) := by unfold qI; rw [if_neg (by rw [hs]; decide)]
 rw [e1];have J2 : rn (w.setCell ⟨g, 24, none⟩ (.int .i64 2)) g { d with st := 2 } p := hJ.set 1 ak (.int .i64 2) rfl rfl rfl;have G2 : w.grownBy (w.setCell ⟨g, 24, none⟩ (.int .i64 2)) (some g) := gI;have OC := Hh (J2.out 4 []);have HJ := Hh J2;rw [hs] at c24;clear h' hJ hp hok hb hip hs e1 J2;go_enter func28, ntmps28;go_wp2_with fail;refine OC.out.mono ?_;rintro _ w2 ⟨v, rfl, hO, b2⟩;go_wp2_with fail;go_ret;exact ⟨_, rfl, hO.mono ay, ⟨p, HJ.out.below b2, fun h => cK, fun h => cK⟩, pj G2 b2⟩
theorem JT : ∀ (n : Nat) (s : List UInt8), s.length <= n -> ∀ t ∈ n9 s, t.length <= s.length := by
 intro n;induction n with
 | zero => intro s hs t ht;have : s = [] := ff;subst this;rw [(oZ [] cJ).1] at ht;cases ht
 | succ n ih =>
  intro s hs t ht;cases hw : oO s with
  | false => rw [(oZ s hw).1] at ht; cases ht
  | true =>
   have hr := s8 s hw;rw [(qw s hw).1] at ht;rcases List.mem_cons.1 ht with rfl | ht
   ·unfold y8; simp; omega
   ·have := ih (sE s) ak t ht;omega
def yJ (d : Dl) (s : List UInt8) : Dl × List Ou := match oU d.y (n9 (d.heard ++ s)) with
 | some m => ({ d with heard := d.heard ++ s, msg := m, st := 1 }, [⟨4, d.y.sv, d.y.port, []⟩])
 | none => ({ d with heard := d.heard ++ s }, [])
theorem Bj : (prog.info? 37).map (·.size) = some 23 := by kernel_rfl
set_option maxHeartbeats 2000000 in
theorem Nn (g : Nat) (d : Dl) (s : List UInt8) (w : World) (h : rp w g d) (hst : d.st = 0) (hb : d.heard.length + s.length <= 8796093022208) :
  Calls prog 77 #[.pointer (some ⟨g, 0, none⟩), .string (bs s)] w (zu g (yJ d s) w) := by
 obtain ⟨p, hJ, hp, hok⟩ := h;have hp := hp hst;have hpl : p.length <= d.heard.length := by rw [hp]; exact Ia d.heard.length d.heard (Nat.le_refl _)
 obtain ⟨HF, HR⟩ := yX d hok hst s;rw [<- hp] at HF HR;obtain ⟨R, hR⟩ : ∃ R, Hid (yJ d s = R) := eD;rw [hR.out];have FD : Hid (Calls prog 118 #[.pointer (some ⟨g, 26, none⟩), .string (bs s)] w (fun e w' => ∃ v, e = .returned v /\ pL w' v (n9 (p ++ s)) /\ rn w' g d (pB (p ++ s)) /\ w.grownBy w' (some g))) := Hh (by
  obtain ⟨vn, ds, hJA, hip, hN, hM⟩ := hJ;refine (P9 g _ ds p s w hJA ak).mono ?_;rintro e w' ⟨v, he, hT, hJ1, g1⟩;obtain ⟨_, _, _, _, _, hbk, _⟩ := hJA;exact ⟨v, he, hT, ⟨vn, ds, hJ1, hip, hN.Bi g1 hbk, hM.Bi g1 hbk⟩, g1⟩)
 have HLm : Hid (∀ t ∈ n9 (p ++ s), t.length <= maxLen) := fX;have hnl : (n9 (p ++ s)).length <= 8796093022208 := by have := DZ (p ++ s).length (p ++ s) (Nat.le_refl _);simp at this; omega
 have HB : Hid (yJ d s = match oU d.y (n9 (p ++ s)) with
  | some m => ({ d with heard := d.heard ++ s, msg := m, st := 1 }, [⟨4, d.y.sv, d.y.port, []⟩])
  | none => ({ d with heard := d.heard ++ s }, [])) := Hh (by unfold yJ; rw [HF])
 have HF' := Hh HF;have HR' := Hh HR;have HST := Hh hst;clear hJ hp hok hpl HF HR hb hst;generalize n9 (p ++ s) = l at *;generalize pB (p ++ s) = q at *;go_enter func77, ntmps77;go_wp2_with fail;refine FD.out.mono ?_;rintro _ w1 ⟨v, rfl, hT, hJ1, g1⟩;obtain ⟨A, c, hv, -, -⟩ := hT.form;subst hv;clear FD;go_wp2_with fail;go_loopw [15] (fun iv wr => ∃ k : Nat, k <= l.length /\ iv = .int .i64 k /\ oU d.y (l.take k) = none /\ rn wr g d q /\ pL wr (.slice A l.length c) l /\ w.grownBy wr (some g)) (fun iv _ => l.length - (intOf iv).toNat)
 case atStart => exact ⟨0, Nat.zero_le _, rfl, rfl, hJ1, hT, g1⟩
 clear hJ1 hT g1;obtain ⟨k, hk, rfl, hno, hJ, hT, hg⟩ := hrel;have HN := Hh hno;clear hno;by_cases hlt : k < l.length
 case pos =>
  have hlt' : (k : Int) < l.length := ak;obtain ⟨A', c', hA, hTx, hc⟩ := hT.form;injection hA with hA1 hA2 hA3;subst hA1 hA3;obtain ⟨ba, oa, hA, la, xa⟩ := hTx ak;subst hA;have cs1 := xa k hlt;obtain ⟨vn, L, ds, hbk, hL, hip, hNm, hq, ha, c18, c23, c24, c25, hpo, hM, hput⟩ := hJ.oL;obtain ⟨An, cn, hvn, hNR⟩ := hNm.form;subst hvn;have FR := Hh (yI (qY (.slice An d.y.q.name.length cn) d.y) d.y An cn l[k] wr ⟨rfl, hip, hNR⟩ (HLm.out _ (List.getElem_mem hlt)));have HQ := Hh hq;have HJ := Hh hJ;have HT := Hh hT;have HY : Hid ((pZ d.y (qR l[k])).2 = true -> oU d.y l = some (pZ d.y (qR l[k])).1) := Hh (fun hf => vw hlt HN.out hf);have HNO : Hid ((pZ d.y (qR l[k])).2 = false -> oU d.y (l.take (k + 1)) = none) := Hh (fun hf => vW hlt HN.out hf);clear hJ hT hNm hNR hq ha c18 c23 c24 c25 hpo hM hput xa hTx hip hc HN;generalize pZ d.y (qR l[k]) = F at *;generalize l[k] = t at *;generalize qY (.slice An d.y.q.name.length cn) d.y = qs at *;go_wp2_with (refine nh (.load 37 (.tmp 22)) rfl ?_; go_must (refine ni rfl _ _ rfl g 0 rfl hbk 23 ak _ underlying37 rfl Bj qs HQ.out ?_));refine FR.out.mono ?_;rintro _ w2 ⟨ds2, rfl, hM2, b2⟩;have hdl := hM2.len;have hd1 := Hh hM2.one;have J2 := HJ.out.below b2;have T2 := HT.out.below b2;have g2 := pj hg b2;clear FR hbk HJ HT hg b2 cs1 HQ;go_wp2_with (refine nh (.store 50 (.tmp 7) (.tmp 26)) rfl (ab rfl w2.heap.size 0 ds2 (nj.ph _ _ nR _ rfl) cF cG hd1.out ?_));intro w3 B3 g3 _;replace B3 : nj w3 w2.heap.size 50 ds2 := su B3 cH;have k3 : Below w2.heap.size w2 w3 := fB;have J3 := J2.below k3;have T3 := T2.below k3;have G3 := pj g2 k3;have M3 := hM2.below k3;clear g3 k3 J2 T2 g2 hM2;cases hf : F.2 with
  | false =>
   have hn := HNO.out hf;have HN := Hh hn;clear hn HNO HY hf M3 B3;go_wp2_with fail;go_roundw
   case rel => exact ⟨k + 1, ak, eh, HN.out, J3, T3, G3⟩
   case measure => simp [intOf]; omega
  | true =>
   have hy := HY.out hf;have hR2 : R = ({ d with heard := d.heard ++ s, msg := F.1, st := 1 }, [⟨4, d.y.sv, d.y.port, []⟩]) := by rw [<- hR.out, HB.out, hy]
   have HR2 := Hh hR2;clear hy hR2 HNO HY hf T3 HB hR;obtain ⟨vn, L3, ds3, hb3, hL3, hip, hNm, hq, ha, c18, c23, c24, c25, hpo, hM, hput⟩ := J3.oL;have HP := Hh hput;clear hput hNm hq ha c18 c23 c24 c25 hpo hM;go_wp2_with (first
    | (refine nh (.load 50 (.tmp 7)) rfl ?_; go_must (refine ni rfl _ _ rfl w2.heap.size 0 rfl B3 14 ak _ underlying50 rfl oy ds2 (qj ak) ?_))
    | (refine nh (.store 50 (.tmp 32) (.tmp 30)) rfl (ab rfl g 30 ds2 hb3 (by rw [hdl, hL3]; omega) cG hd1.out ?_)))
   intro w4 B4 g4 _;have J4 := HP.out w4 ds2 F.1 g4 (by rw [hdl, List.append_assoc]; exact B4) M3;have G4 := ns G3 g4 (.inl rfl);obtain ⟨vn4, L4, _, hb4, hL4, _, _, _, _, _, _, c24, _⟩ := J4.oL;have d24 := hb4.nf 24 c24;have f24 := hb4.frozen 24;have hgl := hb4.lt;have J5 : rn (w4.setCell ⟨g, 24, none⟩ (.int .i64 1)) g { d with msg := F.1, st := 1 } q := J4.set 1 ak (.int .i64 1) rfl rfl rfl;have G5 : w.grownBy (w4.setCell ⟨g, 24, none⟩ (.int .i64 1)) (some g) := ns G4 (nT (World.grownBy.refl _ _) _ _) (.inl rfl);have OC := Hh (J5.out 4 []);have HJ5 := Hh J5;clear HP B4 g4 M3 B3 hb3 G3 J3 hb4 J4 G4 c24 J5;go_wp2_with fail;refine OC.out.mono ?_;rintro _ w5 ⟨v, rfl, hO, b5⟩;go_wp2_with fail;go_ret;rw [HR2.out];obtain ⟨vn6, ds6, k1, k2, k3, k4⟩ := HJ5.out.below b5;exact ⟨_, rfl, hO.mono G5.size, ⟨q, ⟨vn6, ds6, k1, k2, k3, k4⟩, fun h => cK, fun h => cK⟩, pj G5 b5⟩
 obtain rfl : k = l.length := ak;have hlt' : ¬ (l.length : Int) < l.length := ak;have hn := HN.out;rw [List.take_of_length_le (Nat.le_refl _)] at hn;have hR2 : R = ({ d with heard := d.heard ++ s }, []) := by rw [<- hR.out, HB.out, hn]
 have HR2 := Hh hR2;have HOK := Hh hn;clear hR2 hn hT;go_wp2_with fail;go_ret;rw [HR2.out];obtain ⟨vn6, ds6, k1, k2, k3, k4⟩ := hJ;exact ⟨_, rfl, pX.nil _ _, ⟨q, ⟨vn6, ds6, k1, k2, k3, k4⟩, fun _ => HR'.out.symm, fun _ => by rw [show oU d.y (n9 (d.heard ++ s)) = oU d.y l from HF'.out]; exact HOK.out⟩, hg⟩
set_option maxHeartbeats 2000000 in
theorem Qq (g : Nat) (d : Dl) (e : Ev) (w : World) (h : rp w g d) (hip : e.fr.ip.length = 16) (hb : d.heard.length + e.data.length <= 8796093022208) :
  Calls prog 18 #[.pointer (some ⟨g, 0, none⟩), .agg (qm e).toArray] w (zu g (n6 d e) w) := by
 have hel := sR hip;have E0 : (qm e)[0]? = some (.int .i64 e.kind) := rfl;have E20 : (qm e)[20]? = some (.int .i64 e.port) := vV hip 1;have E21 : (qm e)[21]? = some (.string (bs e.data)) := vV hip 2;have HX : Below w.heap.size w (w.alloc (.cells (qm e).toArray 42)) := eC;have E := nj.new w 42 (qm e);obtain ⟨p, hJ, hp, hok⟩ := h;have HK := Hh (And.intro hp hok);obtain ⟨vn, L, ds, hbk, hL, _, _, _, _, c18, _, c24, _⟩ := (hJ.below HX).oL;replace c18 := hbk.nf 18 c18;replace c24 := hbk.nf 24 c24;have d20 := E.nf 20 E20;obtain ⟨R, hR⟩ : ∃ R, Hid (n6 d e = R) := eD;rw [hR.out];have BY := Hh (fun W (hD : rp W g d) hs => Nn g d e.data W hD hs hb);clear hp hok hbk hL hip hb E20;generalize hes : qm e = es at *;clear hes;by_cases hs : d.st = 0
 case neg => have HR2 : Hid (R = (d, [])) := Hh (by rw [<- hR.out]; unfold n6; rw [if_pos (.inl hs)]);have hs' : (d.st != 0) = true := iB;clear hs BY hR;exact kQ
 rw [hs] at c24;by_cases hpo : e.port = d.y.port
 case neg =>
  have HR2 : Hid (R = (d, [])) := Hh (by rw [<- hR.out]; unfold n6; rw [if_pos (.inr hpo)]);have hpo' : (e.port != d.y.port) = true := by simpa using hpo
  clear hpo BY hR;exact kQ
 have H0 : Hid (¬ (d.st ≠ 0 \/ e.port ≠ d.y.port)) := Hh (by rw [hs, hpo]; simp);have HS := Hh hs;rw [hpo] at d20;clear hs hpo;by_cases hk3 : e.kind = 3
 case pos =>
  rw [hk3] at E0;cases hop : d.op with
  | true => have HR2 : Hid (R = (d, [])) := Hh (by rw [<- hR.out]; unfold n6; rw [if_neg H0.out, if_pos hk3, if_pos hop]);clear hk3 BY hR;exact jR
  | false => have HR2 : Hid (R = ({ d with op := true }, [⟨3, d.y.sv, d.y.port, d.oct⟩])) := Hh (by rw [<- hR.out]; unfold n6; rw [if_neg H0.out, if_pos hk3, if_neg cL]);clear hk3 BY hR;go_enter func18, ntmps18;go_wp2_with fail;go_quiet (fail);obtain ⟨W, hW⟩ : ∃ W, W = (w.alloc (.cells es.toArray 42)).drewN nq := eE;rw [<- hW];have HW : Below w.heap.size w W := fQ;have EW : nj W w.heap.size 42 es := gL;have JW := hJ.below HW;clear hW c18 c24 d20 E hJ HX;obtain ⟨vn, L, ds, hbk, hL, _, _, _, _, _, c23, c24, c25, _⟩ := JW.oL;have a23 := hbk.nf 23 c23;have a24 := hbk.nf 24 c24;have a25 := hbk.nf 25 c25;have f24 := hbk.frozen 24;have f25 := hbk.frozen 25;have hgl := hbk.lt;have d0 := EW.nf 0 E0;have d21 := EW.nf 21 E21;clear c23 c24 c25 EW hbk hL;rw [hop] at a25;have J6 : rn (W.setCell ⟨g, 25, none⟩ (.bool true)) g { d with op := true } p := JW.set 2 ak (.bool true) rfl rfl rfl;have G6 : w.grownBy (W.setCell ⟨g, 25, none⟩ (.bool true)) (some g) := gh;have OC := Hh (J6.out 3 d.oct);have HJ := Hh J6;clear hop J6 JW;go_wp2_with fail;refine OC.out.mono ?_;rintro _ w5 ⟨v, rfl, hO, b5⟩;go_wp2_with fail;go_ret;rw [HR2.out];exact ⟨_, rfl, hO.mono G6.size, ⟨p, HJ.out.below b5, HK.out⟩, pj G6 b5⟩
 have hk3' : (e.kind == 3) = false := by simpa using hk3
 by_cases hk4 : e.kind = 4
 case pos =>
  rw [hk4] at E0;cases hop : d.op with
  | true => have HR2 : Hid (R = yJ d e.data) := Hh (by rw [<- hR.out]; unfold n6 yJ; rw [if_neg H0.out, if_neg hk3, if_pos hk4, if_pos hop]; rfl);clear hk3 hk4 hk3' hR;go_enter func18, ntmps18;go_wp2_with fail;go_quiet (fail);obtain ⟨W, hW⟩ : ∃ W, W = (w.alloc (.cells es.toArray 42)).drewN nq := eE;rw [<- hW];have HW : Below w.heap.size w W := fQ;have EW : nj W w.heap.size 42 es := gL;have JW := hJ.below HW;clear hW c18 c24 d20 E hJ HX;obtain ⟨vn, L, ds, hbk, hL, _, _, _, _, _, c23, c24, c25, _⟩ := JW.oL;have a23 := hbk.nf 23 c23;have a24 := hbk.nf 24 c24;have a25 := hbk.nf 25 c25;have f24 := hbk.frozen 24;have f25 := hbk.frozen 25;have hgl := hbk.lt;have d0 := EW.nf 0 E0;have d21 := EW.nf 21 E21;clear c23 c24 c25 EW hbk hL;rw [hop] at a25;have BC := Hh (BY.out W ⟨p, JW, HK.out⟩ HS.out);clear hop BY JW;generalize e.data = dt at *;go_wp2_with fail;refine BC.out.mono ?_;rintro _ w5 ⟨v, rfl, hO, hD, g5⟩;go_wp2_with fail;go_ret;rw [HR2.out];exact ⟨_, rfl, hO.mono HW.size, hD, ns (nG HW _) g5 (.inl rfl)⟩
  | false => have HR2 : Hid (R = (d, [])) := Hh (by rw [<- hR.out]; unfold n6; rw [if_neg H0.out, if_neg hk3, if_pos hk4, if_neg cL]);clear hk3 hk4 hk3' BY hR;exact jR
 have hk4' : (e.kind == 4) = false := by simpa using hk4
 by_cases hk5 : e.kind = 5
 case pos => have HR2 : Hid (R = ({ d with st := 2 }, [])) := Hh (by rw [<- hR.out]; unfold n6; rw [if_neg H0.out, if_neg hk3, if_neg hk4, if_pos hk5]);rw [hk5] at E0;clear hk3 hk4 hk5 hk3' hk4' BY hR;go_enter func18, ntmps18;go_wp2_with fail;go_quiet (fail);obtain ⟨W, hW⟩ : ∃ W, W = (w.alloc (.cells es.toArray 42)).drewN nq := eE;rw [<- hW];have HW : Below w.heap.size w W := fQ;have EW : nj W w.heap.size 42 es := gL;have JW := hJ.below HW;clear hW c18 c24 d20 E hJ HX;obtain ⟨vn, L, ds, hbk, hL, _, _, _, _, _, c23, c24, c25, _⟩ := JW.oL;have a23 := hbk.nf 23 c23;have a24 := hbk.nf 24 c24;have a25 := hbk.nf 25 c25;have f24 := hbk.frozen 24;have f25 := hbk.frozen 25;have hgl := hbk.lt;have d0 := EW.nf 0 E0;have d21 := EW.nf 21 E21;clear c23 c24 c25 EW hbk hL;have J6 : rn (W.setCell ⟨g, 24, none⟩ (.int .i64 2)) g { d with st := 2 } p := JW.set 1 ak (.int .i64 2) rfl rfl rfl;have G6 : w.grownBy (W.setCell ⟨g, 24, none⟩ (.int .i64 2)) (some g) := gh;have HJ := Hh J6;clear J6 JW;go_wp2_with fail;go_ret;rw [HR2.out];exact ⟨_, rfl, pX.nil _ _, ⟨p, HJ.out, fun h => cK, fun h => cK⟩, G6⟩
 have HR2 : Hid (R = (d, [])) := Hh (by rw [<- hR.out]; unfold n6; rw [if_neg H0.out, if_neg hk3, if_neg hk4, if_neg hk5]);have hk5' : (e.kind == 5) = false := by simpa using hk5
 clear hk3 hk4 hk5 BY hR;generalize e.kind = kd at *;go_enter func18, ntmps18;go_wp2_with fail;go_quiet (fail);obtain ⟨W, hW⟩ : ∃ W, W = (w.alloc (.cells es.toArray 42)).drewN nq := eE;rw [<- hW];have HW : Below w.heap.size w W := fQ;have EW : nj W w.heap.size 42 es := gL;have JW := hJ.below HW;clear hW c18 c24 d20 E hJ HX;obtain ⟨vn, L, ds, hbk, hL, _, _, _, _, _, c23, c24, c25, _⟩ := JW.oL;have a23 := hbk.nf 23 c23;have a24 := hbk.nf 24 c24;have a25 := hbk.nf 25 c25;have f24 := hbk.frozen 24;have f25 := hbk.frozen 25;have hgl := hbk.lt;have d0 := EW.nf 0 E0;have d21 := EW.nf 21 E21;clear c23 c24 c25 EW hbk hL;go_wp2_with fail;go_ret;rw [HR2.out];exact ⟨_, rfl, pX.nil _ _, ⟨p, JW, HK.out⟩, nG HW _⟩
end Go.Proofs.YthnbcmlnpdabhaaGreat

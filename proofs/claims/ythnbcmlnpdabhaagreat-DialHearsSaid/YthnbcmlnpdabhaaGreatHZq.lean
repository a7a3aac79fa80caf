/-
  Layer 28 (dial): what an event leaves; what stays of one dial when the other is called.
-/
import Derived.Test.YthnbcmlnpdabhaaGreatDr3q
import Derived.Test.YthnbcmlnpdabhaaGreatEvsq
namespace Go.Proofs.YthnbcmlnpdabhaaGreat
open _root_.Go.Proofs.Tryz
open Go.RowKit
set_option maxRecDepth 100000
set_option linter.unusedVariables false
set_option linter.unusedSimpArgs false
theorem newD_len (y : Qy) : (newD y).2.length ≤ 1 := by unfold newD; split <;> simp
theorem hearD_len (d : Dl) (e : Ev) : (hearD d e).2.length ≤ 1 := by unfold hearD; (repeat' split) <;> simp
theorem hangD_len (d : Dl) : (hangD d).2.length ≤ 1 := by unfold hangD; split <;> simp
theorem newD_oc (y : Qy) : (newD y).1.oc := by
 unfold newD
 split
 ·
  rename_i h; intro _; exact ⟨h, rfl⟩
 ·
  intro h; cases h
theorem newD_y (y : Qy) : (newD y).1.y = y := by unfold newD; split <;> rfl
theorem newD_heard (y : Qy) : (newD y).1.heard = [] := by unfold newD; split <;> rfl
theorem hearD_oc (d : Dl) (e : Ev) (h : d.oc) : (hearD d e).1.oc := by
 unfold hearD
 split
 ·
  exact h
 ·
  split
  ·
   split <;> exact h
  ·
   split
   ·
    split
    ·
     split
     ·
      intro h; cases h
     ·
      exact h
    ·
     exact h
   ·
    split
    ·
     intro h; cases h
    ·
     exact h
theorem hearD_heard (d : Dl) (e : Ev) : (hearD d e).1.heard.length ≤ d.heard.length + e.data.length := by
 unfold hearD
 (repeat' split) <;> simp
theorem RDialAt.far {w w' : World} {g gr : Nat} {d : Dl} {A : Option Addr} {c : Nat} {L : List Value} (h : RDialAt w gr d A c) (hg : w.grownBy w' (some g)) (hb : Blk w g 152 L) : RDialAt w' gr d A c := by
 obtain ⟨ds, h1, h2, h3⟩ := h
 exact ⟨ds, h1.grown hg (by intro e; injection e with e; exact h1.ne_of hb (by decide) e), h2, h3.dial hg hb⟩
theorem DialAt.far {w w' : World} {g gr : Nat} {d : Dl} {L : List Value} (h : DialAt w g d) (hg : w.grownBy w' (some gr)) (hb : Blk w gr 163 L) : DialAt w' g d := by
 obtain ⟨p, ⟨vn, ds, h1, h2, h3, h4⟩, h5⟩ := h
 exact ⟨p, ⟨vn, ds, h1.grown hg hb (by decide) (by decide), h2, h3.stays (Stays.blk hg hb (by decide)), h4.rdial hg hb⟩, h5⟩
theorem DialAt.blk {w : World} {g : Nat} {d : Dl} (h : DialAt w g d) : ∃ L, Blk w g 152 L := by
 obtain ⟨p, hJ, _⟩ := h
 obtain ⟨vn, L, ds, hb, _⟩ := hJ.blk
 exact ⟨L, hb⟩
theorem NmR.off {w : World} {A : Option Addr} {c g : Nat} {n : List (List UInt8)} (h : NmR w A c n) (hg : w.heap.size ≤ g) : 0 < n.length → ∀ a, A = some a → a.block ≠ g := by
 intro hp a ha
 obtain ⟨b, off, h1, h2, _⟩ := h.1 hp
 rw [h1] at ha
 injection ha with ha
 subst ha
 show b ≠ g
 omega
theorem ouInfo1 : (prog.info? 97).map (·.size) = some 21 := by kernel_rfl
theorem evInfo1 : (prog.info? 42).map (·.size) = some 22 := by kernel_rfl
theorem run_ixK {t e : TypeId} {sz ba oa k n c : Nat} (ht : prog.underlying t = some (.slice e)) (hs : (prog.info? e).map (·.size) = some sz) (hz : 0 < sz) (hk : k < n) (w : World) : (Instr.indexAt t (.slice (some ⟨ba, oa, none⟩) n c) (.int .i64 k)).run prog w = .ok (.pointer (some ⟨ba, oa + k * sz, none⟩)) w := by
 have h1 : (k : Int) < n := by omega
 obtain ⟨i, hi, hsize⟩ := Option.map_eq_some_iff.1 hs
 simp [Instr.indexAt, run_underlying ht, asIntOf, sizeOf, typeInfo, hi, hsize, h1, Addr.add]
 rw [if_pos hk]
 by_cases h0 : k * sz = 0
 ·
  rw [if_pos h0, h0]; rfl
 ·
  rw [if_neg h0]
theorem exec_ixK {t e : TypeId} {sz ba oa k n c : Nat} {o : Oper} {a : Act} (ht : prog.underlying t = some (.slice e)) (hs : (prog.info? e).map (·.size) = some sz) (hz : 0 < sz) (x y : Operand) (ho : o.op = .indexAddr t x y) (hx : a.eval x = .slice (some ⟨ba, oa, none⟩) n c) (hy : a.eval y = .int .i64 k) (hk : k < n) (w : World) : (execOp a.eval o).run prog w = .ok (.value (.pointer (some ⟨ba, oa + k * sz, none⟩))) w := by
 have hr := run_ixK (ba := ba) (oa := oa) (c := c) ht hs hz hk w
 unfold execOp
 simp only [ho, hx, hy, Sem.run_bind, hr, Result.andThen_ok, Sem.run_pure]
theorem exec_neqOu {x y : Ou} {o : Oper} {a : Act} (p q : Operand) (ho : o.op = .binOp .neq 97 p q 97) (hx : a.eval p = .agg (ouC x).toArray) (hy : a.eval q = .agg (ouC y).toArray) (h1 : x.to_.ip.length = 16) (h2 : y.to_.ip.length = 16) (w : World) : (execOp a.eval o).run prog w = .ok (.value (.bool (!decide (x = y)))) w := by
 have hr := run_eqOu x y h1 h2 w
 have hg : (eqGuard .neq 97 p q (.agg (ouC x).toArray) (.agg (ouC y).toArray)).run prog w = .ok () w := run_eqGuard_agg w _ _ _ _ _ _ Tryz.eqGuardType97
 unfold execOp
 simp only [ho, hx, hy, Sem.run_bind, hg, run_neq_struct, hr, Result.andThen_ok, Sem.run_pure]
theorem rangeK_loads {w : World} {b o : Nat} {sub : List Value} {ty : TypeId} {d : TypeDesc} (h : w.rangeAt b o sub) (hu : prog.underlying ty = some d) (hd : d.isRow = true) (hi : (prog.info? ty).map (·.size) = some sub.length) : (Instr.loadAt ty (.pointer (some ⟨b, o, none⟩))).run prog w = .ok (.agg sub.toArray) w := run_loadAt_mid w b o ty sub d h hu hd hi
set_option maxHeartbeats 1000000 in
theorem sameouts_any (A B : Option Addr) (ca cb : Nat) (la lb : List Ou) (w : World) (hA : OusR w A la) (hB : OusR w B lb) (hl : la.length ≤ 100000000) (hl2 : lb.length ≤ 100000000) :
  Calls prog 25 #[.slice A la.length ca, .slice B lb.length cb] w (RetB (.bool (decide (la = lb))) w) := by
 obtain ⟨R, hR⟩ : ∃ R, Hid (decide (la = lb) = R) := ⟨_, Hh rfl⟩
 rw [hR.out]
 by_cases hll : la.length = lb.length
 case neg =>
  have hR2 : Hid (R = false) := Hh (by rw [← hR.out]; exact decide_eq_false (fun h => hll (by rw [h])))
  have hll' : ((la.length : Int) != lb.length) = true := by simp; omega
  clear hll hR
  go_enter func25, ntmps25
  go_wp2_with fail
  go_ret
  rw [hR2.out]
  exact RetB.mk rfl (Below.refl _ _)
 have hll' : ((la.length : Int) != lb.length) = false := by simp; omega
 go_enter func25, ntmps25
 go_wp2_with fail
 go_loopw [5] (fun iv wr => ∃ k : Nat, k ≤ la.length ∧ iv = .int .i64 k ∧ (∀ i (h1 : i < k) (h2 : i < la.length) (h3 : i < lb.length), la[i] = lb[i]) ∧ Below w.heap.size w wr) (fun iv _ => la.length - (intOf iv).toNat)
 case atStart => exact ⟨0, Nat.zero_le _, rfl, fun i h => absurd h (by omega), Below.refl _ _⟩
 obtain ⟨k, hk, rfl, he, hW⟩ := hrel
 have HE := Hh he
 clear he
 by_cases hlt : k < la.length
 case pos =>
  have hlt' : (k : Int) < la.length := by omega
  have hlt2 : k < lb.length := by omega
  obtain ⟨ba, oa, hA1, la1, xa⟩ := hA.2 (by omega)
  obtain ⟨bb, ob, hB1, lb1, xb⟩ := hB.2 (by omega)
  subst hA1 hB1
  have ra := xa k hlt
  have rb := xb k hlt2
  have ia := hA.1 _ (List.getElem_mem hlt)
  have ib := hB.1 _ (List.getElem_mem hlt2)
  have HD : Hid (la[k] ≠ lb[k] → la ≠ lb) := Hh (fun h => ne_at hlt hlt2 h)
  have HY : Hid (la[k] = lb[k] → ∀ i (h1 : i < k + 1) (h2 : i < la.length) (h3 : i < lb.length), la[i] = lb[i]) := Hh (fun h i h1 h2 h3 => by
   by_cases hik : i < k
   ·
    exact HE.out i hik h2 h3
   ·
    obtain rfl : i = k := by omega
    exact h)
  clear xa xb HE
  generalize la[k] = x at *
  generalize lb[k] = y at *
  go_wp2_with fail
  refine wp_region_old (by kernel_rfl) (by kernel_rfl) ?_
  (refine wpQuiet_val (v := (.slice (some ⟨ba, oa, none⟩) la.length ca)) rfl (fun W hW => by first | (go_simp; done) | (go_simp; omega)) ?_; simp only [Act.put, lsA, lsB, lsC])
  (refine wpQuiet_val (v := (.int .i64 k)) rfl (fun W hW => by first | (go_simp; done) | (go_simp; omega)) ?_; simp only [Act.put, lsA, lsB, lsC])
  refine wpQuiet_val (v := .pointer (some ⟨ba, oa + k * 21, none⟩)) rfl (fun W hW => exec_ixK underlying34 ouInfo1 (by omega) (.tmp 17) (.tmp 18) rfl rfl rfl hlt W) ?_
  simp only [Act.put, lsA, lsB, lsC]
  refine wpQuiet_ld (v := .agg (ouC x).toArray) 97 (.tmp 19) rfl ⟨ba, oa + k * 21, none⟩ rfl rfl (fun V hV => rangeK_loads (range_below (range_below ra hW la1) hV (Nat.lt_of_lt_of_le la1 hW.size)) underlying97 rfl (by rw [ouC_len ia]; exact ouInfo1)) ?_
  simp only [Act.put, lsA, lsB, lsC]
  (refine wpQuiet_val (v := (.slice (some ⟨bb, ob, none⟩) lb.length cb)) rfl (fun W hW => by first | (go_simp; done) | (go_simp; omega)) ?_; simp only [Act.put, lsA, lsB, lsC])
  (refine wpQuiet_val (v := (.int .i64 k)) rfl (fun W hW => by first | (go_simp; done) | (go_simp; omega)) ?_; simp only [Act.put, lsA, lsB, lsC])
  refine wpQuiet_val (v := .pointer (some ⟨bb, ob + k * 21, none⟩)) rfl (fun W hW => exec_ixK underlying34 ouInfo1 (by omega) (.tmp 21) (.tmp 22) rfl rfl rfl hlt2 W) ?_
  simp only [Act.put, lsA, lsB, lsC]
  refine wpQuiet_ld (v := .agg (ouC y).toArray) 97 (.tmp 23) rfl ⟨bb, ob + k * 21, none⟩ rfl rfl (fun V hV => rangeK_loads (range_below (range_below rb hW lb1) hV (Nat.lt_of_lt_of_le lb1 hW.size)) underlying97 rfl (by rw [ouC_len ib]; exact ouInfo1)) ?_
  simp only [Act.put, lsA, lsB, lsC]
  refine wpQuiet_val (v := .bool (!decide (x = y))) rfl (fun W hW => exec_neqOu (.tmp 20) (.tmp 24) rfl rfl rfl ia ib W) ?_
  simp only [Act.put, lsA, lsB, lsC]
  refine wpQuiet_nil ?_
  intro w4 hB4
  have HW := below_then hW hW.size hB4
  clear hW hB4 ra rb
  by_cases hxy : x = y
  case neg =>
   have hn := HD.out hxy
   have hR2 : Hid (R = false) := Hh (by rw [← hR.out]; exact decide_eq_false hn)
   rw [decide_eq_false hxy]
   clear hxy hn hR HD HY
   go_wp2_with fail
   go_ret
   rw [hR2.out]
   exact RetB.mk rfl HW
  have hy := HY.out hxy
  have HE := Hh hy
  rw [decide_eq_true hxy]
  clear hxy hy HD HY
  go_wp2_with fail
  go_roundw
  case rel => exact ⟨k + 1, by omega, by go_num, HE.out, HW⟩
  case measure => simp [intOf]; omega
 obtain rfl : k = la.length := by omega
 have hlt' : ¬ (la.length : Int) < la.length := by omega
 have hR2 : Hid (R = true) := Hh (by
  rw [← hR.out]
  exact decide_eq_true (List.ext_getElem hll (fun i h1 h2 => HE.out i h1 h1 h2)))
 clear HE hR
 go_wp2_with fail
 go_ret
 rw [hR2.out]
 exact RetB.mk rfl hW
def totE (l : List Ev) : Nat := (l.map fun e => e.data.length).sum
theorem totE_take (l : List Ev) (k : Nat) (h : k < l.length) : totE (l.take (k + 1)) = totE (l.take k) + l[k].data.length := by
 unfold totE
 rw [List.take_succ_eq_append_getElem h, List.map_append, List.sum_append]
 simp
theorem totE_le (l : List Ev) (k : Nat) : totE (l.take k) ≤ totE l := by
 have h := List.take_append_drop k l
 have e : totE l = totE (l.take k) + totE (l.drop k) := by
  conv => lhs; rw [← h]
  unfold totE
  rw [List.map_append, List.sum_append]
 omega
def FewRet (l : List Ev) (most : Nat) (w : World) (e : Ending) (w' : World) : Prop := ∃ b, e = .returned (.bool b) ∧ (b = true → l.length ≤ most ∧ totE l ≤ 20000) ∧ Below w.heap.size w w'
set_option maxHeartbeats 1000000 in
theorem few28_any (A : Option Addr) (c : Nat) (l : List Ev) (most : Nat) (w : World) (hA : EvsR w A l) (hl : l.length ≤ 17592186044416) :
  Calls prog 23 #[.slice A l.length c, .int .i64 most] w (FewRet l most w) := by
 go_enter func23, ntmps23
 go_wp2_with fail
 go_loopw [5, 6] (fun nv iv wr => ∃ k : Nat, k ≤ l.length ∧ k ≤ most ∧ iv = .int .i64 k ∧ nv = .int .i64 (totE (l.take k) : Nat) ∧ totE (l.take k) ≤ 20000 ∧ Below w.heap.size w wr) (fun _ iv _ => l.length - (intOf iv).toNat)
 case atStart => exact ⟨0, Nat.zero_le _, Nat.zero_le _, rfl, rfl, by simp [totE], Below.refl _ _⟩
 obtain ⟨k, hk, hkm, rfl, rfl, ht, hW⟩ := hrel
 by_cases hlt : k < l.length
 case pos =>
  have hlt' : (k : Int) < l.length := by omega
  obtain ⟨ba, oa, hA1, la1, ra, hev⟩ := hA.at_ k hlt
  subst hA1
  have E21 : (evC l[k])[21]? = some (.string (bs l[k].data)) := evC_at hev.1 2
  have c21 : wr.cell? ⟨ba, oa + k * 22 + 21, none⟩ = some (.string (bs l[k].data)) := (hW.cell (p := ⟨ba, oa + k * 22 + 21, none⟩) la1).trans (ra 21 _ E21)
  have hdl : l[k].data.length ≤ 140737488355328 := hev.2
  have HT := Hh (totE_take l k hlt)
  have IX := fun W => run_ixK (ba := ba) (oa := oa) (c := c) underlying56 evInfo1 (by omega) hlt W
  clear ra hev E21
  generalize totE (l.take k) = n at *
  generalize l[k].data = dt at *
  by_cases hm : k < most
  case neg =>
   have hm' : (most : Int) ≤ k := by omega
   clear hm HT
   go_wp2_with fail
   go_ret
   exact ⟨false, rfl, fun h => (by cases h), hW⟩
  have hm' : ¬ (most : Int) ≤ k := by omega
  by_cases hb : n + dt.length ≤ 20000
  case neg =>
   have hb' : (20000 : Int) < (n : Int) + dt.length := by omega
   clear hb HT
   go_wp2_with fail
   go_ret
   exact ⟨false, rfl, fun h => (by cases h), hW⟩
  have hb' : ¬ (20000 : Int) < (n : Int) + dt.length := by omega
  go_wp2_with fail
  go_roundw
  case rel => exact ⟨k + 1, by omega, by omega, by go_num, (by rw [HT.out]; go_num), (by rw [HT.out]; omega), hW⟩
  case measure => simp [intOf]; omega
 obtain rfl : k = l.length := by omega
 have hlt' : ¬ (l.length : Int) < l.length := by omega
 rw [List.take_of_length_le (Nat.le_refl _)] at ht
 have HT := Hh ht
 clear ht
 go_wp2_with fail
 go_ret
 exact ⟨true, rfl, fun _ => ⟨hkm, HT.out⟩, hW⟩
def dl2 (y : Qy) : Dl := ⟨y, [], 2, false, [], Msg.zero⟩
theorem run_brd16 (fam zone port id : Int) (q : Qn) (b0 b1 b2 b3 b4 b5 b6 b7 b8 b9 b10 b11 b12 b13 b14 b15 : UInt8) (vn : Value) (W : World) :
  (Instr.build 163 #[(0, .agg (qyC vn ⟨⟨fam, [b0, b1, b2, b3, b4, b5, b6, b7, b8, b9, b10, b11, b12, b13, b14, b15], zone⟩, port, id, q⟩).toArray)]).run prog W = .ok (.agg (rdC vn (dl0 ⟨⟨fam, [b0, b1, b2, b3, b4, b5, b6, b7, b8, b9, b10, b11, b12, b13, b14, b15], zone⟩, port, id, q⟩) msgZ).toArray) W ∧
  (Instr.build 163 #[(0, .agg (qyC vn ⟨⟨fam, [b0, b1, b2, b3, b4, b5, b6, b7, b8, b9, b10, b11, b12, b13, b14, b15], zone⟩, port, id, q⟩).toArray), (3, .int .i64 2)]).run prog W = .ok (.agg (rdC vn (dl2 ⟨⟨fam, [b0, b1, b2, b3, b4, b5, b6, b7, b8, b9, b10, b11, b12, b13, b14, b15], zone⟩, port, id, q⟩) msgZ).toArray) W := by
 constructor <;> kernel_rfl
theorem run_brd (vn : Value) (y : Qy) (h : y.sv.ip.length = 16) (W : World) : (Instr.build 163 #[(0, .agg (qyC vn y).toArray)]).run prog W = .ok (.agg (rdC vn (dl0 y) msgZ).toArray) W ∧ (Instr.build 163 #[(0, .agg (qyC vn y).toArray), (3, .int .i64 2)]).run prog W = .ok (.agg (rdC vn (dl2 y) msgZ).toArray) W := by
 obtain ⟨⟨fam, ip, zone⟩, port, id, q⟩ := y
 have h' : ip.length = 16 := h
 clear h
 match ip, h' with
 | [b0, b1, b2, b3, b4, b5, b6, b7, b8, b9, b10, b11, b12, b13, b14, b15], _ => exact run_brd16 fam zone port id q b0 b1 b2 b3 b4 b5 b6 b7 b8 b9 b10 b11 b12 b13 b14 b15 vn W
def RnRet (y : Qy) (A : Option Addr) (c : Nat) (w : World) (e : Ending) (w' : World) : Prop := ∃ g v, e = .returned (.tuple #[.pointer (some ⟨g, 0, none⟩), v]) ∧ RDialAt w' g (newD y).1 A c ∧ OusN (g + 1) w' v (newD y).2 ∧ Below w.heap.size w w' ∧ w.heap.size ≤ g
set_option maxHeartbeats 2000000 in
theorem rnew_any (cs : List Value) (y : Qy) (A : Option Addr) (c : Nat) (w : World) (h : QyIs w cs y A c) :
  Calls prog 24 #[.agg cs.toArray] w (RnRet y A c w) := by
 have hip := h.ip
 have hcl : cs.length = 23 := by rw [h.hcs]; exact qyC_len hip
 have L19 : cs[19]? = some (.int .i64 y.id) := by rw [h.hcs]; exact qyC_at hip 1
 have Q3 : Hid ((cs.drop 20).take 3 = qC (.slice A y.q.name.length c) y.q) := Hh (by rw [h.hcs]; exact qyC_q hip)
 have RB := Hh (fun W => run_brd (.slice A y.q.name.length c) y hip W)
 rw [← h.hcs] at RB
 have B1 := Blk.new w 30 cs
 have HB1 : Below w.heap.size w (w.alloc (.cells cs.toArray 30)) := (Below.refl _ _).alloc (Nat.le_refl _) _
 have BU := Hh (refBuild_any A c y.q y.id false _ (h.nm.below HB1))
 have a19 := B1.cell_ 19 L19
 have HLL : Hid (∀ (d : Dl) W g, d.y = y → d.msg = Msg.zero → Blk W g 163 (rdC (.slice A y.q.name.length c) d msgZ) → RDialAt W g d A c) := Hh (fun d W g hy hm hb => ⟨msgZ, by rw [hy]; exact hb, by rw [hy]; exact hip, by rw [hm]; exact MsgOwn.zero _⟩)
 obtain ⟨R, hR⟩ : ∃ R, Hid (newD y = R) := ⟨_, Hh rfl⟩
 unfold RnRet
 rw [hR.out]
 obtain ⟨LL, hLL⟩ : ∃ LL, Hid (rdC (.slice A y.q.name.length c) (dl0 y) msgZ = LL) := ⟨_, Hh rfl⟩
 obtain ⟨L2, hL2⟩ : ∃ L2, Hid (rdC (.slice A y.q.name.length c) (dl2 y) msgZ = L2) := ⟨_, Hh rfl⟩
 rw [hLL.out, hL2.out] at RB
 clear h L19
 unfold qC at Q3
 go_enter func24, ntmps24
 go_wp2_with (refine at_op (.load 28 (.tmp 8)) rfl ?_; go_must (refine wpList_ldB rfl _ _ rfl w.heap.size 20 rfl B1 3 (by omega) _ underlying28 rfl qInfo _ Q3.out ?_))
 refine BU.out.mono ?_
 rintro _ w3 ⟨rfl, b3⟩
 have C3 := B1.below b3 B1.lt
 have HB3 := below_then HB1 HB1.size b3
 clear B1 HB1 BU a19 b3 Q3
 by_cases he : errP y = 0
 case neg =>
  have HR2 : Hid (R = (dl2 y, [])) := Hh (by rw [← hR.out]; unfold newD; rw [if_neg he]; rfl)
  have he2 : (errP y != 0) = true := by simpa using he
  have D4 := Blk.new w3 163 L2
  have H4 := HB3.alloc HB3.size (.cells L2.toArray 163)
  have J4 := HLL.out (dl2 y) (w3.alloc (.cells L2.toArray 163)) w3.heap.size rfl rfl (by rw [hL2.out]; exact D4)
  have HJ := Hh J4
  clear he hR J4 D4 hL2 hLL
  unfold errP at *
  generalize (encM (askM y.q y.id false) false).1 = o1 at *
  generalize (encM (askM y.q y.id false) false).2 = o2 at *
  go_wp2_with (first
   | (refine at_op (.load 30 (.tmp 1)) rfl ?_; go_must (refine wpList_ldB rfl _ _ rfl w.heap.size 0 rfl C3 23 (by omega) _ underlying30 rfl qrInfo cs (tk0 (by omega)) ?_))
   | (refine at_op (.build 163 #[(0, .tmp 17), (3, .const (.int .i64 2))]) rfl ?_; go_must (refine wpList_bld rfl 163 _ rfl #[(0, .agg cs.toArray), (3, .int .i64 2)] (by simp [Act.eval, Act.put]) (RB.out _).2 ?_)))
  go_ret2
  rw [HR2.out]
  exact ⟨w3.heap.size, _, rfl, HJ.out, OusN.nil _ _, H4, HB3.size⟩
 have HR2 : Hid (R = (⟨y, putB 2 (octP y).length ++ octP y, 0, false, [], Msg.zero⟩, [⟨2, y.sv, y.port, []⟩])) := Hh (by rw [← hR.out]; unfold newD; rw [if_pos he])
 have D4 := Blk.new w3 163 LL
 have H4 := HB3.alloc HB3.size (.cells LL.toArray 163)
 have J4 := HLL.out ⟨y, putB 2 (octP y).length ++ octP y, 0, false, [], Msg.zero⟩ (w3.alloc (.cells LL.toArray 163)) w3.heap.size rfl rfl (by show Blk _ _ _ (rdC (.slice A y.q.name.length c) (dl0 y) msgZ); rw [hLL.out]; exact D4)
 have OC := Hh (J4.out 2 [])
 have HJ := Hh J4
 clear hR J4 D4 hL2 hLL HLL
 unfold errP at he
 generalize putB 2 (octP y).length ++ octP y = o9 at *
 generalize (encM (askM y.q y.id false) false).1 = o1 at *
 rw [he]
 clear he
 go_wp2_with (first
  | (refine at_op (.load 30 (.tmp 1)) rfl ?_; go_must (refine wpList_ldB rfl _ _ rfl w.heap.size 0 rfl C3 23 (by omega) _ underlying30 rfl qrInfo cs (tk0 (by omega)) ?_))
  | (refine at_op (.build 163 #[(0, .tmp 20)]) rfl ?_; go_must (refine wpList_bld rfl 163 _ rfl #[(0, .agg cs.toArray)] (by simp [Act.eval, Act.put]) (RB.out _).1 ?_)))
 refine OC.out.mono ?_
 rintro _ w5 ⟨v, rfl, hO, b5⟩
 have H6 := below_then H4 H4.size b5
 go_wp2_with fail
 go_ret2
 rw [HR2.out]
 exact ⟨w3.heap.size, _, rfl, HJ.out.below b5, hO.mono (by simp), H6, HB3.size⟩
theorem dmsg_blk (g : Nat) (L ds : List Value) (m : Msg) (w : World) (hb : Blk w g 152 L) (hl : L.length = 44) (hp : (L.drop 30).take 14 = ds) (hM : MsgOwn w ds m) : Calls prog 22 #[.pointer (some ⟨g, 0, none⟩)] w (RetB (.agg ds.toArray) w) := by
 have hdl := hM.len
 have hd1 := Hh hM.one
 have C := hb.alloc (.cells msgZ.toArray 50)
 have B2 := Blk.new w 50 msgZ
 have HB : Below w.heap.size w (w.alloc (.cells msgZ.toArray 50)) := (Below.refl _ _).alloc (Nat.le_refl _) _
 have HP := Hh hp
 clear hp hb hM
 go_enter func22, ntmps22
 go_wp2_with (first
  | (refine at_op (.load 50 (.tmp 8)) rfl ?_; go_must (refine wpList_ldB rfl _ _ rfl g 30 rfl C 14 (by omega) _ underlying50 rfl msgInfo ds HP.out ?_))
  | (refine at_op (.store 50 (.tmp 2) (.tmp 9)) rfl ?_; go_must (refine wpList_stB rfl _ _ _ rfl w.heap.size 0 rfl ds rfl B2 (by have := msgZ_len; omega) (by rw [hdl]; exact msgInfo) hd1.out ?_)))
 intro w8 B8 g8 _
 replace B8 : Blk w8 w.heap.size 50 ds := wholeT B8 (by have := msgZ_len; omega)
 have HB8 := below_grown HB g8 HB.size (Nat.le_refl _)
 clear g8 HB B2 C
 go_wp2_with fail
 refine ret_cell rfl w.heap.size rfl B8 _ underlying50 rfl (by rw [hdl]; exact msgInfo) rfl ?_
 exact RetB.mk rfl HB8
set_option maxHeartbeats 1000000 in
theorem same28_any (g gr : Nat) (d : Dl) (A : Option Addr) (c : Nat) (w : World) (h : DialAt w g d) (h' : RDialAt w gr d A c) :
  Calls prog 26 #[.pointer (some ⟨g, 0, none⟩), .pointer (some ⟨gr, 0, none⟩)] w (RetB (.bool true) w) := by
 have HD := Lib.hid h
 obtain ⟨p, hJ, _⟩ := h
 obtain ⟨vn, L, ds, hb, hL, _, _, _, _, _, _, _, _, hp, hM, _⟩ := hJ.blk
 obtain ⟨L', ds', hb', hL', _, _, _, _, _, _, _, _, c25, hp', hM', _⟩ := h'.blk
 have HP := Hh hp
 have HP' := Hh hp'
 clear hJ h' hp hp'
 go_enter func26, ntmps26
 go_wp2_with fail
 refine wp_region_old (by kernel_rfl) (by kernel_rfl) ?_
 (refine wpQuiet_val (v := (.pointer (some ⟨g, 0, none⟩))) rfl (fun W hW => by first | (go_simp; done) | (go_simp; omega)) ?_; simp only [Act.put, lsA, lsB, lsC])
 refine wpQuiet_call 17 #[.pointer (some ⟨g, 0, none⟩)] rfl (fun W => by go_simp) (fun W hW => Ret.old hW (dstate_any g d W (HD.out.below hW))) ?_
 simp only [Act.put, lsA, lsB, lsC]
 (refine wpQuiet_val (v := (.pointer (some ⟨gr, 0, none⟩))) rfl (fun W hW => by first | (go_simp; done) | (go_simp; omega)) ?_; simp only [Act.put, lsA, lsB, lsC])
 refine wpQuiet_val (v := .pointer (some ⟨gr, 0, none⟩)) rfl (fun W hW => by kernel_rfl) ?_
 simp only [Act.put, lsA, lsB, lsC]
 refine wpQuiet_val (v := .pointer (some ⟨gr, 25, none⟩)) rfl (fun W hW => rfl) ?_
 simp only [Act.put, lsA, lsB, lsC]
 refine wpQuiet_ld (v := .int .i64 d.st) 3 (.tmp 9) rfl ⟨gr, 25, none⟩ rfl rfl (fun V hV => run_load1 underlying3 rfl ((hb'.below hV hb'.lt).cell_ 25 c25)) ?_
 simp only [Act.put, lsA, lsB, lsC]
 (refine wpQuiet_val (v := (.bool true)) rfl (fun W hW => by first | (go_simp; done) | (go_simp; omega)) ?_; simp only [Act.put, lsA, lsB, lsC])
 (refine wpQuiet_val (v := (.bool true)) rfl (fun W hW => by first | (go_simp; done) | (go_simp; omega)) ?_; simp only [Act.put, lsA, lsB, lsC])
 (refine wpQuiet_val (v := (.pointer (some ⟨g, 0, none⟩))) rfl (fun W hW => by first | (go_simp; done) | (go_simp; omega)) ?_; simp only [Act.put, lsA, lsB, lsC])
 refine wpQuiet_call 22 #[.pointer (some ⟨g, 0, none⟩)] rfl (fun W => by go_simp) (fun W hW => RetB.old hW (dmsg_blk g L ds d.msg W (hb.below hW hb.lt) hL HP.out (hM.below hW))) ?_
 simp only [Act.put, lsA, lsB, lsC]
 (refine wpQuiet_val (v := (.pointer (some ⟨gr, 0, none⟩))) rfl (fun W hW => by first | (go_simp; done) | (go_simp; omega)) ?_; simp only [Act.put, lsA, lsB, lsC])
 refine wpQuiet_val (v := .pointer (some ⟨gr, 0, none⟩)) rfl (fun W hW => by kernel_rfl) ?_
 simp only [Act.put, lsA, lsB, lsC]
 refine wpQuiet_val (v := .pointer (some ⟨gr, 26, none⟩)) rfl (fun W hW => rfl) ?_
 simp only [Act.put, lsA, lsB, lsC]
 refine wpQuiet_ld (v := .agg ds'.toArray) 50 (.tmp 17) rfl ⟨gr, 26, none⟩ rfl rfl (fun V hV => (hb'.below hV hb'.lt).loads 50 26 14 (by omega) _ underlying50 rfl msgInfo ds' HP'.out) ?_
 simp only [Act.put, lsA, lsB, lsC]
 refine wpQuiet_call (v := .bool true) 21 #[.agg ds.toArray, .agg ds'.toArray] rfl (fun W => by go_simp) (fun W hW => RetB.old hW (by
  have := same_owns (hM.below hW) (hM'.below hW)
  rwa [decide_eq_true rfl] at this)) ?_
 simp only [Act.put, lsA, lsB, lsC]
 (refine wpQuiet_val (v := (.bool true)) rfl (fun W hW => by first | (go_simp; done) | (go_simp; omega)) ?_; simp only [Act.put, lsA, lsB, lsC])
 (refine wpQuiet_val (v := (.bool true)) rfl (fun W hW => by first | (go_simp; done) | (go_simp; omega)) ?_; simp only [Act.put, lsA, lsB, lsC])
 refine wpQuiet_nil ?_
 intro w4 hB4
 go_wp2_with fail
 go_ret
 exact RetB.mk rfl hB4
end Go.Proofs.YthnbcmlnpdabhaaGreat

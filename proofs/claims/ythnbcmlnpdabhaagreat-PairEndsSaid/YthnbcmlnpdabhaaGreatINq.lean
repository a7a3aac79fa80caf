/-
  Layer 24, the laws' own: works; AskOwn.
-/
import Derived.Test.YthnbcmlnpdabhaaGreatHXq
namespace Go.Proofs.YthnbcmlnpdabhaaGreat
open _root_.Go.Proofs.Tryz
open Go.RowKit
set_option maxRecDepth 100000
set_option linter.unusedVariables false
set_option linter.unusedSimpArgs false
def xs (n : List (List UInt8)) (k : Nat) : List (List UInt8) := (n.take k).map (· ++ [120]) ++ n.drop k
theorem ask_plain (q : Qn) (id : Int) (edns : Bool) : (encM (askM q id edns) false).2 ≠ 0 ∨ ((encM (askM q id edns) false).2 = 0 ∧ (encM (askM q id edns) false).1.length ≤ 65535 ∧ decM (encM (askM q id edns) false).1 = .ok (askM q id edns)) := by
 have hw : ∀ r ∈ (askM q id edns).rrs, r.wf := by
  intro r hr
  cases edns with
  | false => simp [askM, Msg.rrs] at hr
  | true =>
   have : r = optR := by simpa [askM, Msg.rrs] using hr
   subst this
   exact ⟨rfl, rfl⟩
 rcases back_plain _ hw with ⟨h1, h2, h3, h4, h5, h6⟩ | ⟨h1, _⟩ | ⟨h1, _⟩
 ·
  exact .inr ⟨h1, h4, h5⟩
 ·
  exact .inl h1
 ·
  exact .inl h1
def dl0 (y : Qy) : Dl := ⟨y, [], 0, false, [], Msg.zero⟩
def dlZ (vn : Value) (y : Qy) : List Value := JB (dlP vn (dl0 y)) msgZ (.pointer none) (.int .i64 0) (.int .u8 0) (.int .u8 0)
theorem run_bdl16 (fam zone port id : Int) (q : Qn) (b0 b1 b2 b3 b4 b5 b6 b7 b8 b9 b10 b11 b12 b13 b14 b15 : UInt8) (vn : Value) (W : World) :
  (Instr.build 152 #[(0, .agg (qyC vn ⟨⟨fam, [b0, b1, b2, b3, b4, b5, b6, b7, b8, b9, b10, b11, b12, b13, b14, b15], zone⟩, port, id, q⟩).toArray)]).run prog W = .ok (.agg (dlZ vn ⟨⟨fam, [b0, b1, b2, b3, b4, b5, b6, b7, b8, b9, b10, b11, b12, b13, b14, b15], zone⟩, port, id, q⟩).toArray) W := by
 kernel_rfl
theorem run_bdl (vn : Value) (y : Qy) (h : y.sv.ip.length = 16) (W : World) : (Instr.build 152 #[(0, .agg (qyC vn y).toArray)]).run prog W = .ok (.agg (dlZ vn y).toArray) W := by
 obtain ⟨⟨fam, ip, zone⟩, port, id, q⟩ := y
 have h' : ip.length = 16 := h
 clear h
 match ip, h' with
 | [b0, b1, b2, b3, b4, b5, b6, b7, b8, b9, b10, b11, b12, b13, b14, b15], _ => exact run_bdl16 fam zone port id q b0 b1 b2 b3 b4 b5 b6 b7 b8 b9 b10 b11 b12 b13 b14 b15 vn W
theorem qyC_set20 (vn vm : Value) (y : Qy) (h : y.sv.ip.length = 16) : (qyC vn y).set 20 vm = qyC vm y := by
 unfold qyC
 rw [List.set_append_right _ _ (by rw [y.sv.cells_len h]; omega), y.sv.cells_len h]
 rfl
def DnRet (y : Qy) (w : World) (e : Ending) (w' : World) : Prop := ∃ g v, e = .returned (.tuple #[.pointer (some ⟨g, 0, none⟩), v]) ∧ DialAt w' g (newD y).1 ∧ OusN (g + 1) w' v (newD y).2 ∧ Below w.heap.size w w' ∧ w.heap.size ≤ g
theorem frames_none : frames [] = [] ∧ restF [] = [] := frames_no [] (by simp [wholeB])
set_option maxHeartbeats 2000000 in
theorem dnew_any (cs : List Value) (y : Qy) (A : Option Addr) (c : Nat) (w : World) (h : QyIs w cs y A c) (hn : y.q.name.length ≤ 100000) :
  Calls prog 15 #[.agg cs.toArray] w (DnRet y w) := by
 have hip := h.ip
 have hcl : cs.length = 23 := by rw [h.hcs]; exact qyC_len hip
 have L20 : cs[20]? = some (.slice A y.q.name.length c) := by rw [h.hcs]; exact qyC_at hip 2
 have hset : ∀ vm, cs.set 20 vm = qyC vm y := fun vm => by rw [h.hcs]; exact qyC_set20 _ _ _ hip
 have B1 := Blk.new w 37 cs
 have HB1 : Below w.heap.size w (w.alloc (.cells cs.toArray 37)) := (Below.refl _ _).alloc (Nat.le_refl _) _
 have CL := Hh (clone_any A c y.q.name _ (h.nm.below HB1) hn)
 have hll : Hid (∀ l ∈ y.q.name, l.length ≤ 140737488355328) := Hh h.nm.2.2.2
 have a20 := B1.cell_ 20 L20
 have HSET := Hh hset
 have hnl : y.q.name.length ≤ 17592186044416 := by omega
 obtain ⟨R, hR⟩ : ∃ R, Hid (newD y = R) := ⟨_, Hh rfl⟩
 unfold DnRet
 rw [hR.out]
 clear h L20 hset
 go_enter func15, ntmps15
 go_wp2_with fail
 refine CL.out.mono ?_
 rintro _ w1 ⟨A1, c1, rfl, own1, b1⟩
 have C1 := B1.below b1 B1.lt
 have HB2 := below_then HB1 HB1.size b1
 clear CL B1 HB1 b1 a20
 go_wp2_with (refine at_op (.store 26 (.tmp 12) (.tmp 10)) rfl ?_; go_must (refine wpList_stC rfl 26 (.tmp 12) (.tmp 10) rfl w.heap.size 20 rfl (.slice A1 y.q.name.length c1) rfl C1 (by rw [hcl]; decide) nameInfo1 rfl rfl ?_))
 intro w2 C2 g2 zs
 clear zs
 rw [HSET.out] at C2
 have own2 := own_blk own1 g2 C1 (by decide)
 have HB3 := below_grown HB2 g2 HB2.size (Nat.le_refl _)
 have hT2 : Txts w2 (.slice A1 y.q.name.length c1) y.q.name := own_zero own2
 have N2 := own_nm own2 hnl hll.out
 have hN2 : NmL w2 (.slice A1 y.q.name.length c1) y.q.name := ⟨hT2, hn, hll.out⟩
 have RB := Hh (fun W => run_bdl (.slice A1 y.q.name.length c1) y hip W)
 have hql := qyC_len (vn := .slice A1 y.q.name.length c1) hip
 have q19 : (qyC (.slice A1 y.q.name.length c1) y)[19]? = some (.int .i64 y.id) := qyC_at hip 1
 have Q3 := Hh (qyC_q (vn := .slice A1 y.q.name.length c1) hip)
 have a19 := fun o => (C2.alloc o).cell_ 19 q19
 have HLL : Hid (∀ W, Blk W w2.heap.size 152 (dlZ (.slice A1 y.q.name.length c1) y) → NmL W (.slice A1 y.q.name.length c1) y.q.name → DialJ W w2.heap.size (dl0 y) []) := Hh (fun W hb hN =>
  ⟨_, msgZ, ⟨none, [], 0, 0, dlP_len (d := dl0 y) hip, hb, rfl, rfl, by simp, by simp⟩, hip, hN, MsgOwn.zero _⟩)
 have BU := Hh (fun W (hb : Below w2.heap.size w2 W) => build_any A1 c1 y.q y.id false W (N2.below hb) hn)
 have AP : Hid (errP y = 0 → (octP y).length ≤ 65535) := Hh (fun h0 => by
  rcases ask_plain y.q y.id false with h | ⟨_, h, _⟩
  ·
   exact absurd h0 h
  ·
   exact h)
 clear HSET own1 g2 C1 HB2 own2 hT2 N2 q19 hll hnl
 generalize qyC (.slice A1 y.q.name.length c1) y = qs at *
 obtain ⟨LL, hLL⟩ : ∃ LL, Hid (dlZ (.slice A1 y.q.name.length c1) y = LL) := ⟨_, Hh rfl⟩
 rw [hLL.out] at RB HLL
 unfold qC at Q3
 go_wp2_with (first
  | (refine at_op (.load 37 (.tmp 1)) rfl ?_; go_must (refine wpList_ldB rfl _ _ rfl w.heap.size 0 rfl C2 23 (by omega) _ underlying37 rfl qyInfo qs (tk0 (by omega)) ?_))
  | (refine at_op (.build 152 #[(0, .tmp 13)]) rfl ?_; go_must (refine wpList_bld rfl 152 _ rfl #[(0, .agg qs.toArray)] (by simp [Act.eval, Act.put]) (RB.out _) ?_))
  | (refine at_op (.load 28 (.tmp 17)) rfl ?_; go_must (refine wpList_ldB rfl _ _ rfl w.heap.size 20 rfl (C2.alloc _) 3 (by omega) _ underlying28 rfl qInfo _ Q3.out ?_)))
 have kn : Below w2.heap.size w2 (w2.alloc (.cells LL.toArray 152)) := (Below.refl _ _).alloc (Nat.le_refl _) _
 have D1 := Blk.new w2 152 LL
 refine (BU.out _ kn).mono ?_
 rintro _ w3 ⟨rfl, b3⟩
 have k3 := below_then kn kn.size b3
 have J3 := HLL.out w3 (D1.below b3 D1.lt) (hN2.stays (Stays.below k3))
 have HB4 := below_then HB3 HB3.size k3
 have hg : w.heap.size ≤ w2.heap.size := HB3.size
 clear RB HLL BU kn D1 b3 k3 hN2 HB3 C2 a19 Q3 hLL
 generalize w2.heap.size = g at *
 obtain ⟨vn, L, _, hbk, hL, _, _, _, _, _, c23, c24, _⟩ := J3.blk
 have a23 := hbk.cell_ 23 c23
 have a24 := hbk.cell_ 24 c24
 have f23 := hbk.frozen 23
 have f24 := hbk.frozen 24
 have hgl := hbk.lt
 clear c23 c24 hL
 by_cases he : errP y = 0
 case neg =>
  have HR2 : Hid (R = (⟨y, [], 2, false, [], Msg.zero⟩, [])) := Hh (by rw [← hR.out]; unfold newD; rw [if_neg he])
  have he1 : (errP y == 0) = false := by simpa using he
  have he2 : (errP y != 0) = true := by simpa using he
  have J4 : DialJ (w3.setCell ⟨g, 24, none⟩ (.int .i64 2)) g ⟨y, [], 2, false, [], Msg.zero⟩ [] := J3.set 1 (by omega) (.int .i64 2) rfl rfl rfl
  have H5 : Below w.heap.size w (w3.setCell ⟨g, 24, none⟩ (.int .i64 2)) := below_grown HB4 (grown_set (World.grownBy.refl _ _) 24 (.int .i64 2)) HB4.size hg
  have HJ := Hh J4
  clear he hR J4 J3 AP hbk
  unfold errP at *
  generalize (encM (askM y.q y.id false) false).1 = o1 at *
  generalize (encM (askM y.q y.id false) false).2 = o2 at *
  go_wp2_with fail
  go_ret2
  rw [HR2.out]
  exact ⟨g, _, rfl, ⟨[], HJ.out, fun h => (by cases h), fun h => (by cases h)⟩, OusN.nil _ _, H5, hg⟩
 have HR2 : Hid (R = (⟨y, putB 2 (octP y).length ++ octP y, 0, false, [], Msg.zero⟩, [⟨2, y.sv, y.port, []⟩])) := Hh (by rw [← hR.out]; unfold newD; rw [if_pos he])
 have hl := AP.out he
 clear AP hR hbk
 unfold errP at he
 unfold octP at HR2 hl
 generalize (encM (askM y.q y.id false) false).1 = o1 at *
 rw [he]
 clear he
 go_wp2_with fail
 refine (streamPut_ok o1 _ hl).mono ?_
 rintro _ w4 ⟨rfl, b4⟩
 have J4 := J3.below b4
 have HB5 := below_then HB4 HB4.size b4
 have J5 : DialJ (w4.setCell ⟨g, 23, none⟩ (.string (bs (putB 2 o1.length ++ o1)))) g ⟨y, putB 2 o1.length ++ o1, 0, false, [], Msg.zero⟩ [] := J4.set 0 (by omega) (.string (bs (putB 2 o1.length ++ o1))) rfl rfl rfl
 have H5 : Below w.heap.size w (w4.setCell ⟨g, 23, none⟩ (.string (bs (putB 2 o1.length ++ o1)))) := below_grown HB5 (grown_set (World.grownBy.refl _ _) 23 _) HB5.size hg
 obtain ⟨_, L4, _, hb4, _, _, _, _, _, _, c23, _⟩ := J4.blk
 have e23 := hb4.cell_ 23 c23
 have e23f := hb4.frozen 23
 have hgl4 := hb4.lt
 have OC := Hh (J5.out 2 [])
 have HJ := Hh J5
 clear J3 J4 J5 HB4 b4 hb4 c23 a23 a24 f23 f24 hgl
 generalize putB 2 o1.length ++ o1 = o2 at *
 go_wp2_with fail
 refine OC.out.mono ?_
 rintro _ w5 ⟨v, rfl, hO, b5⟩
 have H6 := below_then H5 H5.size b5
 go_wp2_with fail
 go_ret2
 rw [HR2.out]
 exact ⟨g, _, rfl, ⟨[], HJ.out.below b5, fun _ => frames_none.2.symm, fun _ => by show firstA y (frames []) = none; rw [frames_none.1]; rfl⟩, hO.mono (by have : g + 1 ≤ w4.heap.size := hgl4; simpa [World.setCell] using this), H6, hg⟩
end Go.Proofs.YthnbcmlnpdabhaaGreat

/-
  Layer 21 (setup): Held, where a resolv alone is told.
-/
import Derived.Test.YthnbcmlnpdabhaaGreatIBq
import Derived.Test.YthnbcmlnpdabhaaGreatHXq
import Derived.OwnWalk
namespace Go.Proofs.YthnbcmlnpdabhaaGreat
open _root_.Go.Proofs.Tryz
open Go.RowKit
set_option maxRecDepth 100000
set_option linter.unusedVariables false
set_option linter.unusedSimpArgs false
structure Rs where
 sv : List Adr
 se : List (List (List UInt8))
 so : List (Adr × Int)
 nd : Int
 tmo : Int
 at_ : Int
 ro : Bool
 vc : Bool
 si : Bool
 ed : Bool
def rsC (v1 v2 v3 : Value) (r : Rs) : List Value := [v1, v2, v3, .int .i64 r.nd, .int .i64 r.tmo, .int .i64 r.at_, .bool r.ro, .bool r.vc, .bool r.si, .bool r.ed]
def heldR (r : Rs) : Rs := { r with sv := if leftP adOk r.sv 3 = [] then [quadA 127 0 0 1] else leftP adOk r.sv 3, se := leftP nmOk r.se 6, so := leftP pfOk r.so 10, nd := min (max r.nd 0) 15, tmo := min (max r.tmo 1) 30, at_ := min (max r.at_ 1) 5 }
def RsIs (w : World) (cs : List Value) (r : Rs) : Prop := ∃ A1 c1 A2 c2 A3 c3, cs = rsC (.slice A1 r.sv.length c1) (.slice A2 r.se.length c2) (.slice A3 r.so.length c3) r ∧ AdsR w A1 r.sv ∧ NmsR w A2 r.se ∧ PfsR w A3 r.so ∧ r.sv.length ≤ 17592186044416 ∧ r.se.length ≤ 17592186044416 ∧ r.so.length ≤ 17592186044416
def RsO (w0 w : World) (cs : List Value) (r : Rs) : Prop := ∃ v1 v2 v3, cs = rsC v1 v2 v3 r ∧ AdsO w 0 v1 r.sv ∧ NmlO w0 w 0 v2 r.se ∧ PfsO w 0 v3 r.so
def HeldRet (w0 : World) (r : Rs) (w : World) (e : Ending) (w' : World) : Prop := ∃ cs v1 v2 v3, e = .returned (.agg (cs ++ [v1, v2, v3]).toArray) ∧ RsO w0 w' cs (heldR r) ∧ Below w.heap.size w w'
theorem leftS_nil (m : Nat) (w : World) : Calls prog 135 #[nilS, .int .i64 m, .func (.func 136) #[] #[]] w (Ret nilS w) := by
 unfold nilS
 go_enter func135, ntmps135
 go_wp2_with fail
 refine wp_loop_rounds 1 ?_
 rw [rounds_succ]
 go_wp2_with fail
 go_ret
 exact Ret.mk rfl rfl
theorem leftV_nil (m : Nat) (w : World) : Calls prog 139 #[nilS, .int .i64 m, .func (.func 140) #[] #[]] w (Ret nilS w) := by
 unfold nilS
 go_enter func139, ntmps139
 go_wp2_with fail
 refine wp_loop_rounds 1 ?_
 rw [rounds_succ]
 go_wp2_with fail
 go_ret
 exact Ret.mk rfl rfl
theorem leftH_nil (g : Nat) (c : Nat) (w : World) : Calls prog 187 #[.slice (some ⟨g, 0, none⟩) 0 c, .int .i64 0, .func (.func 188) #[] #[]] w (Ret nilS w) := by
 unfold nilS
 go_enter func187, ntmps187
 go_wp2_with fail
 refine wp_loop_rounds 1 ?_
 rw [rounds_succ]
 go_wp2_with fail
 go_ret
 exact Ret.mk rfl rfl
theorem heldHosts_nil (w : World) : Calls prog 138 #[nilS] w (RetB nilS w) := by
 have hmk : ∀ w, (Instr.makeSlice 167 (.int .i64 0) (.int .i64 0)).run prog w = .ok (.slice (some ⟨w.heap.size, 0, none⟩) 0 0) (w.alloc (.cells #[] 226)) := fun _ => by kernel_rfl
 have HN := Hh (fun g W => leftH_nil g 0 W)
 have HB : Below w.heap.size w (w.alloc (.cells #[] 226)) := (Below.refl _ _).alloc (Nat.le_refl _) _
 unfold nilS at HN ⊢
 go_enter func138, ntmps138
 go_wp2_with fail
 refine wp_loop_rounds 1 ?_
 rw [rounds_succ]
 go_wp2_with fail
 refine (HN.out _ _).mono ?_
 rintro _ w2 ⟨rfl, rfl⟩
 go_wp2_with fail
 go_ret
 exact RetB.mk rfl HB
def SrcRet (w : World) (e : Ending) (w' : World) : Prop := ∃ A n c, e = .returned (.slice A n c) ∧ Below w.heap.size w w'
def srcC (k : Int) : List Value := [.int .i64 k, .bool true, .bool false, .bool false, .bool false]
theorem srcI5 : (prog.info? 242).map (·.size) = some 5 := by kernel_rfl
theorem source_any (k : Int) (w : World) : Calls prog 186 #[.int .i64 k] w (RetB (.agg (srcC k).toArray) w) := by
 go_enter func186, ntmps186
 go_wp2_with fail
 refine ret_cell rfl w.heap.size rfl (L := srcC k) ((Blk.new w 242 (srcC k)).alloc _) _ underlying242 rfl srcI5 rfl ?_
 exact RetB.mk rfl (((Below.refl _ _).alloc (Nat.le_refl _) _).alloc (by simp) _)
theorem plain_any (w : World) : Calls prog 137 #[] w (SrcRet w) := by
 have S := Hh (fun k W => source_any k W)
 unfold srcC at S
 go_enter func137, ntmps137
 go_wp2_with fail
 refine (S.out 1 _).mono ?_
 rintro _ w1 ⟨rfl, b1⟩
 go_wp2_with fail
 refine (S.out 2 _).mono ?_
 rintro _ w2 ⟨rfl, b2⟩
 go_wp2_with fail
 go_ret
 exact ⟨_, _, _, rfl, (below_then b1 b1.size b2).alloc (by have := b1.size; have := b2.size; omega) _⟩
theorem cfgI13 : (prog.info? 171).map (·.size) = some 13 := by kernel_rfl
theorem rsI10 : (prog.info? 69).map (·.size) = some 10 := by kernel_rfl
theorem RsO.one {w0 w : World} {cs : List Value} {r : Rs} (h : RsO w0 w cs r) : ∀ v ∈ cs, v.oneCell' = true := by
 obtain ⟨v1, v2, v3, rfl, h1, h2, h3⟩ := h
 obtain ⟨A1, c1, rfl⟩ := h1.form
 obtain ⟨A2, c2, rfl⟩ := h2.form
 obtain ⟨A3, c3, rfl⟩ := h3.form
 intro v hv
 simp only [rsC, List.mem_cons, List.not_mem_nil, or_false] at hv
 rcases hv with rfl | rfl | rfl | rfl | rfl | rfl | rfl | rfl | rfl | rfl <;> rfl
set_option maxHeartbeats 2000000 in
theorem setHeld_any (w0 : World) (cs : List Value) (r : Rs) (w : World) (h : RsIs w0 cs r) (hw : Below w0.heap.size w0 w) : Calls prog 87 #[.agg (cs ++ [nilS, nilS, nilS]).toArray] w (HeldRet w0 r w) := by
 obtain ⟨A1, c1, A2, c2, A3, c3, rfl, h1, h2, h3, l1, l2, l3⟩ := h
 have L1 : Hid (∀ W, Below w.heap.size w W → Calls prog 127 #[.slice A1 r.sv.length c1, .int .i64 3, .func (.func 128) #[] #[]] W (LeftRet 24 18 (fun _ => AdI) (leftP adOk r.sv 3) W)) := Hh (fun W hb => leftA_any A1 c1 r.sv 3 W (h1.mono (below_then hw hw.size hb) (fun _ _ h => h)) l1 (by decide))
 have L2 : Hid (∀ W, Below w.heap.size w W → Calls prog 130 #[.slice A2 r.se.length c2, .int .i64 6, .func (.func 131) #[] #[]] W (LeftRet 26 1 (fun _ => NmI w0) (leftP nmOk r.se 6) W)) := Hh (fun W hb => leftN_any w0 A2 c2 r.se 6 W h2 (below_then hw hw.size hb) l2 (by decide))
 have L3 : Hid (∀ W, Below w.heap.size w W → Calls prog 132 #[.slice A3 r.so.length c3, .int .i64 10, .func (.func 133) #[] #[]] W (LeftRet 236 19 (fun _ => PfI) (leftP pfOk r.so 10) W)) := Hh (fun W hb => leftF_any A3 c3 r.so 10 W (h3.mono (below_then hw hw.size hb) (fun _ _ h => h)) l3 (by decide))
 obtain ⟨hr1, HR1⟩ : ∃ x, Hid (heldR r = x) := ⟨_, Hh rfl⟩
 have HR : Hid (heldR r = { r with sv := if leftP adOk r.sv 3 = [] then [quadA 127 0 0 1] else leftP adOk r.sv 3, se := leftP nmOk r.se 6, so := leftP pfOk r.so 10, nd := min (max r.nd 0) 15, tmo := min (max r.tmo 1) 30, at_ := min (max r.at_ 1) 5 }) := Hh rfl
 clear h1 h2 h3 l1 l2 l3 HR1 hr1 hw
 generalize leftP adOk r.sv 3 = s1 at *
 generalize leftP nmOk r.se 6 = s2 at *
 generalize leftP pfOk r.so 10 = s3 at *
 obtain ⟨svs, ses, sos, nd, tmo, att, ro, vc, si, ed⟩ := r
 simp only at L1 L2 L3 HR
 simp only [rsC, List.cons_append, List.nil_append]
 generalize svs.length = n1 at *
 generalize ses.length = n2 at *
 generalize sos.length = n3 at *
 unfold nilS
 go_enter func87, ntmps87
 go_wp2_with fail
 obtain ⟨X, hX⟩ : ∃ X, X = ((w.alloc (.cells #[.slice A1 n1 c1, .slice A2 n2 c2, .slice A3 n3 c3, .int .i64 nd, .int .i64 tmo, .int .i64 att, .bool ro, .bool vc, .bool si, .bool ed, .slice none 0 0, .slice none 0 0, .slice none 0 0] 171)).alloc (.cells #[.slice none 0 0, .slice none 0 0, .slice none 0 0, .int .i64 0, .int .i64 0, .int .i64 0, .bool false, .bool false, .bool false, .bool false, .slice none 0 0, .slice none 0 0, .slice none 0 0] 171)).alloc (.cells #[.slice A1 n1 c1, .slice A2 n2 c2, .slice A3 n3 c3, .int .i64 nd, .int .i64 tmo, .int .i64 att, .bool ro, .bool vc, .bool si, .bool ed] 69) := ⟨_, rfl⟩
 rw [← hX]
 have HX : Below w.heap.size w X := by rw [hX]; exact (((Below.refl _ _).alloc (Nat.le_refl _) _).alloc (by simp) _).alloc (by simp; omega) _
 obtain ⟨cz, hcz⟩ : ∃ cz : List Value, cz = [.slice none 0 0, .slice none 0 0, .slice none 0 0, .int .i64 0, .int .i64 0, .int .i64 0, .bool false, .bool false, .bool false, .bool false, .slice none 0 0, .slice none 0 0, .slice none 0 0] := ⟨_, rfl⟩
 have C1 : Blk X w.heap.size 171 [.slice A1 n1 c1, .slice A2 n2 c2, .slice A3 n3 c3, .int .i64 nd, .int .i64 tmo, .int .i64 att, .bool ro, .bool vc, .bool si, .bool ed, .slice none 0 0, .slice none 0 0, .slice none 0 0] := by rw [hX]; exact ((Blk.new w _ _).alloc _).alloc _
 have C2 : Blk X (w.heap.size + 1) 171 cz := by rw [hX, hcz]; exact (Blk.new' _ _ _ _ (by simp)).alloc _
 have C3 : Blk X (w.heap.size + 1 + 1) 69 [.slice A1 n1 c1, .slice A2 n2 c2, .slice A3 n3 c3, .int .i64 nd, .int .i64 tmo, .int .i64 att, .bool ro, .bool vc, .bool si, .bool ed] := by rw [hX]; exact Blk.new' _ _ _ _ (by simp)
 have hz13 : cz.length = 13 := by rw [hcz]; rfl
 obtain ⟨cl, hcl⟩ : ∃ cl : List Value, cl = [.slice A1 n1 c1, .slice A2 n2 c2, .slice A3 n3 c3, .int .i64 nd, .int .i64 tmo, .int .i64 att, .bool ro, .bool vc, .bool si, .bool ed, .slice none 0 0, .slice none 0 0, .slice none 0 0] := ⟨_, rfl⟩
 rw [← hcl] at C1
 have k10 : cl[10]? = some (.slice none 0 0) := by rw [hcl]; rfl
 have k11 : cl[11]? = some (.slice none 0 0) := by rw [hcl]; rfl
 have k12 : cl[12]? = some (.slice none 0 0) := by rw [hcl]; rfl
 have h13 : w.heap.size ≠ w.heap.size + 1 + 1 := by omega
 have h23 : w.heap.size + 1 ≠ w.heap.size + 1 + 1 := by omega
 have h12 : w.heap.size < w.heap.size + 1 := by omega
 have hlo : w.heap.size ≤ w.heap.size + 1 + 1 := by omega
 clear hX hcz hcl
 refine (L1.out _ HX).mono ?_
 rintro _ w1 ⟨v1, rfl, o1, b1⟩
 replace C1 := C1.below b1 C1.lt
 replace C2 := C2.below b1 C2.lt
 replace C3 := C3.below b1 C3.lt
 have H1 := below_then HX HX.size b1
 replace o1 := LOwn.zero o1
 clear b1 L1 HX
 obtain ⟨S1, hS1⟩ : ∃ S1, Hid ((if s1 = [] then [quadA 127 0 0 1] else s1) = S1) := ⟨_, Hh rfl⟩
 rw [hS1.out] at HR
 generalize w.heap.size + 1 + 1 = g3 at *
 generalize w.heap.size + 1 = g2 at *
 obtain ⟨Av, cv, hv⟩ := o1.form
 subst hv
 have d0 := C3.cell_ 0 rfl
 have f0 := C3.frozen 0
 go_upto_if 14 with fail
 go_cut [] (fun wx => ∃ v, AdsO wx 0 v S1 ∧ Blk wx w.heap.size 171 cl ∧ Blk wx g2 171 cz ∧ Blk wx g3 69 [v, .slice A2 n2 c2, .slice A3 n3 c3, .int .i64 nd, .int .i64 tmo, .int .i64 att, .bool ro, .bool vc, .bool si, .bool ed] ∧ Below w.heap.size w wx)
 case first =>
  by_cases hs : s1 = []
  case pos =>
   subst hs
   have hq : S1 = [quadA 127 0 0 1] := by rw [← hS1.out, if_pos rfl]
   have QO : Hid (∀ W, Calls prog 129 #[.int .u8 127, .int .u8 0, .int .u8 0, .int .u8 1] W (RetB (.agg (quadA 127 0 0 1).cells.toArray) W)) := Hh (fun W => quadOf_any 127 0 0 1 W)
   have HQ := Hh hq
   have hql : (quadA 127 0 0 1).cells.length = 18 := rfl
   have hqo : ∀ v ∈ (quadA 127 0 0 1).cells, v.oneCell' = true := Adr.cells_one _
   have HI : Hid (AdI (quadA 127 0 0 1).cells (quadA 127 0 0 1)) := Hh ⟨rfl, rfl⟩
   clear hq hS1 HR
   generalize quadA 127 0 0 1 = qa at *
   generalize qa.cells = qc at *
   go_wp2_with fail
   refine (QO.out _).mono ?_
   rintro _ w2 ⟨rfl, b2⟩
   have G1 := grown_cell1 w1 g3 0 (.slice Av 0 cv)
   have E1 := (C1.far (p := ⟨g3, 0, none⟩) h13 (.slice Av 0 cv)).below b2 (C1.far (p := ⟨g3, 0, none⟩) h13 _).lt
   have E2 := (C2.far (p := ⟨g3, 0, none⟩) h23 (.slice Av 0 cv)).below b2 (C2.far (p := ⟨g3, 0, none⟩) h23 _).lt
   have E3 := (C3.set 0 (.slice Av 0 cv)).below b2 (C3.set 0 _).lt
   simp only [List.set_cons_zero] at E3
   have H2 := below_then (below_grown H1 G1 H1.size hlo) (by simp [World.setCell]; exact H1.size) b2
   clear QO b2 G1 C1 C2 C3 d0 f0 L2 L3 o1
   go_wp2_with (refine at_op (.buildSlice 65 1 #[(0, .tmp 15)]) rfl ?_; go_must (refine wpList_bsN rfl 65 24 _ 18 32 underlying65 adInfo3 (by decide) (by decide) (.tmp 15) rfl qc rfl hql ?_))
   intro w3 B4 KA
   have O5 := LOwn.one 18 B4 hql HI.out
   replace E1 := E1.below KA E1.lt
   replace E2 := E2.below KA E2.lt
   replace E3 := E3.below KA E3.lt
   have H3 := below_then H2 H2.size KA
   have e30 := E3.cell_ 0 rfl
   have e3f := E3.frozen 0
   clear HI KA H2 B4
   go_wp2_with fail
   go_meet
   case rel =>
    refine ⟨_, ?_, E1.far h13 _, E2.far h23 _, E3.set 0 _, below_grown H3 (grown_cell1 _ _ _ _) H3.size hlo⟩
    rw [HQ.out]
    exact O5.blk (grown_cell1 _ _ _ _) E3 (by decide)
  case neg =>
   have hs0 : 0 < s1.length := by cases s1 with | nil => exact absurd rfl hs | cons _ _ => simp
   have hs1 : ((s1.length : Int) == 0) = false := by simp; exact hs
   have hq : S1 = s1 := by rw [← hS1.out, if_neg hs]
   have HQ := Hh hq
   clear hq hS1 HR hs
   obtain ⟨ln, hln⟩ : ∃ ln, Hid (s1.length = ln) := ⟨_, Hh rfl⟩
   rw [hln.out] at o1 hs0 hs1 ⊢
   go_wp2_with fail
   go_meet
   case rel =>
    refine ⟨_, ?_, C1.far h13 _, C2.far h23 _, C3.set 0 _, below_grown H1 (grown_cell1 _ _ _ _) H1.size hlo⟩
    rw [HQ.out]
    exact o1.blk (grown_cell1 _ _ _ _) C3 (by decide)
 case rest =>
  obtain ⟨v1, p1, E1, E2, E3, H2⟩ := hcut
  clear C1 C2 C3 d0 f0 H1 o1 hS1
  generalize wc = w2 at *
  have d1 := E3.cell_ 1 rfl
  obtain ⟨Aw, cw, hv⟩ := p1.form
  subst hv
  go_wp2_with fail
  refine (L2.out _ H2).mono ?_
  rintro _ w3 ⟨v2, rfl, o2, b3⟩
  replace p1 := LOwn.below (R' := AdI) p1 b3 (fun _ _ h => h)
  have F1 := E1.below b3 E1.lt
  have F2 := E2.below b3 E2.lt
  have F3 := E3.below b3 E3.lt
  have H3 := below_then H2 H2.size b3
  replace o2 := LOwn.zero o2
  obtain ⟨Ax, cx, hv⟩ := o2.form
  subst hv
  have d2 := F3.cell_ 2 rfl
  have e1 := F3.cell_ 1 rfl
  have ef := F3.frozen 1
  clear L2 b3 E1 E2 E3 d1 H2
  go_wp2_with fail
  refine (L3.out _ (below_grown H3 (grown_cell1 _ _ _ _) H3.size hlo)).mono ?_
  rintro _ w4 ⟨v3, rfl, o3, b4⟩
  have K3 := grown_cell1 w3 g3 1 (.slice Ax s2.length cx)
  have G1 := (F1.far (p := ⟨g3, 1, none⟩) h13 (.slice Ax s2.length cx)).below b4 (F1.far (p := ⟨g3, 1, none⟩) h13 _).lt
  have G2 := (F2.far (p := ⟨g3, 1, none⟩) h23 (.slice Ax s2.length cx)).below b4 (F2.far (p := ⟨g3, 1, none⟩) h23 _).lt
  have G3 := (F3.set 1 (.slice Ax s2.length cx)).below b4 (F3.set 1 _).lt
  replace p1 := LOwn.below (R' := AdI) (p1.blk K3 F3 (by decide)) b4 (fun _ _ h => h)
  replace o2 := LOwn.below (R' := NmI w0) (o2.blk K3 F3 (by decide)) b4 (fun _ _ h => h)
  replace o3 := LOwn.zero o3
  have H4 := below_then (below_grown H3 K3 H3.size hlo) (by simp [World.setCell]; exact H3.size) b4
  simp only [List.set_cons_zero, List.set_cons_succ] at G3
  obtain ⟨Ay, cy, hv⟩ := o3.form
  subst hv
  have d2 := G3.cell_ 2 rfl
  have d3 := G3.cell_ 3 rfl
  have d4 := G3.cell_ 4 rfl
  have d5 := G3.cell_ 5 rfl
  have f2 := G3.frozen 2
  have f3 := G3.frozen 3
  have f4 := G3.frozen 4
  have f5 := G3.frozen 5
  have d11 := G1.cell_ 11 k11
  clear K3 b4 F1 F2 F3 e1 ef L3 H3
  go_wp2_with fail
  refine (heldN_any nd 0 15 _).mono ?_
  rintro _ _ ⟨rfl, rfl⟩
  go_wp2_with fail
  refine (heldN_any tmo 1 30 _).mono ?_
  rintro _ _ ⟨rfl, rfl⟩
  go_wp2_with fail
  refine (heldN_any att 1 5 _).mono ?_
  rintro _ _ ⟨rfl, rfl⟩
  go_wp2_with fail
  have LS : Hid (∀ W, Calls prog 135 #[.slice none 0 0, .int .i64 8, .func (.func 136) #[] #[]] W (Ret (.slice none 0 0) W)) := Hh (fun W => leftS_nil 8 W)
  have HH : Hid (∀ W, Calls prog 138 #[.slice none 0 0] W (RetB (.slice none 0 0) W)) := Hh (fun W => heldHosts_nil W)
  have LV : Hid (∀ W, Calls prog 139 #[.slice none 0 0, .int .i64 0, .func (.func 140) #[] #[]] W (Ret (.slice none 0 0) W)) := Hh (fun W => leftV_nil 0 W)
  refine (LS.out _).mono ?_
  rintro _ _ ⟨rfl, rfl⟩
  go_wp2_with fail
  refine (plain_any _).mono ?_
  rintro _ w5 ⟨Az, nz, cz', rfl, b5⟩
  have Q1 := G1.far (p := ⟨g3, 2, none⟩) h13 (.slice Ay s3.length cy) |>.far (p := ⟨g3, 3, none⟩) h13 (.int .i64 (min (max nd 0) 15)) |>.far (p := ⟨g3, 4, none⟩) h13 (.int .i64 (min (max tmo 1) 30)) |>.far (p := ⟨g3, 5, none⟩) h13 (.int .i64 (min (max att 1) 5))
  have Q2 := G2.far (p := ⟨g3, 2, none⟩) h23 (.slice Ay s3.length cy) |>.far (p := ⟨g3, 3, none⟩) h23 (.int .i64 (min (max nd 0) 15)) |>.far (p := ⟨g3, 4, none⟩) h23 (.int .i64 (min (max tmo 1) 30)) |>.far (p := ⟨g3, 5, none⟩) h23 (.int .i64 (min (max att 1) 5))
  have Q3 := G3.set 2 (.slice Ay s3.length cy) |>.set 3 (.int .i64 (min (max nd 0) 15)) |>.set 4 (.int .i64 (min (max tmo 1) 30)) |>.set 5 (.int .i64 (min (max att 1) 5))
  simp only [List.set_cons_zero, List.set_cons_succ] at Q3
  have KQ : w4.grownBy _ (some g3) := grown_set (grown_set (grown_set (grown_cell1 w4 g3 2 (.slice Ay s3.length cy)) 3 (.int .i64 (min (max nd 0) 15))) 4 (.int .i64 (min (max tmo 1) 30))) 5 (.int .i64 (min (max att 1) 5))
  replace p1 := LOwn.below (R' := AdI) (p1.blk KQ G3 (by decide)) b5 (fun _ _ h => h)
  replace o2 := LOwn.below (R' := NmI w0) (o2.blk KQ G3 (by decide)) b5 (fun _ _ h => h)
  replace o3 := LOwn.below (R' := PfI) (o3.blk KQ G3 (by decide)) b5 (fun _ _ h => h)
  have H5 := below_then (below_grown H4 KQ H4.size hlo) (by simp [World.setCell]; exact H4.size) b5
  replace Q1 := Q1.below b5 Q1.lt
  replace Q2 := Q2.below b5 Q2.lt
  replace Q3 := Q3.below b5 Q3.lt
  clear KQ b5 G1 G2 G3 d2 d3 d4 d5 f2 f3 f4 f5 d11 H4 LS
  go_wp2_with fail
  obtain ⟨R, hR⟩ : ∃ R : List Value, R = [.slice Aw S1.length cw, .slice Ax s2.length cx, .slice Ay s3.length cy, .int .i64 (min (max nd 0) 15), .int .i64 (min (max tmo 1) 30), .int .i64 (min (max att 1) 5), .bool ro, .bool vc, .bool si, .bool ed] := ⟨_, rfl⟩
  rw [← hR] at Q3
  have hRl : R.length = 10 := by rw [hR]; rfl
  have RO : Hid (∀ W W', Below w5.heap.size w5 W → W.grownBy W' (some g2) → Blk W g2 171 cz → RsO w0 W' R (heldR ⟨svs, ses, sos, nd, tmo, att, ro, vc, si, ed⟩)) := Hh (fun W W' hb hg hk => by
   rw [HR.out]
   exact ⟨_, _, _, hR, (LOwn.below (R' := AdI) p1 hb (fun _ _ h => h)).blk hg hk (by decide), (LOwn.below (R' := NmI w0) o2 hb (fun _ _ h => h)).blk hg hk (by decide), (LOwn.below (R' := PfI) o3 hb (fun _ _ h => h)).blk hg hk (by decide)⟩)
  have RON : Hid (∀ v ∈ R, v.oneCell' = true) := Hh (fun v hv => by
   rw [hR] at hv
   simp only [List.mem_cons, List.not_mem_nil, or_false] at hv
   rcases hv with rfl | rfl | rfl | rfl | rfl | rfl | rfl | rfl | rfl | rfl <;> rfl)
  have RB : Hid (∀ W, (Instr.build 171 #[(0, .agg R.toArray), (1, .slice none 0 0), (2, .slice Az nz cz'), (3, .slice none 0 0)]).run prog W = .ok (.agg (R ++ [Value.slice none 0 0, Value.slice Az nz cz', Value.slice none 0 0]).toArray) W) := Hh (fun W => by rw [hR]; kernel_rfl)
  clear hR HR p1 o2 o3
  refine wp_region_held_drew (S := fun V => Blk V w.heap.size 171 cl ∧ Blk V g3 69 R) (by kernel_rfl) ⟨Q1.drew, Q3.drew⟩ (fun hS => ?_)
  have HD : Below w5.heap.size w5 w5.drew := (Below.refl _ _).drew
  refine held_seq hS 9 [0,1,2,4,5,6,7,8,9] rfl (by kernel_rfl) (fun _ _ _ _ _ h => h) rfl rfl ?_
  (refine ⟨_, _, rfl, .inl ⟨rfl, fun V hV => (exec_ld 69 (.tmp 3) ⟨g3, 0, none⟩ rfl rfl (hV.2.loads 69 0 10 (by omega) _ underlying69 rfl rsI10 R (tk0 (by omega))))⟩, ?_⟩; simp only [Act.put, lsA, lsB, lsC])
  repeat (refine ⟨_, _, rfl, .inl ⟨rfl, fun W hW => rfl⟩, ?_⟩; simp only [Act.put, lsA, lsB, lsC])
  (refine ⟨_, _, rfl, .inl ⟨rfl, fun V hV => (exec_ld 167 (.tmp 46) ⟨w.heap.size, 10, none⟩ rfl rfl (run_load1 underlying167 rfl (hV.1.cell_ 10 k10)))⟩, ?_⟩; simp only [Act.put, lsA, lsB, lsC])
  repeat (refine ⟨_, _, rfl, .inl ⟨rfl, fun W hW => rfl⟩, ?_⟩; simp only [Act.put, lsA, lsB, lsC])
  (refine ⟨_, _, rfl, .inl ⟨rfl, fun V hV => (exec_ld 169 (.tmp 50) ⟨w.heap.size, 12, none⟩ rfl rfl (run_load1 underlying169 rfl (hV.1.cell_ 12 k12)))⟩, ?_⟩; simp only [Act.put, lsA, lsB, lsC])
  repeat (refine ⟨_, _, rfl, .inl ⟨rfl, fun W hW => rfl⟩, ?_⟩; simp only [Act.put, lsA, lsB, lsC])
  (refine ⟨_, _, rfl, .inl ⟨rfl, fun V hV => (exec_ld 169 (.tmp 52) ⟨w.heap.size, 12, none⟩ rfl rfl (run_load1 underlying169 rfl (hV.1.cell_ 12 k12)))⟩, ?_⟩; simp only [Act.put, lsA, lsB, lsC])
  (refine ⟨_, (.int .i64 0), rfl, .inl ⟨rfl, fun V hV => (by kernel_rfl)⟩, ?_⟩; simp only [Act.put, lsA, lsB, lsC])
  simp only [SeqC]
  refine held_call 3 (some 48) 138 #[.slice none 0 0] (by kernel_rfl) rfl rfl (by kernel_rfl) (by go_simp) (HH.out _) ?_
  rintro _ w6 ⟨rfl, b6⟩
  have hS : Blk w6 w.heap.size 171 cl ∧ Blk w6 g3 69 R := ⟨hS.1.below b6 hS.1.lt, hS.2.below b6 hS.2.lt⟩
  have HD := below_then HD HD.size b6
  refine ⟨_, rfl, hS, ?_⟩
  simp only [Act.put, lsA, lsB, lsC]
  refine held_call 10 (some 55) 139 #[.slice none 0 0, .int .i64 0, .func (.func 140) #[] #[]] (by kernel_rfl) rfl rfl (by kernel_rfl) (by go_simp) (LV.out _) ?_
  rintro _ _ ⟨rfl, rfl⟩
  refine ⟨_, rfl, hS, ?_⟩
  simp only [Act.put, lsA, lsB, lsC]
  refine held_seq hS 1 [11] rfl (by kernel_rfl) (fun _ _ _ _ _ h => h) rfl rfl ?_
  (refine ⟨_, (.agg (R ++ [Value.slice none 0 0, Value.slice Az nz cz', Value.slice none 0 0]).toArray), rfl, .inl ⟨rfl, fun V hV => (exec_bld 171 _ rfl #[(0, .agg R.toArray), (1, .slice none 0 0), (2, .slice Az nz cz'), (3, .slice none 0 0)] (by kernel_rfl) (RB.out V))⟩, ?_⟩; simp only [Act.put, lsA, lsB, lsC])
  simp only [SeqC]
  have hone : ∀ v ∈ R ++ [Value.slice none 0 0, Value.slice Az nz cz', Value.slice none 0 0], v.oneCell' = true := by
   intro v hv
   rcases List.mem_append.1 hv with h | h
   ·
    exact RON.out v h
   ·
    simp only [List.mem_cons, List.not_mem_nil, or_false] at h
    rcases h with rfl | rfl | rfl <;> rfl
  have hfl : (R ++ [Value.slice none 0 0, Value.slice Az nz cz', Value.slice none 0 0]).length = 13 := by simp [hRl]
  refine held_stB 12 none 171 (.tmp 2) (.tmp 56) (by kernel_rfl) rfl rfl rfl (by kernel_rfl) g2 0 rfl (R ++ [Value.slice none 0 0, Value.slice Az nz cz', Value.slice none 0 0]) rfl (Q2.below HD Q2.lt) (by omega) (by rw [hfl]; exact cfgI13) hone ?_
  intro w7 B7 g7 s7
  rw [List.take_zero, List.nil_append, Nat.zero_add] at B7
  have B7' := blkAll B7 (by omega)
  have H7 := below_grown (below_then H5 H5.size HD) g7 (by have := H5.size; have := HD.size; omega) (Nat.le_of_lt h12)
  have RF := Hh (RO.out _ _ HD g7 (Q2.below HD Q2.lt))
  refine ⟨⟨hS.1.grown g7 (by simp; omega), hS.2.grown g7 (by simp; omega)⟩, ?_⟩
  simp only [Act.put, lsA, lsB, lsC]
  refine wpAnyH_done (by kernel_rfl) ?_ _
  go_wp2_with fail
  refine ret_cell rfl g2 rfl B7' _ underlying171 rfl (by rw [hfl]; exact cfgI13) rfl ?_
  exact ⟨R, _, _, _, rfl, RF.out, H7⟩
def RsRet (w0 : World) (r : Rs) (w : World) (e : Ending) (w' : World) : Prop := ∃ cs, e = .returned (.agg cs.toArray) ∧ RsO w0 w' cs r ∧ Below w.heap.size w w'
theorem RsO.len {w0 w : World} {cs : List Value} {r : Rs} (h : RsO w0 w cs r) : cs.length = 10 := by obtain ⟨_, _, _, rfl, _⟩ := h; rfl
theorem RsIs.len {w : World} {cs : List Value} {r : Rs} (h : RsIs w cs r) : cs.length = 10 := by obtain ⟨_, _, _, _, _, _, rfl, _⟩ := h; rfl
theorem RsIs.below {w w' : World} {cs : List Value} {r : Rs} (h : RsIs w cs r) (hb : Below w.heap.size w w') : RsIs w' cs r := by
 obtain ⟨A1, c1, A2, c2, A3, c3, h0, h1, h2, h3, l⟩ := h
 exact ⟨A1, c1, A2, c2, A3, c3, h0, h1.mono hb (fun _ _ h => h), nms_below h2 hb, h3.mono hb (fun _ _ h => h), l⟩
theorem RsO.below {w0 w w' : World} {cs : List Value} {r : Rs} (h : RsO w0 w cs r) (hb : Below w.heap.size w w') : RsO w0 w' cs r := by
 obtain ⟨v1, v2, v3, h0, h1, h2, h3⟩ := h
 exact ⟨v1, v2, v3, h0, LOwn.below h1 hb (fun _ _ h => h), LOwn.below h2 hb (fun _ _ h => h), LOwn.below h3 hb (fun _ _ h => h)⟩
theorem RsO.fr {S : Nat → Prop} {w0 w w' : World} {cs : List Value} {r : Rs} (h : RsO w0 w cs r) (hb : Fr S w w') : RsO w0 w' cs r := by
 obtain ⟨v1, v2, v3, h0, h1, h2, h3⟩ := h
 have k : ∀ e : TypeId, ¬ StTy e → ∀ {s n v xs}, w.ownsRow 0 e s v n xs → w'.ownsRow 0 e s v n xs := fun e he _ _ _ _ x => hb.own x he
 exact ⟨v1, v2, v3, h0, h1.stays (fun _ x => k _ (by unfold StTy; decide) x) (fun _ _ h => h), h2.stays (fun _ x => k _ (by unfold StTy; decide) x) (fun _ _ h => h), h3.stays (fun _ x => k _ (by unfold StTy; decide) x) (fun _ _ h => h)⟩
theorem RsO.is {w0 w : World} {cs : List Value} {r : Rs} (h : RsO w0 w cs r) (hw : Below w0.heap.size w0 w) (l1 : r.sv.length ≤ 17592186044416) (l2 : r.se.length ≤ 17592186044416) (l3 : r.so.length ≤ 17592186044416) : RsIs w cs r := by
 obtain ⟨v1, v2, v3, h0, h1, h2, h3⟩ := h
 obtain ⟨A1, c1, rfl⟩ := h1.form
 obtain ⟨A2, c2, rfl⟩ := h2.form
 obtain ⟨A3, c3, rfl⟩ := h3.form
 refine ⟨A1, c1, A2, c2, A3, c3, h0, h1.lin (fun _ _ h => h.len), ?_, h3.lin (fun _ _ h => by rw [h.1]; exact pfC_len h.2), l1, l2, l3⟩
 intro hp
 obtain ⟨b, off, k1, k2, k3⟩ := h2.lin (fun _ _ ⟨_, _, h, _⟩ => by rw [h]; rfl) hp
 refine ⟨b, off, k1, k2, fun i hi => ?_⟩
 obtain ⟨cs, k4, A, c, rfl, k5⟩ := k3 i hi
 exact ⟨A, c, by have := k4 0 _ rfl; simpa using this, k5.below hw⟩
theorem rs_build (A1 A2 A3 : Option Addr) (n1 c1 n2 c2 n3 c3 : Nat) (r : Rs) (W : World) : (Instr.build 171 #[(0, .agg (rsC (.slice A1 n1 c1) (.slice A2 n2 c2) (.slice A3 n3 c3) r).toArray)]).run prog W = .ok (.agg (rsC (.slice A1 n1 c1) (.slice A2 n2 c2) (.slice A3 n3 c3) r ++ [nilS, nilS, nilS]).toArray) W := by kernel_rfl
theorem fill_10v (a b c d e f g h i j v1 v2 v3 : Value) (W : World) : (Instr.field 171 (.agg ([a, b, c, d, e, f, g, h, i, j] ++ [v1, v2, v3]).toArray) 0).run prog W = .ok (.agg [a, b, c, d, e, f, g, h, i, j].toArray) W := by kernel_rfl
theorem fill_10 (cs : List Value) (h : cs.length = 10) (v1 v2 v3 : Value) (W : World) : (Instr.field 171 (.agg (cs ++ [v1, v2, v3]).toArray) 0).run prog W = .ok (.agg cs.toArray) W := by
 match cs, h with
 | [a, b, c, d, e, f, g, h, i, j], _ => exact fill_10v ..
theorem wpList_fld {P : Program} {ops : Array Oper} {rest : List Oper} {o : Oper} {a : Act} {w : World} {Q : Exit → Act → World → Prop} (hgd : o.guard = none) (t : TypeId) (x : Operand) (f : Nat) (ho : o.op = .field t x f) {v v' : Value} (hx : a.eval x = v) (hr : (Instr.field t v f).run P w = .ok v' w) (h : wpList P ops Q rest (a.put o.dst v') w) : wpList P ops Q (o :: rest) a w := by
 refine wpList_plain hgd fun K hK => ?_
 unfold Oper.wp execOp
 simp only [ho, hx, Sem.run_bind, hr, Result.andThen_ok, Sem.run_pure]
 exact hK _ _ h
theorem planHeld_any (w0 : World) (cs : List Value) (r : Rs) (w : World) (h : RsIs w0 cs r) (hw : Below w0.heap.size w0 w) : Calls prog 96 #[.agg cs.toArray] w (RsRet w0 (heldR r) w) := by
 have hl := h.len
 have HD := Hh (fun W hb => setHeld_any w0 cs r W h (below_then hw hw.size hb))
 have RB : Hid (∀ W, (Instr.build 171 #[(0, .agg cs.toArray)]).run prog W = .ok (.agg (cs ++ [nilS, nilS, nilS]).toArray) W) := Hh (fun W => by obtain ⟨A1, c1, A2, c2, A3, c3, rfl, _⟩ := h; exact rs_build ..)
 clear h hw
 have HX : Below w.heap.size w ((w.alloc (.cells cs.toArray 69)).alloc (.cells (rsC nilS nilS nilS ⟨[], [], [], 0, 0, 0, false, false, false, false⟩).toArray 69)) := ((Below.refl _ _).alloc (Nat.le_refl _) _).alloc (by simp) _
 have B1 := (Blk.new w 69 cs).alloc (.cells (rsC nilS nilS nilS ⟨[], [], [], 0, 0, 0, false, false, false, false⟩).toArray 69)
 have B2 := Blk.new' (w.alloc (.cells cs.toArray 69)) 69 (rsC nilS nilS nilS ⟨[], [], [], 0, 0, 0, false, false, false, false⟩) (w.heap.size + 1) (by simp)
 have hz : (rsC nilS nilS nilS ⟨[], [], [], 0, 0, 0, false, false, false, false⟩).length = 10 := rfl
 have hg : w.heap.size ≤ w.heap.size + 1 := by omega
 obtain ⟨W0, hW⟩ : ∃ W0, W0 = (w.alloc (.cells cs.toArray 69)).alloc (.cells (rsC nilS nilS nilS ⟨[], [], [], 0, 0, 0, false, false, false, false⟩).toArray 69) := ⟨_, rfl⟩
 have HW := Hh hW
 rw [← hW] at HX B1 B2
 clear hW
 go_enter func96, ntmps96
 go_wp2_with (first
  | (refine at_op (.load 69 (.tmp 1)) rfl ?_; go_must (refine wpList_ldB rfl _ _ rfl w.heap.size 0 rfl ((Blk.new w 69 cs).alloc _) 10 (by omega) _ underlying69 rfl rsI10 cs (tk0 (by omega)) ?_))
  | (refine at_op (.build 171 #[(0, .tmp 3)]) rfl ?_; go_must (refine wpList_bld rfl 171 _ rfl #[(0, .agg cs.toArray)] (by simp [Act.eval, Act.put]) (RB.out _) ?_)))
 refine (HD.out _ (by rw [HW.out] at HX; exact HX)).mono ?_
 rintro _ w1 ⟨cs1, v1, v2, v3, rfl, ho, b1⟩
 have b1' : Below W0.heap.size W0 w1 := by rw [HW.out]; exact b1
 have B2' := B2.below b1' B2.lt
 have H1 := below_then HX HX.size b1'
 have hl1 := ho.len
 have ho1 := Hh ho.one
 have HO := Hh ho
 clear b1 b1' B1 B2 ho HX HW HD RB
 generalize w.heap.size + 1 = g2 at *
 go_wp2_with (first
  | (refine at_op (.field 171 (.tmp 5) 0) rfl ?_; go_must (refine wpList_fld rfl 171 (.tmp 5) 0 rfl rfl (fill_10 cs1 hl1 v1 v2 v3 _) ?_))
  | (refine at_op (.store 69 (.tmp 2) (.tmp 6)) rfl ?_; go_must (refine wpList_stB rfl _ _ _ rfl g2 0 rfl cs1 rfl B2' (by omega) (by rw [hl1]; exact rsI10) ho1.out ?_)))
 intro w2 B3 g3 _
 have B3' := blkAll B3 (by omega)
 have H2 := below_grown H1 g3 H1.size hg
 go_wp2_with fail
 refine ret_cell rfl g2 rfl B3' _ underlying69 rfl (by rw [hl1]; exact rsI10) rfl ?_
 refine ⟨cs1, rfl, ?_, H2⟩
 obtain ⟨u1, u2, u3, h0, h1, h2, h3⟩ := HO.out
 exact ⟨u1, u2, u3, h0, h1.blk g3 B2' (by decide), h2.blk g3 B2' (by decide), h3.blk g3 B2' (by decide)⟩
def adsC (l : List Adr) : List Value := (l.map Adr.cells).flatten
theorem adsC_app (a b : List Adr) : adsC (a ++ b) = adsC a ++ adsC b := by simp [adsC]
theorem adsC_len : ∀ (l : List Adr), (∀ a ∈ l, a.ip.length = 16) → (adsC l).length = l.length * 18
 | [], _ => rfl
 | a :: l, h => by
  have h1 := adsC_len l (fun x hx => h x (List.mem_cons_of_mem _ hx))
  have h2 := a.cells_len (h a (List.mem_cons_self ..))
  show (a.cells ++ adsC l).length = _
  rw [List.length_append, h1, h2, List.length_cons]; omega
theorem adsC_one (l : List Adr) : ∀ v ∈ adsC l, v.oneCell' = true := by
 intro v hv
 obtain ⟨c, hc, hv⟩ := List.mem_flatten.1 hv
 obtain ⟨a, _, rfl⟩ := List.mem_map.1 hc
 exact a.cells_one v hv
theorem each_adI : ∀ {css : List (List Value)} {l : List Adr}, Each AdI css l → css.flatten = adsC l ∧ ∀ a ∈ l, a.ip.length = 16
 | [], [], _ => ⟨rfl, by simp⟩
 | cs :: css, a :: l, h => by
  obtain ⟨h1, h2⟩ := each_adI h.2
  obtain ⟨h3, h4⟩ := h.1
  refine ⟨?_, ?_⟩
  ·
   show cs ++ css.flatten = a.cells ++ adsC l
   rw [h1, h3]
  ·
   intro x hx
   rcases List.mem_cons.1 hx with rfl | hx
   ·
    exact h4
   ·
    exact h2 x hx
theorem each_mk : ∀ (l : List Adr), (∀ a ∈ l, a.ip.length = 16) → Each AdI (l.map Adr.cells) l
 | [], _ => trivial
 | a :: l, h => ⟨⟨rfl, h a (List.mem_cons_self ..)⟩, each_mk l (fun x hx => h x (List.mem_cons_of_mem _ hx))⟩
theorem AdsO.ip {w : World} {B : Nat} {v : Value} {l : List Adr} (h : AdsO w B v l) : ∀ a ∈ l, a.ip.length = 16 := by obtain ⟨css, _, h2⟩ := h; exact (each_adI h2).2
theorem AdsO.own {w : World} {B : Nat} {v : Value} {l : List Adr} (h : AdsO w B v l) : w.ownsRow B 24 18 v l.length (adsC l) := by obtain ⟨css, h1, h2⟩ := h; rw [(each_adI h2).1] at h1; exact h1
theorem AdsO.mk {w : World} {B : Nat} {v : Value} {l : List Adr} (h : w.ownsRow B 24 18 v l.length (adsC l)) (hi : ∀ a ∈ l, a.ip.length = 16) : AdsO w B v l := ⟨l.map Adr.cells, h, each_mk l hi⟩
theorem AdsO.piece {w : World} {B : Nat} {A : Option Addr} {c : Nat} {l : List Adr} (h : AdsO w B (.slice A l.length c) l) (k n : Nat) (hk : k + n ≤ l.length) (hl : 0 < l.length) : ∃ g, A = some ⟨g, 0, none⟩ ∧ g < w.heap.size ∧ w.rangeAt g (0 + k * 18) (adsC ((l.drop k).take n)) := by
 have hi := h.ip
 have ho := h.own
 obtain ⟨g, L, hA, hb, ht, _⟩ := own_range ho hl (adsC_len l hi)
 refine ⟨g, hA, hb.lt, ?_⟩
 have e : l = l.take k ++ ((l.drop k).take n ++ (l.drop k).drop n) := by rw [List.take_append_drop, List.take_append_drop]
 have h1 : (adsC (l.take k)).length = k * 18 := by rw [adsC_len _ (fun a ha => hi a (List.mem_of_mem_take ha))]; simp; omega
 have h2 : (adsC ((l.drop k).take n)).length = n * 18 := by rw [adsC_len _ (fun a ha => hi a (List.mem_of_mem_drop (List.mem_of_mem_take ha)))]; simp; omega
 have hsub : (L.drop (k * 18)).take (n * 18) = adsC ((l.drop k).take n) := by
  have e2 : (L.take (l.length * 18)).drop (k * 18) = (L.drop (k * 18)).take (l.length * 18 - k * 18) := List.drop_take ..
  have e3 : ((L.take (l.length * 18)).drop (k * 18)).take (n * 18) = adsC ((l.drop k).take n) := by
   rw [ht]
   conv => lhs; rw [e, adsC_app, adsC_app]
   rw [← h1, List.drop_left, ← h2, List.take_left]
  rw [e2, List.take_take, Nat.min_eq_left (by have := Nat.mul_le_mul_right 18 hk; rw [Nat.add_mul] at this; omega)] at e3
  exact e3
 rw [← hsub, Nat.zero_add]
 refine hb.range _ _ ?_
 have hLl : l.length * 18 ≤ L.length := by
  have := congrArg List.length ht
  rw [adsC_len l hi, List.length_take] at this; omega
 have := Nat.mul_le_mul_right 18 hk
 rw [Nat.add_mul] at this; omega
theorem own_cap {w : World} {B : Nat} {e : TypeId} {s : Nat} {A : Option Addr} {n c : Nat} {xs : List Value} (h : w.ownsRow B e s (.slice A n c) n xs) : n ≤ c := by
 rcases h.2 with ⟨h, h0⟩ | ⟨g, cap, cur, hv, _, _, hc, _⟩
 ·
  injection h with _ _ h; omega
 ·
  injection hv with _ _ h; omega
def turnAt (r : Rs) (turn : Int) : Nat := if r.ro then (IntKind.u64.wrap turn % (heldR r).sv.length).toNat else 0
def serversR (r : Rs) (turn : Int) : List Adr := (heldR r).sv.drop (turnAt r turn) ++ (heldR r).sv.take (turnAt r turn)
theorem held_sv (r : Rs) : 0 < (heldR r).sv.length ∧ (heldR r).sv.length ≤ 3 := by
 unfold heldR
 simp only
 split
 ·
  exact ⟨by simp, by simp⟩
 ·
  rename_i h
  refine ⟨List.length_pos_iff.2 h, ?_⟩
  unfold leftP; simp; omega
theorem turn_lt (r : Rs) (turn : Int) : turnAt r turn < (heldR r).sv.length := by
 have h := (held_sv r).1
 unfold turnAt
 split
 ·
  have h1 := Int.emod_lt_of_pos (IntKind.u64.wrap turn) (show (0 : Int) < (heldR r).sv.length by omega)
  have h2 := Int.emod_nonneg (IntKind.u64.wrap turn) (show ((heldR r).sv.length : Int) ≠ 0 by omega)
  omega
 ·
  exact h
theorem adInf : ∃ i, prog.info? 24 = some i ∧ i.zero = some (.agg Adr.zero.cells.toArray) ∧ i.size = 18 ∧ i.bytes = 32 := info_parts adInfo3
def AdsRet (l : List Adr) (w : World) (e : Ending) (w' : World) : Prop := ∃ v, e = .returned v ∧ AdsO w' 0 v l ∧ Below w.heap.size w w'
set_option maxHeartbeats 1000000 in
theorem servers_any (w0 : World) (cs : List Value) (r : Rs) (turn : Int) (w : World) (h : RsIs w0 cs r) (hw : Below w0.heap.size w0 w) : Calls prog 141 #[.agg cs.toArray, .int .i64 turn] w (AdsRet (serversR r turn) w) := by
 have hl := h.len
 have HD := Hh (fun W hb => planHeld_any w0 cs r W h (below_then hw hw.size hb))
 obtain ⟨hn0, hn3⟩ := held_sv r
 have hat := turn_lt r turn
 have HT : Hid (turnAt r turn = if r.ro then (IntKind.u64.wrap turn % (heldR r).sv.length).toNat else 0) := Hh rfl
 have HS : Hid (serversR r turn = (heldR r).sv.drop (turnAt r turn) ++ (heldR r).sv.take (turnAt r turn)) := Hh rfl
 have hro : (heldR r).ro = r.ro := rfl
 have HRO := Hh hro
 clear h hw hro
 generalize turnAt r turn = at_ at *
 have HB : Below w.heap.size w (w.alloc (.cells cs.toArray 69)) := (Below.refl _ _).alloc (Nat.le_refl _) _
 go_enter func141, ntmps141
 go_wp2_with (refine at_op (.load 69 (.tmp 2)) rfl ?_; go_must (refine wpList_ldB rfl _ _ rfl w.heap.size 0 rfl (Blk.new w 69 cs) 10 (by omega) _ underlying69 rfl rsI10 cs (tk0 (by omega)) ?_))
 refine (HD.out _ HB).mono ?_
 rintro _ w1 ⟨cs1, rfl, ho, b1⟩
 have B1 := (Blk.new w 69 cs).below b1 (Blk.new _ _ _).lt
 have H1 := below_then HB HB.size b1
 have hl1 := ho.len
 have ho1 := Hh ho.one
 have HO := Hh ho
 clear b1 ho HB HD
 go_wp2_with (refine at_op (.store 69 (.tmp 2) (.tmp 9)) rfl ?_; go_must (refine wpList_stB rfl _ _ _ rfl w.heap.size 0 rfl cs1 rfl B1 (by omega) (by rw [hl1]; exact rsI10) ho1.out ?_))
 intro w2 B3 g3 sw
 clear sw
 have B2 := blkAll B3 (by omega)
 have H2 := below_grown H1 g3 H1.size (Nat.le_refl _)
 obtain ⟨v1, v2, v3, hcs, p1, p2, p3⟩ := HO.out
 replace p1 := p1.blk g3 B1 (by decide)
 obtain ⟨A, c, hv⟩ := p1.form
 rw [hv] at p1 hcs
 have d0 := B2.cell_ 0 (u := .slice A (heldR r).sv.length c) (by rw [hcs]; rfl)
 have d6 := B2.cell_ 6 (u := .bool (heldR r).ro) (by rw [hcs]; rfl)
 rw [HRO.out] at d6
 clear hcs hv p2 p3 HO B3 g3 B1 H1 ho1 B2
 generalize (heldR r).sv = S at *
 have hwn : IntKind.u64.wrap (S.length : Int) = S.length := by rw [IntKind.wrap_u64]; exact Int.emod_eq_of_lt (by omega) (by omega)
 have DV := Hh (draw_val turn S.length (by omega) (by omega))
 have hn0' : ¬ (S.length : Int) = 0 := by omega
 have hn0'' : (0 : Int) < S.length := by omega
 have hn1 : decide (0 < S.length) = true := by simpa using hn0
 go_upto_region 4 with fail
 go_cut [18] (fun v wx => v = .bool r.ro ∧ wx = w2)
 case first =>
  cases hro : r.ro with
  | true =>
   rw [hro] at d6
   go_wp2_with fail
   go_meet
   case rel => exact ⟨by rw [hro], rfl⟩
  | false =>
   rw [hro] at d6
   go_wp2_with fail
   go_meet
   case rel => exact ⟨by rw [hro], rfl⟩
 obtain ⟨rfl, rfl⟩ := hcut
 go_upto_if 18 with fail
 go_cut [6] (fun v wx => v = .int .i64 at_ ∧ wx = wc)
 case first =>
  cases hro : r.ro with
  | true =>
   rw [hro] at HT d6
   clear hro HRO
   go_wp2_with fail
   go_meet
   case rel =>
    refine ⟨?_, rfl⟩
    rw [DV.out]
    have h1 := Int.emod_nonneg (IntKind.u64.wrap turn) (show (S.length : Int) ≠ 0 by omega)
    have h2 := HT.out
    simp only [if_true] at h2
    rw [h2, Int.toNat_of_nonneg h1]
  | false =>
   rw [hro] at HT d6
   clear hro HRO
   go_wp2_with fail
   go_meet
   case rel =>
    have h2 := HT.out
    simp only [Bool.false_eq_true, if_false] at h2
    exact ⟨by rw [h2]; rfl, rfl⟩
 case rest =>
  obtain ⟨rfl, rfl⟩ := hcut
  clear d6 HT DV hwn hn1
  obtain ⟨ai, ai1, ai2, ai3, ai4⟩ := adInf
  go_wp2_with (refine at_op (.makeSlice 65 (.const (.int .i64 0)) (.tmp 25)) rfl ?_; go_must (refine wpList_make_own wc rfl _ _ 65 rfl wc.heap.size 24 ai _ 18 underlying65 ai1 ai2 ai3 .i64 .i64 (S.length : Int) S.length rfl rfl rfl (by rw [ai4]; omega) (by simp only [maxLen]; omega) (Nat.le_refl _) ?_))
  intro w3 o3 g3
  have K3 : Below wc.heap.size wc w3 := ⟨g3.os, g3.tape, g3.output, g3.size, fun i hi => g3.block i hi (by simp)⟩
  have p3 := LOwn.below (R' := AdI) p1 K3 (fun _ _ h => h)
  have e0 : w3.cell? ⟨w.heap.size, 0, none⟩ = some (.slice A S.length c) := by
   rw [← d0]; exact K3.cell (p := ⟨w.heap.size, 0, none⟩) (cell_lt d0)
  have H3 := below_then H2 H2.size K3
  obtain ⟨gs, hA, hgs, hr1⟩ := AdsO.piece p1 at_ (S.length - at_) (by omega) (by omega)
  obtain ⟨_, hA2, _, hr2⟩ := AdsO.piece p1 0 at_ (by omega) (by omega)
  rw [hA] at hA2
  injection hA2 with hA2; injection hA2 with hA2; subst hA2
  subst hA
  have hsz3 := K3.size
  have hwlt : w.heap.size < wc.heap.size := cell_lt d0
  replace hr1 := range_below hr1 K3 hgs
  replace hr2 := range_below hr2 K3 hgs
  rw [Nat.zero_add] at hr1
  rw [Nat.zero_mul, Nat.add_zero] at hr2
  have hip := AdsO.ip p3
  have hcap := own_cap (AdsO.own p3)
  have hca : ¬ c = at_ := by omega
  have hac : at_ ≤ c := by omega
  have hac' : (at_ : Int) ≤ c := by omega
  have hwc : w.heap.size ≤ wc.heap.size := H2.size
  have l1 : (adsC ((S.drop at_).take (S.length - at_))).length = (S.length - at_) * 18 := by rw [adsC_len _ (fun a ha => hip a (List.mem_of_mem_drop (List.mem_of_mem_take ha)))]; simp
  have l2 : (adsC ((S.drop 0).take at_)).length = at_ * 18 := by rw [adsC_len _ (fun a ha => hip a (List.mem_of_mem_drop (List.mem_of_mem_take ha)))]; simp; omega
  have hsum : S.length - at_ + at_ = S.length := by omega
  have FIN : Hid (adsC ((S.drop at_).take (S.length - at_)) ++ adsC ((S.drop 0).take at_) = adsC (serversR r turn) ∧ (serversR r turn).length = S.length ∧ ∀ a ∈ serversR r turn, a.ip.length = 16) := Hh (by
   rw [HS.out]
   refine ⟨?_, by simp; omega, ?_⟩
   ·
    rw [← adsC_app, List.drop_zero, List.take_of_length_le (by simp)]
   ·
    intro a ha
    rcases List.mem_append.1 ha with h | h
    ·
     exact hip a (List.mem_of_mem_drop h)
    ·
     exact hip a (List.mem_of_mem_take h))
  have o1 := adsC_one ((S.drop at_).take (S.length - at_))
  have o2 := adsC_one ((S.drop 0).take at_)
  clear K3 g3 d0 p1 ai1 ai2 ai3 ai4 hip hcap
  generalize adsC ((S.drop at_).take (S.length - at_)) = N1 at *
  generalize adsC ((S.drop 0).take at_) = N2 at *
  go_wp2_with (at_builtin; go_must (refine wpList_appG w3 rfl (.tmp 27) (.tmp 31) 65 rfl 24 _ 18 32 underlying65 adInfo3 (by kernel_rfl) (by decide) wc.heap.size _ 0 [] rfl o3 hsz3 (some ⟨gs, at_ * 18, none⟩) (S.length - at_) (c - at_) N1 (by simp [Act.eval, hca]) (fun _ => ⟨gs, at_ * 18, rfl, hr1⟩) l1 o1 (by simp only [maxLen]; omega) (by omega) _ rfl ?_))
  intro A4 c4 w4 o4 g4
  have g4' : w3.grownBy w4 (some wc.heap.size) := g4
  have hr2' : w4.rangeAt gs 0 N2 := fun j v hv => by rw [← hr2 j v hv]; exact grown_cell g4' ⟨gs, _, none⟩ (by simp; omega) (by simp; omega)
  have e0' : w4.cell? ⟨w.heap.size, 0, none⟩ = some (.slice (some ⟨gs, 0, none⟩) S.length c) := by rw [← e0]; exact grown_cell g4' ⟨w.heap.size, 0, none⟩ (by simp; omega) (by simp; omega)
  have H4 := below_grown H3 g4' H3.size hwc
  have hsz4 := g4'.size
  clear g4 g4' e0 hr1 hr2 o3 H3 hca
  go_wp2_with (at_builtin; go_must (refine wpList_appG w4 rfl (.tmp 33) (.tmp 37) 65 rfl 24 _ 18 32 underlying65 adInfo3 (by kernel_rfl) (by decide) wc.heap.size _ (S.length - at_) N1 (by simp [Act.eval]) o4 (Nat.le_trans hsz3 hsz4) (some ⟨gs, 0, none⟩) at_ c N2 (by simp [Act.eval]) (fun _ => ⟨gs, 0, rfl, hr2'⟩) l2 o2 (by simp only [maxLen]; omega) (by omega) S.length hsum.symm ?_))
  intro A5 c5 w5 o5 g5
  have H5 := (H4.grown g5 (Nat.le_trans hwc (Nat.le_trans hsz3 hsz4)) (fun k hk => Nat.le_trans hwc (own_base o4 k hk)))
  clear g5
  go_wp2_with fail
  go_ret
  obtain ⟨f1, f2, f3⟩ := FIN.out
  refine ⟨_, rfl, AdsO.mk ?_ f3, H5⟩
  rw [f2, ← f1]
  exact own_zero o5
def TryI (cs : List Value) (a : Adr) : Prop := ∃ r : Int, cs = a.cells ++ [.int .i64 r] ∧ a.ip.length = 16
theorem TryI.len {cs : List Value} {a : Adr} (h : TryI cs a) : cs.length = 19 := by obtain ⟨r, rfl, h⟩ := h; simp [a.cells_len h]
abbrev TrysO (w : World) (B : Nat) (v : Value) (l : List Adr) : Prop := LOwn w B 249 19 TryI v l
def tryZ : List Value := Adr.zero.cells ++ [.int .i64 0]
theorem tryInfo3 : (prog.info? 249).map (fun i => (i.zero, i.size, i.bytes)) = some (some (.agg tryZ.toArray), 19, 40) := by kernel_rfl
theorem run_btry16 (fam zone r : Int) (b0 b1 b2 b3 b4 b5 b6 b7 b8 b9 b10 b11 b12 b13 b14 b15 : UInt8) (W : World) :
  (Instr.build 249 #[(0, .agg (Adr.cells ⟨fam, [b0, b1, b2, b3, b4, b5, b6, b7, b8, b9, b10, b11, b12, b13, b14, b15], zone⟩).toArray), (1, .int .i64 r)]).run prog W = .ok (.agg (Adr.cells ⟨fam, [b0, b1, b2, b3, b4, b5, b6, b7, b8, b9, b10, b11, b12, b13, b14, b15], zone⟩ ++ [Value.int .i64 r]).toArray) W := by
 kernel_rfl
theorem run_btry (a : Adr) (r : Int) (h : a.ip.length = 16) (W : World) : (Instr.build 249 #[(0, .agg a.cells.toArray), (1, .int .i64 r)]).run prog W = .ok (.agg (a.cells ++ [Value.int .i64 r]).toArray) W := by
 obtain ⟨fam, ip, zone⟩ := a
 have h' : ip.length = 16 := h
 clear h
 match ip, h' with
 | [b0, b1, b2, b3, b4, b5, b6, b7, b8, b9, b10, b11, b12, b13, b14, b15], _ => exact run_btry16 fam zone r b0 b1 b2 b3 b4 b5 b6 b7 b8 b9 b10 b11 b12 b13 b14 b15 W
theorem rs_fld5 (n : Int) (a b c d e g h i j : Value) (W : World) : (Instr.field 69 (.agg [a, b, c, d, e, .int .i64 n, g, h, i, j].toArray) 5).run prog W = .ok (.int .i64 n) W := by kernel_rfl
theorem rs_fld4 (n : Int) (a b c d f g h i j : Value) (W : World) : (Instr.field 69 (.agg [a, b, c, d, .int .i64 n, f, g, h, i, j].toArray) 4).run prog W = .ok (.int .i64 n) W := by kernel_rfl
def roundsA (l : List Adr) : Nat → List Adr
 | 0 => []
 | k + 1 => roundsA l k ++ l
theorem roundsA_len (l : List Adr) : ∀ k, (roundsA l k).length = k * l.length
 | 0 => by simp [roundsA]
 | k + 1 => by rw [roundsA, List.length_append, roundsA_len l k, Nat.add_mul, Nat.one_mul]
def triesR (r : Rs) (turn : Int) : List Adr := roundsA (serversR r turn) (heldR r).at_.toNat
theorem servers_len (r : Rs) (turn : Int) : (serversR r turn).length = (heldR r).sv.length := by
 have := turn_lt r turn
 unfold serversR; simp; omega
theorem att_le (r : Rs) : 1 ≤ (heldR r).at_ ∧ (heldR r).at_ ≤ 5 := by
 show 1 ≤ min (max r.at_ 1) 5 ∧ min (max r.at_ 1) 5 ≤ 5
 omega
theorem tmo_le (r : Rs) : 1 ≤ (heldR r).tmo ∧ (heldR r).tmo ≤ 30 := by
 show 1 ≤ min (max r.tmo 1) 30 ∧ min (max r.tmo 1) 30 ≤ 30
 omega
def TrysRet (l : List Adr) (w : World) (e : Ending) (w' : World) : Prop := ∃ v, e = .returned v ∧ TrysO w' 0 v l ∧ Below w.heap.size w w'
set_option maxHeartbeats 1000000 in
theorem tries_any (w0 : World) (cs : List Value) (r : Rs) (turn : Int) (w : World) (h : RsIs w0 cs r) (hw : Below w0.heap.size w0 w) : Calls prog 88 #[.agg cs.toArray, .int .i64 turn] w (TrysRet (triesR r turn) w) := by
 have hl := h.len
 have HD := Hh (fun W hb => planHeld_any w0 cs r W h (below_then hw hw.size hb))
 have SD := Hh (fun W hb => servers_any w0 cs r turn W h (below_then hw hw.size hb))
 have HT : Hid (triesR r turn = roundsA (serversR r turn) (heldR r).at_.toNat) := Hh rfl
 have hsl := servers_len r turn
 have hs3 := (held_sv r).2
 obtain ⟨ha1, ha2⟩ := att_le r
 obtain ⟨na, hna⟩ : ∃ na : Nat, (heldR r).at_ = na := ⟨(heldR r).at_.toNat, by omega⟩
 rw [hna] at HT ha1 ha2
 rw [Int.toNat_natCast] at HT
 rw [← hsl] at hs3
 have HNA := Hh hna
 clear h hw hsl hna
 generalize serversR r turn = S at *
 have HB : Below w.heap.size w (w.alloc (.cells cs.toArray 69)) := (Below.refl _ _).alloc (Nat.le_refl _) _
 have B0 := Blk.new w 69 cs
 go_enter func88, ntmps88
 go_wp2_with (refine at_op (.load 69 (.tmp 2)) rfl ?_; go_must (refine wpList_ldB rfl _ _ rfl w.heap.size 0 rfl B0 10 (by omega) _ underlying69 rfl rsI10 cs (tk0 (by omega)) ?_))
 refine (SD.out _ HB).mono ?_
 rintro _ w1 ⟨vS, rfl, oS, b1⟩
 replace B0 := B0.below b1 B0.lt
 have H1 := below_then HB HB.size b1
 clear b1 HB SD
 go_wp2_with (refine at_op (.load 69 (.tmp 2)) rfl ?_; go_must (refine wpList_ldB rfl _ _ rfl w.heap.size 0 rfl B0 10 (by omega) _ underlying69 rfl rsI10 cs (tk0 (by omega)) ?_))
 refine (HD.out _ H1).mono ?_
 rintro _ w2 ⟨cs1, rfl, ho, b2⟩
 have H2 := below_then H1 H1.size b2
 replace oS := LOwn.below (R' := AdI) oS b2 (fun _ _ h => h)
 have F5 : Hid (∀ W, (Instr.field 69 (.agg cs1.toArray) 5).run prog W = .ok (.int .i64 na) W) := Hh (fun W => by
  obtain ⟨v1, v2, v3, rfl, _⟩ := ho
  rw [← HNA.out]
  exact rs_fld5 ..)
 clear b2 ho H1 HD B0 HNA
 obtain ⟨A, c, hv⟩ := oS.form
 subst hv
 go_wp2_with (refine at_op (.field 69 (.tmp 14) 5) rfl ?_; go_must (refine wpList_fld rfl 69 (.tmp 14) 5 rfl rfl (F5.out _) ?_))
 go_loopw [6, 16] (fun kv iv wr => ∃ k : Nat, k ≤ na ∧ iv = .int .i64 k ∧ TrysO wr w.heap.size kv (roundsA S k) ∧ AdsO wr 0 (.slice A S.length c) S ∧ Below w.heap.size w wr) (fun _ iv _ => na - (intOf iv).toNat)
 case atStart => exact ⟨0, Nat.zero_le _, rfl, LOwn.nil _ _ _ _ _, oS, H2⟩
 clear oS H2
 obtain ⟨k, hk, rfl, ho, oS, hB⟩ := hrel
 by_cases hlt : k < na
 case neg =>
  have hlt' : ¬ (k : Int) < na := by omega
  go_wp2_with fail
  go_ret
  refine ⟨_, rfl, ?_, hB⟩
  rw [HT.out, show na = k by omega]
  exact LOwn.zero ho
 have hlt' : (k : Int) < na := by omega
 obtain ⟨Ak, ck, hv⟩ := ho.form
 subst hv
 have hb3 : k * S.length ≤ 15 := by
  have h1 : k * S.length ≤ 4 * 3 := Nat.mul_le_mul (by omega) hs3
  omega
 have hrl : (roundsA S k).length ≤ 15 := by rw [roundsA_len]; exact hb3
 have HR : Hid (roundsA S (k + 1) = roundsA S k ++ S) := Hh rfl
 obtain ⟨wo, hwo⟩ : ∃ wo : World, wr = wo := ⟨_, rfl⟩
 subst hwo
 generalize roundsA S k = R at *
 go_wp2_with fail
 go_loopw [6, 21] (fun kv iv wx => ∃ j : Nat, j ≤ S.length ∧ iv = .int .i64 j ∧ TrysO wx w.heap.size kv (R ++ S.take j) ∧ AdsO wx 0 (.slice A S.length c) S ∧ Below w.heap.size w wx) (fun _ iv _ => S.length - (intOf iv).toNat)
 case atStart => exact ⟨0, Nat.zero_le _, rfl, by simpa using ho, oS, hB⟩
 clear ho oS hB
 obtain ⟨j, hj, rfl, ho, oS, hB⟩ := hrel
 by_cases hjl : j < S.length
 case neg =>
  have hjl' : ¬ (j : Int) < S.length := by omega
  rw [List.take_of_length_le (by omega)] at ho
  go_wp2_with fail
  go_roundw
  case rel => exact ⟨k + 1, by omega, by go_num, by rw [HR.out]; exact ho, oS, hB⟩
  case measure => simp [intOf]; omega
 have hjl' : (j : Int) < S.length := by omega
 have hle : (R ++ S.take j).length + 1 ≤ 100 := by simp; omega
 obtain ⟨Q, hQ⟩ : ∃ Q, Hid (R ++ S.take j = Q) := ⟨_, Hh rfl⟩
 rw [hQ.out] at ho hle
 obtain ⟨Aj, cj, hv⟩ := ho.form
 subst hv
 obtain ⟨gs, hA, hgs, hr⟩ := oS.at_ (fun _ _ h => h.len) (by omega)
 obtain ⟨cx, hcx, hce, hip⟩ := hr j hjl
 have hcl : cx.length = 18 := AdI.len ⟨hce, hip⟩
 have hone : ∀ v ∈ cx, v.oneCell' = true := by rw [hce]; exact Adr.cells_one _
 have RB : Hid (∀ W, (Instr.build 249 #[(0, .agg cx.toArray), (1, .int .i64 k)]).run prog W = .ok (.agg (cx ++ [Value.int .i64 k]).toArray) W) := Hh (fun W => by rw [hce]; exact run_btry _ _ hip W)
 have TI : Hid (TryI (cx ++ [Value.int .i64 k]) S[j]) := Hh ⟨k, by rw [hce], hip⟩
 have HS : Hid (S.take (j + 1) = S.take j ++ [S[j]]) := Hh (List.take_succ_eq_append_getElem hjl)
 have htl : (cx ++ [Value.int .i64 k]).length = 19 := by simp [hcl]
 have hto : ∀ v ∈ cx ++ [Value.int .i64 k], v.oneCell' = true := by
  intro v hv
  rcases List.mem_append.1 hv with h | h
  ·
   exact hone v h
  ·
   simp at h; subst h; rfl
 have HO := Hh ho
 have HOS := Hh oS
 rw [Nat.zero_add] at hcx
 subst hA
 have hadz : (Adr.zero.cells).length = 18 := Adr.zero.cells_len rfl
 have W1 : Below wr.heap.size wr (wr.alloc (.cells Adr.zero.cells.toArray 24)) := (Below.refl _ _).alloc (Nat.le_refl _) _
 clear hce hip hr ho oS
 obtain ⟨tc, htc⟩ : ∃ tc, cx ++ [Value.int .i64 k] = tc := ⟨_, rfl⟩
 rw [htc] at RB TI htl hto
 clear htc
 go_wp2_with (first
  | (refine at_op (.load 24 (.tmp 23)) rfl ?_; go_must (refine wpList_ldR rfl 24 (.tmp 23) rfl gs (j * 18) rfl cx hcx _ underlying24 rfl (by rw [hcl]; exact adI18) ?_))
  | (refine at_op (.store 24 (.tmp 9) (.tmp 24)) rfl ?_; go_must (refine wpList_stB rfl _ _ _ rfl wr.heap.size 0 rfl cx rfl (Blk.new wr 24 Adr.zero.cells) (by omega) (by rw [hcl]; exact adI18) hone ?_)))
 intro w3 B3 g3 sw
 clear sw
 have B3' := blkAll B3 (by omega)
 have K3 := below_grown W1 g3 W1.size (Nat.le_refl _)
 clear B3 g3 W1 hcx
 go_wp2_with (first
  | (refine at_op (.load 24 (.tmp 9)) rfl ?_; go_must (refine wpList_ldB rfl _ _ rfl wr.heap.size 0 rfl B3' 18 (by omega) _ underlying24 rfl adI18 cx (tk0 (by omega)) ?_))
  | (refine at_op (.build 249 #[(0, .tmp 26), (1, .tmp 27)]) rfl ?_; go_must (refine wpList_bld rfl 249 _ rfl #[(0, .agg cx.toArray), (1, .int .i64 k)] (by simp [Act.eval, Act.put]) (RB.out _) ?_))
  | (refine at_op (.buildSlice 173 1 #[(0, .tmp 28)]) rfl ?_; go_must (refine wpList_bsN rfl 173 249 _ 19 40 underlying173 tryInfo3 (by decide) (by decide) (.tmp 28) rfl tc rfl htl ?_)))
 intro w4 B4 K4
 have K5 := below_then K3 K3.size K4
 have O4 := LOwn.below (R' := TryI) HO.out K5 (fun _ _ h => h)
 have N4 := HO.out.ne K3.size
 have S4 := LOwn.below (R' := AdI) HOS.out K5 (fun _ _ h => h)
 have H4 := below_then hB hB.size K5
 have hszz := K4.size
 clear HO HOS K3 K4 K5 B3' hB
 go_wp2_with (at_builtin; go_must (refine wpList_app1 _ rfl _ _ 173 rfl 249 _ 19 40 underlying173 tryInfo3 (by kernel_rfl) (by decide) w.heap.size _ _ rfl O4 H4.size w3.heap.size tc S[j] rfl B4 N4 htl hto TI.out (by simp only [maxLen]; omega) (by omega) ?_))
 intro v5 w5 O5 g5
 have hbs := O4.base
 have S5 : AdsO w5 0 (.slice (some ⟨gs, 0, none⟩) S.length c) S := by
  obtain ⟨_, o4, _⟩ := O4
  exact S4.stays (fun _ x => own_own x o4 (by decide) g5) (fun _ _ x => x)
 have H5 := H4.grown g5 H4.size hbs
 clear g5 O4 S4 H4 B4 N4
 go_wp2_with fail
 go_roundw
 case rel => exact ⟨j + 1, by omega, by go_num, by rw [HS.out, ← List.append_assoc, hQ.out]; exact O5, S5, H5⟩
 case measure => simp [intOf]; omega
def mostR (r : Rs) : Nat := 3 * (triesR r 0).length
def ticksR (r : Rs) : Nat := (heldR r).tmo.toNat * mostR r
theorem tries_len (r : Rs) (turn : Int) : (triesR r turn).length = (heldR r).at_.toNat * (heldR r).sv.length := by unfold triesR; rw [roundsA_len, servers_len]
theorem tries_le (r : Rs) (turn : Int) : 1 ≤ (triesR r turn).length ∧ (triesR r turn).length ≤ 15 := by
 rw [tries_len]
 obtain ⟨h1, h2⟩ := held_sv r
 obtain ⟨h3, h4⟩ := att_le r
 exact ⟨Nat.mul_pos (by omega) h1, Nat.le_trans (Nat.mul_le_mul (show (heldR r).at_.toNat ≤ 5 by omega) h2) (by decide)⟩
theorem most_any (w0 : World) (cs : List Value) (r : Rs) (w : World) (h : RsIs w0 cs r) (hw : Below w0.heap.size w0 w) : Calls prog 69 #[.agg cs.toArray] w (RetB (.int .i64 (mostR r)) w) := by
 have hl := h.len
 have HD := Hh (fun W hb => tries_any w0 cs r 0 W h (below_then hw hw.size hb))
 have hle := tries_le r 0
 have HM : Hid (mostR r = 3 * (triesR r 0).length) := Hh rfl
 clear h hw
 generalize triesR r 0 = T at *
 have HB : Below w.heap.size w (w.alloc (.cells cs.toArray 69)) := (Below.refl _ _).alloc (Nat.le_refl _) _
 go_enter func69, ntmps69
 go_wp2_with (refine at_op (.load 69 (.tmp 1)) rfl ?_; go_must (refine wpList_ldB rfl _ _ rfl w.heap.size 0 rfl (Blk.new w 69 cs) 10 (by omega) _ underlying69 rfl rsI10 cs (tk0 (by omega)) ?_))
 refine (HD.out _ HB).mono ?_
 rintro _ w1 ⟨v, rfl, o, b1⟩
 obtain ⟨A, c, hv⟩ := o.form
 subst hv
 go_wp2_with fail
 go_ret
 exact RetB.mk (by rw [HM.out]; rfl) (below_then HB HB.size b1)
theorem exec_fld {P : Program} {w : World} {o : Oper} {a : Act} (t : TypeId) (x : Operand) (f : Nat) (ho : o.op = .field t x f) {v v' : Value} (hx : a.eval x = v) (hr : (Instr.field t v f).run P w = .ok v' w) : (execOp a.eval o).run P w = .ok (.value v') w := by
 unfold execOp
 simp only [ho, hx, Sem.run_bind, hr, Result.andThen_ok, Sem.run_pure]
theorem ticks_any (w0 : World) (cs : List Value) (r : Rs) (w : World) (h : RsIs w0 cs r) (hw : Below w0.heap.size w0 w) : Calls prog 48 #[.agg cs.toArray] w (RetB (.int .i64 (ticksR r)) w) := by
 have hl := h.len
 have HD := Hh (fun W hb => planHeld_any w0 cs r W h (below_then hw hw.size hb))
 have MD := Hh (fun W hb => most_any w0 cs r W h (below_then hw hw.size hb))
 obtain ⟨t1, t2⟩ := tmo_le r
 have hml : mostR r ≤ 45 := by have := (tries_le r 0).2; unfold mostR; omega
 obtain ⟨nt, hnt⟩ : ∃ nt : Nat, (heldR r).tmo = nt := ⟨(heldR r).tmo.toNat, by omega⟩
 have HM : Hid (ticksR r = nt * mostR r) := Hh (by unfold ticksR; rw [hnt, Int.toNat_natCast])
 have HNT := Hh hnt
 rw [hnt] at t2
 clear h hw hnt t1
 generalize mostR r = M at *
 have HB : Below w.heap.size w (w.alloc (.cells cs.toArray 69)) := (Below.refl _ _).alloc (Nat.le_refl _) _
 have B0 := Blk.new w 69 cs
 obtain ⟨w1, hw1⟩ : ∃ w1, w.alloc (.cells cs.toArray 69) = w1 := ⟨_, rfl⟩
 rw [hw1] at HB B0
 go_enter func48, ntmps48
 go_wp2_with fail
 have hmul : (nt : Int) * M ≤ 1350 := by
  have : nt * M ≤ 30 * 45 := Nat.mul_le_mul (by omega) hml
  exact_mod_cast this
 have hmul0 : 0 ≤ (nt : Int) * M := Int.mul_nonneg (by omega) (by omega)
 clear hw1
 refine wp_region_held_drew (S := fun V => Below w1.heap.size w1 V) (by kernel_rfl) (Below.refl _ _).drew (fun hS => ?_)
 refine held_seq hS 2 [0,3] rfl (by kernel_rfl) (fun _ _ _ _ _ h => h) rfl rfl ?_
 (refine ⟨_, _, rfl, .inl ⟨rfl, fun V hV => (exec_ld 69 (.tmp 1) ⟨w.heap.size, 0, none⟩ rfl rfl ((B0.below hV B0.lt).loads 69 0 10 (by omega) _ underlying69 rfl rsI10 cs (tk0 (by omega))))⟩, ?_⟩; simp only [Act.put, lsA, lsB, lsC])
 (refine ⟨_, _, rfl, .inl ⟨rfl, fun V hV => (exec_ld 69 (.tmp 1) ⟨w.heap.size, 0, none⟩ rfl rfl ((B0.below hV B0.lt).loads 69 0 10 (by omega) _ underlying69 rfl rsI10 cs (tk0 (by omega))))⟩, ?_⟩; simp only [Act.put, lsA, lsB, lsC])
 simp only [SeqC]
 refine held_call 1 (some 4) 96 #[.agg cs.toArray] (by kernel_rfl) rfl rfl (by kernel_rfl) (by go_simp) (HD.out _ (below_then HB HB.size hS)) ?_
 rintro _ w2 ⟨cs1, rfl, ho, b2⟩
 have hS := below_then hS hS.size b2
 refine ⟨_, rfl, hS, ?_⟩
 have F4 : Hid (∀ W, (Instr.field 69 (.agg cs1.toArray) 4).run prog W = .ok (.int .i64 nt) W) := Hh (fun W => by
  obtain ⟨v1, v2, v3, rfl, _⟩ := ho
  rw [← HNT.out]
  exact rs_fld4 ..)
 clear ho HNT
 simp only [Act.put, lsA, lsB, lsC]
 refine held_seq hS 1 [2] rfl (by kernel_rfl) (fun _ _ _ _ _ h => h) rfl rfl ?_
 (refine ⟨_, (.int .i64 nt), rfl, .inl ⟨rfl, fun V hV => (exec_fld 69 (.tmp 4) 4 rfl rfl (F4.out V))⟩, ?_⟩; simp only [Act.put, lsA, lsB, lsC])
 simp only [SeqC]
 refine held_call 4 (some 7) 69 #[.agg cs.toArray] (by kernel_rfl) rfl rfl (by kernel_rfl) (by go_simp) (MD.out _ (below_then HB HB.size hS)) ?_
 rintro _ w3 ⟨rfl, b3⟩
 have hS := below_then hS hS.size b3
 refine ⟨_, rfl, hS, ?_⟩
 simp only [Act.put, lsA, lsB, lsC]
 refine held_seq hS 2 [5,6] rfl (by kernel_rfl) (fun _ _ _ _ _ h => h) rfl rfl ?_
 repeat (refine ⟨_, _, rfl, .inl ⟨rfl, fun W hW => rfl⟩, ?_⟩; simp only [Act.put, lsA, lsB, lsC])
 simp only [SeqC]
 refine wpAnyH_done (by kernel_rfl) ?_ _
 go_wp2_with fail
 go_ret
 refine RetB.mk ?_ (below_then HB HB.size hS)
 refine ret_int ?_
 rw [HM.out]
 rw [IntWalk.i64_in _ (by omega)]
 simp
end Go.Proofs.YthnbcmlnpdabhaaGreat

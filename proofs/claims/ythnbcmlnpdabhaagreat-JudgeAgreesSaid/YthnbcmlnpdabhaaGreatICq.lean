/-
  Layer 21 (setup): Held, where a resolv alone is told.
-/
import Derived.Test.YthnbcmlnpdabhaaGreatIBq
import Derived.Test.YthnbcmlnpdabhaaGreatHXq
import Derived.OwnWalk
namespace Go.Proofs.YthnbcmlnpdabhaaGreat
open _root_.Go.Proofs.Tryz
open Go.RowKit
set_option maxRecDepth 100000
set_option linter.unusedVariables false
set_option linter.unusedSimpArgs false
structure Rs where
 sv : List oi
 se : List (List (List UInt8))
 so : List (oi × Int)
 nd : Int
 tmo : Int
 at_ : Int
 ro : Bool
 vc : Bool
 si : Bool
 ed : Bool
def sL (v1 v2 v3 : Value) (r : Rs) : List Value := [v1, v2, v3, .int .i64 r.nd, .int .i64 r.tmo, .int .i64 r.at_, .bool r.ro, .bool r.vc, .bool r.si, .bool r.ed]
def nw (r : Rs) : Rs := { r with sv := if rK CT r.sv 3 = [] then [rC 127 0 0 1] else rK CT r.sv 3, se := rK Ho r.se 6, so := rK Hn r.so 10, nd := min (max r.nd 0) 15, tmo := min (max r.tmo 1) 30, at_ := min (max r.at_ 1) 5 }
def vg (w : World) (cs : List Value) (r : Rs) : Prop := ∃ A1 c1 A2 c2 A3 c3, cs = sL (.slice A1 r.sv.length c1) (.slice A2 r.se.length c2) (.slice A3 r.so.length c3) r /\ UH w A1 r.sv /\ yu w A2 r.se /\ UM w A3 r.so /\ r.sv.length <= 17592186044416 /\ r.se.length <= 17592186044416 /\ r.so.length <= 17592186044416
def Oc (w0 w : World) (cs : List Value) (r : Rs) : Prop := ∃ v1 v2 v3, cs = sL v1 v2 v3 r /\ uL w 0 v1 r.sv /\ VV w0 w 0 v2 r.se /\ VU w 0 v3 r.so
def SZ (w0 : World) (r : Rs) (w : World) (e : Ending) (w' : World) : Prop := ∃ cs v1 v2 v3, e = .returned (.agg (cs ++ [v1, v2, v3]).toArray) /\ Oc w0 w' cs (nw r) /\ Below w.heap.size w w'
theorem Np (m : Nat) (w : World) : Calls prog 135 #[nA, .int .i64 m, .func (.func 136) #[] #[]] w (rN nA w) := by
 unfold nA;go_enter func135, ntmps135;go_wp2_with fail;refine wp_loop_rounds 1 ?_;rw [rounds_succ];exact j2
theorem Nq (m : Nat) (w : World) : Calls prog 139 #[nA, .int .i64 m, .func (.func 140) #[] #[]] w (rN nA w) := by
 unfold nA;go_enter func139, ntmps139;go_wp2_with fail;refine wp_loop_rounds 1 ?_;rw [rounds_succ];exact j2
theorem Nr (g : Nat) (c : Nat) (w : World) : Calls prog 187 #[.slice (some ⟨g, 0, none⟩) 0 c, .int .i64 0, .func (.func 188) #[] #[]] w (rN nA w) := by
 unfold nA;go_enter func187, ntmps187;go_wp2_with fail;refine wp_loop_rounds 1 ?_;rw [rounds_succ];exact j2
theorem CY (w : World) : Calls prog 138 #[nA] w (nM nA w) := by
 have hmk : ∀ w, (Instr.makeSlice 167 (.int .i64 0) (.int .i64 0)).run prog w = .ok (.slice (some ⟨w.heap.size, 0, none⟩) 0 0) (w.alloc (.cells #[] 226)) := fun _ => by kernel_rfl
 have HN := Hh (fun g W => Nr g 0 W);have HB : Below w.heap.size w (w.alloc (.cells #[] 226)) := eC;unfold nA at HN ⊢;go_enter func138, ntmps138;go_wp2_with fail;refine wp_loop_rounds 1 ?_;rw [rounds_succ];go_wp2_with fail;refine (HN.out _ _).mono ?_;rintro _ w2 ⟨rfl, rfl⟩;exact jT
def UU (w : World) (e : Ending) (w' : World) : Prop := ∃ A n c, e = .returned (.slice A n c) /\ Below w.heap.size w w'
def S0 (k : Int) : List Value := [.int .i64 k, .bool true, .bool false, .bool false, .bool false]
theorem VZ : (prog.info? 242).map (·.size) = some 5 := by kernel_rfl
theorem JV (k : Int) (w : World) : Calls prog 186 #[.int .i64 k] w (nM (.agg (S0 k).toArray) w) := by
 go_enter func186, ntmps186;go_wp2_with fail;refine oP rfl w.heap.size rfl (L := S0 k) ((nj.new w 242 (S0 k)).alloc _) _ underlying242 rfl VZ rfl ?_;exact mL
theorem Ns (w : World) : Calls prog 137 #[] w (UU w) := by
 have S := Hh (fun k W => JV k W);unfold S0 at S;go_enter func137, ntmps137;go_wp2_with fail;refine (S.out 1 _).mono ?_;rintro _ w1 ⟨rfl, b1⟩;go_wp2_with fail;refine (S.out 2 _).mono ?_;rintro _ w2 ⟨rfl, b2⟩;go_wp2_with fail;go_ret;exact ⟨_, _, _, rfl, (nc b1 b1.size b2).alloc (by have := b1.size; have := b2.size; omega) _⟩
theorem Qr : (prog.info? 171).map (·.size) = some 13 := by kernel_rfl
theorem vx : (prog.info? 69).map (·.size) = some 10 := by kernel_rfl
theorem Oc.one {w0 w : World} {cs : List Value} {r : Rs} (h : Oc w0 w cs r) : ∀ v ∈ cs, v.oneCell' = true := by
 obtain ⟨v1, v2, v3, rfl, h1, h2, h3⟩ := h;obtain ⟨A1, c1, rfl⟩ := h1.form;obtain ⟨A2, c2, rfl⟩ := h2.form;obtain ⟨A3, c3, rfl⟩ := h3.form;intro v hv;simp only [sL, List.mem_cons, List.not_mem_nil, or_false] at hv;rcases hv with rfl | rfl | rfl | rfl | rfl | rfl | rfl | rfl | rfl | rfl <;> rfl
set_option maxHeartbeats 2000000 in
theorem vX (w0 : World) (cs : List Value) (r : Rs) (w : World) (h : vg w0 cs r) (hw : Below w0.heap.size w0 w) : Calls prog 87 #[.agg (cs ++ [nA, nA, nA]).toArray] w (SZ w0 r w) := by
 obtain ⟨A1, c1, A2, c2, A3, c3, rfl, h1, h2, h3, l1, l2, l3⟩ := h;have L1 : Hid (∀ W, Below w.heap.size w W -> Calls prog 127 #[.slice A1 r.sv.length c1, .int .i64 3, .func (.func 128) #[] #[]] W (wK 24 18 (fun _ => CR) (rK CT r.sv 3) W)) := Hh (fun W hb => MP A1 c1 r.sv 3 W (h1.mono (nc hw hw.size hb) (fun _ _ h => h)) l1 aj);have L2 : Hid (∀ W, Below w.heap.size w W -> Calls prog 130 #[.slice A2 r.se.length c2, .int .i64 6, .func (.func 131) #[] #[]] W (wK 26 1 (fun _ => TX w0) (rK Ho r.se 6) W)) := Hh (fun W hb => MU w0 A2 c2 r.se 6 W h2 (nc hw hw.size hb) l2 aj);have L3 : Hid (∀ W, Below w.heap.size w W -> Calls prog 132 #[.slice A3 r.so.length c3, .int .i64 10, .func (.func 133) #[] #[]] W (wK 236 19 (fun _ => PF) (rK Hn r.so 10) W)) := Hh (fun W hb => MR A3 c3 r.so 10 W (h3.mono (nc hw hw.size hb) (fun _ _ h => h)) l3 aj);obtain ⟨hr1, HR1⟩ : ∃ x, Hid (nw r = x) := eD;have HR : Hid (nw r = { r with sv := if rK CT r.sv 3 = [] then [rC 127 0 0 1] else rK CT r.sv 3, se := rK Ho r.se 6, so := rK Hn r.so 10, nd := min (max r.nd 0) 15, tmo := min (max r.tmo 1) 30, at_ := min (max r.at_ 1) 5 }) := Hh rfl;clear h1 h2 h3 l1 l2 l3 HR1 hr1 hw;generalize rK CT r.sv 3 = s1 at *;generalize rK Ho r.se 6 = s2 at *;generalize rK Hn r.so 10 = s3 at *;obtain ⟨svs, ses, sos, nd, tmo, att, ro, vc, si, ed⟩ := r;simp only at L1 L2 L3 HR;simp only [sL, List.cons_append, List.nil_append];generalize svs.length = n1 at *;generalize ses.length = n2 at *;generalize sos.length = n3 at *;unfold nA;go_enter func87, ntmps87;go_wp2_with fail;obtain ⟨X, hX⟩ : ∃ X, X = ((w.alloc (.cells #[.slice A1 n1 c1, .slice A2 n2 c2, .slice A3 n3 c3, .int .i64 nd, .int .i64 tmo, .int .i64 att, .bool ro, .bool vc, .bool si, .bool ed, .slice none 0 0, .slice none 0 0, .slice none 0 0] 171)).alloc (.cells #[.slice none 0 0, .slice none 0 0, .slice none 0 0, .int .i64 0, .int .i64 0, .int .i64 0, .bool false, .bool false, .bool false, .bool false, .slice none 0 0, .slice none 0 0, .slice none 0 0] 171)).alloc (.cells #[.slice A1 n1 c1, .slice A2 n2 c2, .slice A3 n3 c3, .int .i64 nd, .int .i64 tmo, .int .i64 att, .bool ro, .bool vc, .bool si, .bool ed] 69) := eE;rw [<- hX];have HX : Below w.heap.size w X := by rw [hX]; exact (((Below.refl _ _).alloc (Nat.le_refl _) _).alloc ag _).alloc al _
 obtain ⟨cz, hcz⟩ : ∃ cz : List Value, cz = [.slice none 0 0, .slice none 0 0, .slice none 0 0, .int .i64 0, .int .i64 0, .int .i64 0, .bool false, .bool false, .bool false, .bool false, .slice none 0 0, .slice none 0 0, .slice none 0 0] := eE;have C1 : nj X w.heap.size 171 [.slice A1 n1 c1, .slice A2 n2 c2, .slice A3 n3 c3, .int .i64 nd, .int .i64 tmo, .int .i64 att, .bool ro, .bool vc, .bool si, .bool ed, .slice none 0 0, .slice none 0 0, .slice none 0 0] := by rw [hX]; exact ((nj.new w _ _).alloc _).alloc _
 have C2 : nj X (w.heap.size + 1) 171 cz := by rw [hX, hcz]; exact (nj.ph _ _ _ _ ag).alloc _
 have C3 : nj X (w.heap.size + 1 + 1) 69 [.slice A1 n1 c1, .slice A2 n2 c2, .slice A3 n3 c3, .int .i64 nd, .int .i64 tmo, .int .i64 att, .bool ro, .bool vc, .bool si, .bool ed] := by rw [hX]; exact nj.ph _ _ _ _ ag
 have hz13 : cz.length = 13 := by rw [hcz]; rfl
 obtain ⟨cl, hcl⟩ : ∃ cl : List Value, cl = [.slice A1 n1 c1, .slice A2 n2 c2, .slice A3 n3 c3, .int .i64 nd, .int .i64 tmo, .int .i64 att, .bool ro, .bool vc, .bool si, .bool ed, .slice none 0 0, .slice none 0 0, .slice none 0 0] := eE;rw [<- hcl] at C1;have k10 : cl[10]? = some (.slice none 0 0) := jB;have k11 : cl[11]? = some (.slice none 0 0) := jB;have k12 : cl[12]? = some (.slice none 0 0) := jB;have h13 : w.heap.size ≠ w.heap.size + 1 + 1 := ak;have h23 : w.heap.size + 1 ≠ w.heap.size + 1 + 1 := ak;have h12 : w.heap.size < w.heap.size + 1 := ak;have hlo : w.heap.size <= w.heap.size + 1 + 1 := ak;clear hX hcz hcl;refine (L1.out _ HX).mono ?_;rintro _ w1 ⟨v1, rfl, o1, b1⟩;replace C1 := C1.below b1 C1.lt;replace C2 := C2.below b1 C2.lt;replace C3 := C3.below b1 C3.lt;have H1 := nc HX HX.size b1;replace o1 := nZ.zero o1;clear b1 L1 HX;obtain ⟨S1, hS1⟩ : ∃ S1, Hid ((if s1 = [] then [rC 127 0 0 1] else s1) = S1) := eD;rw [hS1.out] at HR;generalize w.heap.size + 1 + 1 = g3 at *;generalize w.heap.size + 1 = g2 at *;obtain ⟨Av, cv, hv⟩ := o1.form;subst hv;have d0 := C3.nf 0 rfl;have f0 := C3.frozen 0;go_upto_if 14 with fail;go_cut [] (fun wx => ∃ v, uL wx 0 v S1 /\ nj wx w.heap.size 171 cl /\ nj wx g2 171 cz /\ nj wx g3 69 [v, .slice A2 n2 c2, .slice A3 n3 c3, .int .i64 nd, .int .i64 tmo, .int .i64 att, .bool ro, .bool vc, .bool si, .bool ed] /\ Below w.heap.size w wx)
 case first =>
  by_cases hs : s1 = []
  case pos =>
   subst hs;have hq : S1 = [rC 127 0 0 1] := by rw [<- hS1.out, if_pos rfl]
   have QO : Hid (∀ W, Calls prog 129 #[.int .u8 127, .int .u8 0, .int .u8 0, .int .u8 1] W (nM (.agg (rC 127 0 0 1).cells.toArray) W)) := Hh (fun W => zL 127 0 0 1 W);have HQ := Hh hq;have hql : (rC 127 0 0 1).cells.length = 18 := rfl;have hqo : ∀ v ∈ (rC 127 0 0 1).cells, v.oneCell' = true := oi.qb _;have HI : Hid (CR (rC 127 0 0 1).cells (rC 127 0 0 1)) := Hh ⟨rfl, rfl⟩;clear hq hS1 HR;generalize rC 127 0 0 1 = qa at *;generalize qa.cells = qc at *;go_wp2_with fail;refine (QO.out _).mono ?_;rintro _ w2 ⟨rfl, b2⟩;have G1 := pD w1 g3 0 (.slice Av 0 cv);have E1 := (C1.sF (p := ⟨g3, 0, none⟩) h13 (.slice Av 0 cv)).below b2 (C1.sF (p := ⟨g3, 0, none⟩) h13 _).lt;have E2 := (C2.sF (p := ⟨g3, 0, none⟩) h23 (.slice Av 0 cv)).below b2 (C2.sF (p := ⟨g3, 0, none⟩) h23 _).lt;have E3 := (C3.set 0 (.slice Av 0 cv)).below b2 (C3.set 0 _).lt;simp only [List.set_cons_zero] at E3;have H2 := nc (ng H1 G1 H1.size hlo) (by simp [World.setCell]; exact H1.size) b2;clear QO b2 G1 C1 C2 C3 d0 f0 L2 L3 o1;go_wp2_with (refine nh (.buildSlice 65 1 #[(0, .tmp 15)]) rfl ?_; go_must (refine xm rfl 65 24 _ 18 32 underlying65 wJ aj aj (.tmp 15) rfl qc rfl hql ?_));intro w3 B4 KA;have O5 := nZ.one 18 B4 hql HI.out;replace E1 := E1.below KA E1.lt;replace E2 := E2.below KA E2.lt;replace E3 := E3.below KA E3.lt;have H3 := nc H2 H2.size KA;have e30 := E3.nf 0 rfl;have e3f := E3.frozen 0;clear HI KA H2 B4;go_wp2_with fail;go_meet
   case rel => refine ⟨_, ?_, E1.sF h13 _, E2.sF h23 _, E3.set 0 _, ng H3 (pD _ _ _ _) H3.size hlo⟩;rw [HQ.out];exact O5.oL (pD _ _ _ _) E3 aj
  case neg =>
   have hs0 : 0 < s1.length := by cases s1 with | nil => exact absurd rfl hs | cons _ _ => simp
   have hs1 : ((s1.length : Int) == 0) = false := by simp; exact hs
   have hq : S1 = s1 := by rw [<- hS1.out, if_neg hs]
   have HQ := Hh hq;clear hq hS1 HR hs;obtain ⟨ln, hln⟩ : ∃ ln, Hid (s1.length = ln) := eD;rw [hln.out] at o1 hs0 hs1 ⊢;go_wp2_with fail;go_meet
   case rel => refine ⟨_, ?_, C1.sF h13 _, C2.sF h23 _, C3.set 0 _, ng H1 (pD _ _ _ _) H1.size hlo⟩;rw [HQ.out];exact o1.oL (pD _ _ _ _) C3 aj
 case rest =>
  obtain ⟨v1, p1, E1, E2, E3, H2⟩ := hcut;clear C1 C2 C3 d0 f0 H1 o1 hS1;generalize wc = w2 at *;have d1 := E3.nf 1 rfl;obtain ⟨Aw, cw, hv⟩ := p1.form;subst hv;go_wp2_with fail;refine (L2.out _ H2).mono ?_;rintro _ w3 ⟨v2, rfl, o2, b3⟩;replace p1 := nZ.below (R' := CR) p1 b3 (fun _ _ h => h);have F1 := E1.below b3 E1.lt;have F2 := E2.below b3 E2.lt;have F3 := E3.below b3 E3.lt;have H3 := nc H2 H2.size b3;replace o2 := nZ.zero o2;obtain ⟨Ax, cx, hv⟩ := o2.form;subst hv;have d2 := F3.nf 2 rfl;have e1 := F3.nf 1 rfl;have ef := F3.frozen 1;clear L2 b3 E1 E2 E3 d1 H2;go_wp2_with fail;refine (L3.out _ (ng H3 (pD _ _ _ _) H3.size hlo)).mono ?_;rintro _ w4 ⟨v3, rfl, o3, b4⟩;have K3 := pD w3 g3 1 (.slice Ax s2.length cx);have G1 := (F1.sF (p := ⟨g3, 1, none⟩) h13 (.slice Ax s2.length cx)).below b4 (F1.sF (p := ⟨g3, 1, none⟩) h13 _).lt;have G2 := (F2.sF (p := ⟨g3, 1, none⟩) h23 (.slice Ax s2.length cx)).below b4 (F2.sF (p := ⟨g3, 1, none⟩) h23 _).lt;have G3 := (F3.set 1 (.slice Ax s2.length cx)).below b4 (F3.set 1 _).lt;replace p1 := nZ.below (R' := CR) (p1.oL K3 F3 aj) b4 (fun _ _ h => h);replace o2 := nZ.below (R' := TX w0) (o2.oL K3 F3 aj) b4 (fun _ _ h => h);replace o3 := nZ.zero o3;have H4 := nc (ng H3 K3 H3.size hlo) (by simp [World.setCell]; exact H3.size) b4;simp only [List.set_cons_zero, List.set_cons_succ] at G3;obtain ⟨Ay, cy, hv⟩ := o3.form;subst hv;have d2 := G3.nf 2 rfl;have d3 := G3.nf 3 rfl;have d4 := G3.nf 4 rfl;have d5 := G3.nf 5 rfl;have f2 := G3.frozen 2;have f3 := G3.frozen 3;have f4 := G3.frozen 4;have f5 := G3.frozen 5;have d11 := G1.nf 11 k11;clear K3 b4 F1 F2 F3 e1 ef L3 H3;go_wp2_with fail;refine (yF nd 0 15 _).mono ?_;rintro _ _ ⟨rfl, rfl⟩;go_wp2_with fail;refine (yF tmo 1 30 _).mono ?_;rintro _ _ ⟨rfl, rfl⟩;go_wp2_with fail;refine (yF att 1 5 _).mono ?_;rintro _ _ ⟨rfl, rfl⟩;go_wp2_with fail;have LS : Hid (∀ W, Calls prog 135 #[.slice none 0 0, .int .i64 8, .func (.func 136) #[] #[]] W (rN (.slice none 0 0) W)) := Hh (fun W => Np 8 W);have HH : Hid (∀ W, Calls prog 138 #[.slice none 0 0] W (nM (.slice none 0 0) W)) := Hh (fun W => CY W);have LV : Hid (∀ W, Calls prog 139 #[.slice none 0 0, .int .i64 0, .func (.func 140) #[] #[]] W (rN (.slice none 0 0) W)) := Hh (fun W => Nq 0 W);refine (LS.out _).mono ?_;rintro _ _ ⟨rfl, rfl⟩;go_wp2_with fail;refine (Ns _).mono ?_;rintro _ w5 ⟨Az, nz, cz', rfl, b5⟩;have Q1 := G1.sF (p := ⟨g3, 2, none⟩) h13 (.slice Ay s3.length cy) |>.sF (p := ⟨g3, 3, none⟩) h13 (.int .i64 (min (max nd 0) 15)) |>.sF (p := ⟨g3, 4, none⟩) h13 (.int .i64 (min (max tmo 1) 30)) |>.sF (p := ⟨g3, 5, none⟩) h13 (.int .i64 (min (max att 1) 5));have Q2 := G2.sF (p := ⟨g3, 2, none⟩) h23 (.slice Ay s3.length cy) |>.sF (p := ⟨g3, 3, none⟩) h23 (.int .i64 (min (max nd 0) 15)) |>.sF (p := ⟨g3, 4, none⟩) h23 (.int .i64 (min (max tmo 1) 30)) |>.sF (p := ⟨g3, 5, none⟩) h23 (.int .i64 (min (max att 1) 5));have Q3 := G3.set 2 (.slice Ay s3.length cy) |>.set 3 (.int .i64 (min (max nd 0) 15)) |>.set 4 (.int .i64 (min (max tmo 1) 30)) |>.set 5 (.int .i64 (min (max att 1) 5));simp only [List.set_cons_zero, List.set_cons_succ] at Q3;have KQ : w4.grownBy _ (some g3) := nT (nT (nT (pD w4 g3 2 (.slice Ay s3.length cy)) 3 (.int .i64 (min (max nd 0) 15))) 4 (.int .i64 (min (max tmo 1) 30))) 5 (.int .i64 (min (max att 1) 5));replace p1 := nZ.below (R' := CR) (p1.oL KQ G3 aj) b5 (fun _ _ h => h);replace o2 := nZ.below (R' := TX w0) (o2.oL KQ G3 aj) b5 (fun _ _ h => h);replace o3 := nZ.below (R' := PF) (o3.oL KQ G3 aj) b5 (fun _ _ h => h);have H5 := nc (ng H4 KQ H4.size hlo) (by simp [World.setCell]; exact H4.size) b5;replace Q1 := Q1.below b5 Q1.lt;replace Q2 := Q2.below b5 Q2.lt;replace Q3 := Q3.below b5 Q3.lt;clear KQ b5 G1 G2 G3 d2 d3 d4 d5 f2 f3 f4 f5 d11 H4 LS;go_wp2_with fail;obtain ⟨R, hR⟩ : ∃ R : List Value, R = [.slice Aw S1.length cw, .slice Ax s2.length cx, .slice Ay s3.length cy, .int .i64 (min (max nd 0) 15), .int .i64 (min (max tmo 1) 30), .int .i64 (min (max att 1) 5), .bool ro, .bool vc, .bool si, .bool ed] := eE;rw [<- hR] at Q3;have hRl : R.length = 10 := by rw [hR]; rfl
  have RO : Hid (∀ W W', Below w5.heap.size w5 W -> W.grownBy W' (some g2) -> nj W g2 171 cz -> Oc w0 W' R (nw ⟨svs, ses, sos, nd, tmo, att, ro, vc, si, ed⟩)) := Hh (fun W W' hb hg hk => by
   rw [HR.out];exact ⟨_, _, _, hR, (nZ.below (R' := CR) p1 hb (fun _ _ h => h)).oL hg hk aj, (nZ.below (R' := TX w0) o2 hb (fun _ _ h => h)).oL hg hk aj, (nZ.below (R' := PF) o3 hb (fun _ _ h => h)).oL hg hk aj⟩)
  have RON : Hid (∀ v ∈ R, v.oneCell' = true) := Hh (fun v hv => by
   rw [hR] at hv;simp only [List.mem_cons, List.not_mem_nil, or_false] at hv;rcases hv with rfl | rfl | rfl | rfl | rfl | rfl | rfl | rfl | rfl | rfl <;> rfl)
  have RB : Hid (∀ W, (Instr.build 171 #[(0, .agg R.toArray), (1, .slice none 0 0), (2, .slice Az nz cz'), (3, .slice none 0 0)]).run prog W = .ok (.agg (R ++ [Value.slice none 0 0, Value.slice Az nz cz', Value.slice none 0 0]).toArray) W) := Hh (fun W => by rw [hR]; kernel_rfl);clear hR HR p1 o2 o3;refine wp_region_held_drew (S := fun V => nj V w.heap.size 171 cl /\ nj V g3 69 R) (by kernel_rfl) ⟨Q1.drew, Q3.drew⟩ (fun hS => ?_);have HD : Below w5.heap.size w5 w5.drew := fw;refine nI hS 9 [0,1,2,4,5,6,7,8,9] rfl (by kernel_rfl) (fun _ _ _ _ _ h => h) rfl rfl ?_
  (refine ⟨_, _, rfl, .inl ⟨rfl, fun V hV => (nW 69 (.tmp 3) ⟨g3, 0, none⟩ rfl rfl (hV.2.pF 69 0 10 ak _ underlying69 rfl vx R (qj ak)))⟩, ?_⟩; simp only [Act.put, nB, nC, nD])
  repeat (refine ⟨_, _, rfl, .inl ⟨rfl, fun W hW => rfl⟩, ?_⟩; simp only [Act.put, nB, nC, nD])
  (refine ⟨_, _, rfl, .inl ⟨rfl, fun V hV => (nW 167 (.tmp 46) ⟨w.heap.size, 10, none⟩ rfl rfl (nN underlying167 rfl (hV.1.nf 10 k10)))⟩, ?_⟩; simp only [Act.put, nB, nC, nD])
  repeat (refine ⟨_, _, rfl, .inl ⟨rfl, fun W hW => rfl⟩, ?_⟩; simp only [Act.put, nB, nC, nD])
  (refine ⟨_, _, rfl, .inl ⟨rfl, fun V hV => (nW 169 (.tmp 50) ⟨w.heap.size, 12, none⟩ rfl rfl (nN underlying169 rfl (hV.1.nf 12 k12)))⟩, ?_⟩; simp only [Act.put, nB, nC, nD])
  repeat (refine ⟨_, _, rfl, .inl ⟨rfl, fun W hW => rfl⟩, ?_⟩; simp only [Act.put, nB, nC, nD])
  (refine ⟨_, _, rfl, .inl ⟨rfl, fun V hV => (nW 169 (.tmp 52) ⟨w.heap.size, 12, none⟩ rfl rfl (nN underlying169 rfl (hV.1.nf 12 k12)))⟩, ?_⟩; simp only [Act.put, nB, nC, nD])
  (refine ⟨_, (.int .i64 0), rfl, .inl ⟨rfl, fun V hV => (by kernel_rfl)⟩, ?_⟩; simp only [Act.put, nB, nC, nD])
  simp only [pa];refine oY 3 (some 48) 138 #[.slice none 0 0] (by kernel_rfl) rfl rfl (by kernel_rfl) aS (HH.out _) ?_;rintro _ w6 ⟨rfl, b6⟩;have hS : nj w6 w.heap.size 171 cl /\ nj w6 g3 69 R := ⟨hS.1.below b6 hS.1.lt, hS.2.below b6 hS.2.lt⟩;have HD := nc HD HD.size b6;refine ⟨_, rfl, hS, ?_⟩;simp only [Act.put, nB, nC, nD];refine oY 10 (some 55) 139 #[.slice none 0 0, .int .i64 0, .func (.func 140) #[] #[]] (by kernel_rfl) rfl rfl (by kernel_rfl) aS (LV.out _) ?_;rintro _ _ ⟨rfl, rfl⟩;refine ⟨_, rfl, hS, ?_⟩;simp only [Act.put, nB, nC, nD];refine nI hS 1 [11] rfl (by kernel_rfl) (fun _ _ _ _ _ h => h) rfl rfl ?_
  (refine ⟨_, (.agg (R ++ [Value.slice none 0 0, Value.slice Az nz cz', Value.slice none 0 0]).toArray), rfl, .inl ⟨rfl, fun V hV => (Ij 171 _ rfl #[(0, .agg R.toArray), (1, .slice none 0 0), (2, .slice Az nz cz'), (3, .slice none 0 0)] (by kernel_rfl) (RB.out V))⟩, ?_⟩; simp only [Act.put, nB, nC, nD])
  simp only [pa];have hone : ∀ v ∈ R ++ [Value.slice none 0 0, Value.slice Az nz cz', Value.slice none 0 0], v.oneCell' = true := by
   intro v hv;rcases List.mem_append.1 hv with h | h
   ·exact RON.out v h
   ·simp only [List.mem_cons, List.not_mem_nil, or_false] at h;rcases h with rfl | rfl | rfl <;> rfl
  have hfl : (R ++ [Value.slice none 0 0, Value.slice Az nz cz', Value.slice none 0 0]).length = 13 := by simp [hRl]
  refine pG 12 none 171 (.tmp 2) (.tmp 56) (by kernel_rfl) rfl rfl rfl (by kernel_rfl) g2 0 rfl (R ++ [Value.slice none 0 0, Value.slice Az nz cz', Value.slice none 0 0]) rfl (Q2.below HD Q2.lt) ak (by rw [hfl]; exact Qr) hone ?_;intro w7 B7 g7 s7;rw [List.take_zero, List.nil_append, Nat.zero_add] at B7;have B7' := oH B7 ak;have H7 := ng (nc H5 H5.size HD) g7 (by have := H5.size; have := HD.size; omega) (Nat.le_of_lt h12);have RF := Hh (RO.out _ _ HD g7 (Q2.below HD Q2.lt));refine ⟨⟨hS.1.grown g7 al, hS.2.grown g7 al⟩, ?_⟩;simp only [Act.put, nB, nC, nD];refine wpAnyH_done (by kernel_rfl) ?_ _;go_wp2_with fail;refine oP rfl g2 rfl B7' _ underlying171 rfl (by rw [hfl]; exact Qr) rfl ?_;exact ⟨R, _, _, _, rfl, RF.out, H7⟩
def V0 (w0 : World) (r : Rs) (w : World) (e : Ending) (w' : World) : Prop := ∃ cs, e = .returned (.agg cs.toArray) /\ Oc w0 w' cs r /\ Below w.heap.size w w'
theorem Oc.len {w0 w : World} {cs : List Value} {r : Rs} (h : Oc w0 w cs r) : cs.length = 10 := by obtain ⟨_, _, _, rfl, _⟩ := h; rfl
theorem vg.len {w : World} {cs : List Value} {r : Rs} (h : vg w cs r) : cs.length = 10 := by obtain ⟨_, _, _, _, _, _, rfl, _⟩ := h; rfl
theorem vg.below {w w' : World} {cs : List Value} {r : Rs} (h : vg w cs r) (hb : Below w.heap.size w w') : vg w' cs r := by
 obtain ⟨A1, c1, A2, c2, A3, c3, h0, h1, h2, h3, l⟩ := h;exact ⟨A1, c1, A2, c2, A3, c3, h0, h1.mono hb (fun _ _ h => h), MT h2 hb, h3.mono hb (fun _ _ h => h), l⟩
theorem Oc.below {w0 w w' : World} {cs : List Value} {r : Rs} (h : Oc w0 w cs r) (hb : Below w.heap.size w w') : Oc w0 w' cs r := by
 obtain ⟨v1, v2, v3, h0, h1, h2, h3⟩ := h;exact ⟨v1, v2, v3, h0, nZ.below h1 hb (fun _ _ h => h), nZ.below h2 hb (fun _ _ h => h), nZ.below h3 hb (fun _ _ h => h)⟩
theorem Bl (A1 A2 A3 : Option Addr) (n1 c1 n2 c2 n3 c3 : Nat) (r : Rs) (W : World) : (Instr.build 171 #[(0, .agg (sL (.slice A1 n1 c1) (.slice A2 n2 c2) (.slice A3 n3 c3) r).toArray)]).run prog W = .ok (.agg (sL (.slice A1 n1 c1) (.slice A2 n2 c2) (.slice A3 n3 c3) r ++ [nA, nA, nA]).toArray) W := by kernel_rfl
theorem Qs (a b c d e f g h i j v1 v2 v3 : Value) (W : World) : (Instr.field 171 (.agg ([a, b, c, d, e, f, g, h, i, j] ++ [v1, v2, v3]).toArray) 0).run prog W = .ok (.agg [a, b, c, d, e, f, g, h, i, j].toArray) W := by kernel_rfl
theorem Fp (cs : List Value) (h : cs.length = 10) (v1 v2 v3 : Value) (W : World) : (Instr.field 171 (.agg (cs ++ [v1, v2, v3]).toArray) 0).run prog W = .ok (.agg cs.toArray) W := by
 match cs, h with
 | [a, b, c, d, e, f, g, h, i, j], _ => exact Qs ..
theorem Bo {P : Program} {ops : Array Oper} {rest : List Oper} {o : Oper} {a : Act} {w : World} {Q : Exit -> Act -> World -> Prop} (hgd : o.guard = none) (t : TypeId) (x : Operand) (f : Nat) (ho : o.op = .field t x f) {v v' : Value} (hx : a.eval x = v) (hr : (Instr.field t v f).run P w = .ok v' w) (h : wpList P ops Q rest (a.put o.dst v') w) : wpList P ops Q (o :: rest) a w := by
 exact lG
theorem yd (w0 : World) (cs : List Value) (r : Rs) (w : World) (h : vg w0 cs r) (hw : Below w0.heap.size w0 w) : Calls prog 96 #[.agg cs.toArray] w (V0 w0 (nw r) w) := by
 have hl := h.len;have HD := Hh (fun W hb => vX w0 cs r W h (nc hw hw.size hb));have RB : Hid (∀ W, (Instr.build 171 #[(0, .agg cs.toArray)]).run prog W = .ok (.agg (cs ++ [nA, nA, nA]).toArray) W) := Hh (fun W => by obtain ⟨A1, c1, A2, c2, A3, c3, rfl, _⟩ := h; exact Bl ..);clear h hw;have HX : Below w.heap.size w ((w.alloc (.cells cs.toArray 69)).alloc (.cells (sL nA nA nA ⟨[], [], [], 0, 0, 0, false, false, false, false⟩).toArray 69)) := eG;have B1 := (nj.new w 69 cs).alloc (.cells (sL nA nA nA ⟨[], [], [], 0, 0, 0, false, false, false, false⟩).toArray 69);have B2 := nj.ph (w.alloc (.cells cs.toArray 69)) 69 (sL nA nA nA ⟨[], [], [], 0, 0, 0, false, false, false, false⟩) (w.heap.size + 1) ag;have hz : (sL nA nA nA ⟨[], [], [], 0, 0, 0, false, false, false, false⟩).length = 10 := rfl;have hg : w.heap.size <= w.heap.size + 1 := ak;obtain ⟨W0, hW⟩ : ∃ W0, W0 = (w.alloc (.cells cs.toArray 69)).alloc (.cells (sL nA nA nA ⟨[], [], [], 0, 0, 0, false, false, false, false⟩).toArray 69) := eE;have HW := Hh hW;rw [<- hW] at HX B1 B2;clear hW;go_enter func96, ntmps96;go_wp2_with (first
  | (refine nh (.load 69 (.tmp 1)) rfl ?_; go_must (refine ni rfl _ _ rfl w.heap.size 0 rfl ((nj.new w 69 cs).alloc _) 10 ak _ underlying69 rfl vx cs (qj ak) ?_))
  | (refine nh (.build 171 #[(0, .tmp 3)]) rfl ?_; go_must (refine oo rfl 171 _ rfl #[(0, .agg cs.toArray)] cM (RB.out _) ?_)))
 refine (HD.out _ (by rw [HW.out] at HX; exact HX)).mono ?_;rintro _ w1 ⟨cs1, v1, v2, v3, rfl, ho, b1⟩;have b1' : Below W0.heap.size W0 w1 := by rw [HW.out]; exact b1
 have B2' := B2.below b1' B2.lt;have H1 := nc HX HX.size b1';have hl1 := ho.len;have ho1 := Hh ho.one;have HO := Hh ho;clear b1 b1' B1 B2 ho HX HW HD RB;generalize w.heap.size + 1 = g2 at *;go_wp2_with (first
  | (refine nh (.field 171 (.tmp 5) 0) rfl ?_; go_must (refine Bo rfl 171 (.tmp 5) 0 rfl rfl (Fp cs1 hl1 v1 v2 v3 _) ?_))
  | (refine nh (.store 69 (.tmp 2) (.tmp 6)) rfl (ab rfl g2 0 cs1 B2' ak cN ho1.out ?_)))
 intro w2 B3 g3 _;have B3' := oH B3 ak;have H2 := ng H1 g3 H1.size hg;go_wp2_with fail;refine oP rfl g2 rfl B3' _ underlying69 rfl cN rfl ?_;refine ⟨cs1, rfl, ?_, H2⟩;obtain ⟨u1, u2, u3, h0, h1, h2, h3⟩ := HO.out;exact ⟨u1, u2, u3, h0, h1.oL g3 B2' aj, h2.oL g3 B2' aj, h3.oL g3 B2' aj⟩
def tZ (l : List oi) : List Value := (l.map oi.cells).flatten
theorem Bp (a b : List oi) : tZ (a ++ b) = tZ a ++ tZ b := by simp [tZ]
theorem ua : ∀ (l : List oi), (∀ a ∈ l, a.ip.length = 16) -> (tZ l).length = l.length * 18
 | [], _ => rfl
 | a :: l, h => by
  have h1 := ua l (fun x hx => h x (List.mem_cons_of_mem _ hx));have h2 := a.nV (h a (List.mem_cons_self ..));show (a.cells ++ tZ l).length = _;rw [List.length_append, h1, h2, List.length_cons]; omega
theorem Im (l : List oi) : ∀ v ∈ tZ l, v.oneCell' = true := by
 intro v hv;obtain ⟨c, hc, hv⟩ := List.mem_flatten.1 hv;obtain ⟨a, _, rfl⟩ := List.mem_map.1 hc;exact a.qb v hv
theorem Bv : ∀ {css : List (List Value)} {l : List oi}, tq CR css l -> css.flatten = tZ l /\ ∀ a ∈ l, a.ip.length = 16
 | [], [], _ => ⟨rfl, ag⟩
 | cs :: css, a :: l, h => by
  obtain ⟨h1, h2⟩ := Bv h.2;obtain ⟨h3, h4⟩ := h.1;refine ⟨?_, ?_⟩
  ·show cs ++ css.flatten = a.cells ++ tZ l;rw [h1, h3]
  ·
   intro x hx;rcases List.mem_cons.1 hx with rfl | hx
   ·exact h4
   ·exact h2 x hx
theorem Ln : ∀ (l : List oi), (∀ a ∈ l, a.ip.length = 16) -> tq CR (l.map oi.cells) l
 | [], _ => trivial
 | a :: l, h => ⟨⟨rfl, h a (List.mem_cons_self ..)⟩, Ln l (fun x hx => h x (List.mem_cons_of_mem _ hx))⟩
theorem uL.ip {w : World} {B : Nat} {v : Value} {l : List oi} (h : uL w B v l) : ∀ a ∈ l, a.ip.length = 16 := by obtain ⟨css, _, h2⟩ := h; exact (Bv h2).2
theorem uL.own {w : World} {B : Nat} {v : Value} {l : List oi} (h : uL w B v l) : w.ownsRow B 24 18 v l.length (tZ l) := by obtain ⟨css, h1, h2⟩ := h; rw [(Bv h2).1] at h1; exact h1
theorem uL.mk {w : World} {B : Nat} {v : Value} {l : List oi} (h : w.ownsRow B 24 18 v l.length (tZ l)) (hi : ∀ a ∈ l, a.ip.length = 16) : uL w B v l := ⟨l.map oi.cells, h, Ln l hi⟩
theorem uL.piece {w : World} {B : Nat} {A : Option Addr} {c : Nat} {l : List oi} (h : uL w B (.slice A l.length c) l) (k n : Nat) (hk : k + n <= l.length) (hl : 0 < l.length) : ∃ g, A = some ⟨g, 0, none⟩ /\ g < w.heap.size /\ w.rangeAt g (0 + k * 18) (tZ ((l.drop k).take n)) := by
 have hi := h.ip;have ho := h.own;obtain ⟨g, L, hA, hb, ht, _⟩ := yD ho hl (ua l hi);refine ⟨g, hA, hb.lt, ?_⟩;have e : l = l.take k ++ ((l.drop k).take n ++ (l.drop k).drop n) := by rw [List.take_append_drop, List.take_append_drop]
 have h1 : (tZ (l.take k)).length = k * 18 := by rw [ua _ (fun a ha => hi a (List.mem_of_mem_take ha))]; simp; omega
 have h2 : (tZ ((l.drop k).take n)).length = n * 18 := by rw [ua _ (fun a ha => hi a (List.mem_of_mem_drop (List.mem_of_mem_take ha)))]; simp; omega
 have hsub : (L.drop (k * 18)).take (n * 18) = tZ ((l.drop k).take n) := by
  have e2 : (L.take (l.length * 18)).drop (k * 18) = (L.drop (k * 18)).take (l.length * 18 - k * 18) := List.drop_take ..;have e3 : ((L.take (l.length * 18)).drop (k * 18)).take (n * 18) = tZ ((l.drop k).take n) := by
   rw [ht]
   conv => lhs; rw [e, Bp, Bp]
   rw [<- h1, List.drop_left, <- h2, List.take_left]
  rw [e2, List.take_take, Nat.min_eq_left (by have := Nat.mul_le_mul_right 18 hk; rw [Nat.add_mul] at this; omega)] at e3;exact e3
 rw [<- hsub, Nat.zero_add];refine hb.range _ _ ?_;have hLl : l.length * 18 <= L.length := by have := congrArg List.length ht;rw [ua l hi, List.length_take] at this; omega
 have := Nat.mul_le_mul_right 18 hk;rw [Nat.add_mul] at this; omega
theorem S6 {w : World} {B : Nat} {e : TypeId} {s : Nat} {A : Option Addr} {n c : Nat} {xs : List Value} (h : w.ownsRow B e s (.slice A n c) n xs) : n <= c := by
 rcases h.2 with ⟨h, h0⟩ | ⟨g, cap, cur, hv, _, _, hc, _⟩
 ·injection h with _ _ h; omega
 ·injection hv with _ _ h; omega
def vY (r : Rs) (turn : Int) : Nat := if r.ro then (IntKind.u64.wrap turn % (nw r).sv.length).toNat else 0
def rL (r : Rs) (turn : Int) : List oi := (nw r).sv.drop (vY r turn) ++ (nw r).sv.take (vY r turn)
theorem zv (r : Rs) : 0 < (nw r).sv.length /\ (nw r).sv.length <= 3 := by
 unfold nw;simp only;split
 ·exact ⟨ag, ag⟩
 ·rename_i h;refine ⟨List.length_pos_iff.2 h, ?_⟩;unfold rK; simp; omega
theorem Lo (r : Rs) (turn : Int) : vY r turn < (nw r).sv.length := by
 have h := (zv r).1;unfold vY;split
 ·have h1 := Int.emod_lt_of_pos (IntKind.u64.wrap turn) (show (0 : Int) < (nw r).sv.length by omega);have h2 := Int.emod_nonneg (IntKind.u64.wrap turn) (show ((nw r).sv.length : Int) ≠ 0 by omega);omega
 ·exact h
theorem V1 : ∃ i, prog.info? 24 = some i /\ i.zero = some (.agg oi.zero.cells.toArray) /\ i.size = 18 /\ i.bytes = 32 := info_parts wJ
def UW (l : List oi) (w : World) (e : Ending) (w' : World) : Prop := ∃ v, e = .returned v /\ uL w' 0 v l /\ Below w.heap.size w w'
set_option maxHeartbeats 1000000 in
theorem Io (w0 : World) (cs : List Value) (r : Rs) (turn : Int) (w : World) (h : vg w0 cs r) (hw : Below w0.heap.size w0 w) : Calls prog 141 #[.agg cs.toArray, .int .i64 turn] w (UW (rL r turn) w) := by
 have hl := h.len;have HD := Hh (fun W hb => yd w0 cs r W h (nc hw hw.size hb));obtain ⟨hn0, hn3⟩ := zv r;have hat := Lo r turn;have HT : Hid (vY r turn = if r.ro then (IntKind.u64.wrap turn % (nw r).sv.length).toNat else 0) := Hh rfl;have HS : Hid (rL r turn = (nw r).sv.drop (vY r turn) ++ (nw r).sv.take (vY r turn)) := Hh rfl;have hro : (nw r).ro = r.ro := rfl;have HRO := Hh hro;clear h hw hro;generalize vY r turn = at_ at *;have HB : Below w.heap.size w (w.alloc (.cells cs.toArray 69)) := eC;go_enter func141, ntmps141;go_wp2_with (refine nh (.load 69 (.tmp 2)) rfl ?_; go_must (refine ni rfl _ _ rfl w.heap.size 0 rfl (nj.new w 69 cs) 10 ak _ underlying69 rfl vx cs (qj ak) ?_));refine (HD.out _ HB).mono ?_;rintro _ w1 ⟨cs1, rfl, ho, b1⟩;have B1 := (nj.new w 69 cs).below b1 (nj.new _ _ _).lt;have H1 := nc HB HB.size b1;have hl1 := ho.len;have ho1 := Hh ho.one;have HO := Hh ho;clear b1 ho HB HD;go_wp2_with (refine nh (.store 69 (.tmp 2) (.tmp 9)) rfl (ab rfl w.heap.size 0 cs1 B1 ak cN ho1.out ?_));intro w2 B3 g3 sw;clear sw;have B2 := oH B3 ak;have H2 := ng H1 g3 H1.size (Nat.le_refl _);obtain ⟨v1, v2, v3, hcs, p1, p2, p3⟩ := HO.out;replace p1 := p1.oL g3 B1 aj;obtain ⟨A, c, hv⟩ := p1.form;rw [hv] at p1 hcs;have d0 := B2.nf 0 (u := .slice A (nw r).sv.length c) aZ;have d6 := B2.nf 6 (u := .bool (nw r).ro) aZ;rw [HRO.out] at d6;clear hcs hv p2 p3 HO B3 g3 B1 H1 ho1 B2;generalize (nw r).sv = S at *;have hwn : IntKind.u64.wrap (S.length : Int) = S.length := fK;have DV := Hh (AX turn S.length ak ak);have hn0' : ¬ (S.length : Int) = 0 := ak;have hn0'' : (0 : Int) < S.length := ak;have hn1 : decide (0 < S.length) = true := by simpa using hn0
 go_upto_region 4 with fail;go_cut [18] (fun v wx => v = .bool r.ro /\ wx = w2)
 case first =>
  cases hro : r.ro with
  | true => exact mG
  | false => exact mG
 obtain ⟨rfl, rfl⟩ := hcut;go_upto_if 18 with fail;go_cut [6] (fun v wx => v = .int .i64 at_ /\ wx = wc)
 case first =>
  cases hro : r.ro with
  | true =>
   rw [hro] at HT d6;clear hro HRO;go_wp2_with fail;go_meet
   case rel => refine ⟨?_, rfl⟩;rw [DV.out];have h1 := Int.emod_nonneg (IntKind.u64.wrap turn) (show (S.length : Int) ≠ 0 by omega);have h2 := HT.out;simp only [if_true] at h2;rw [h2, Int.toNat_of_nonneg h1]
  | false =>
   rw [hro] at HT d6;clear hro HRO;go_wp2_with fail;go_meet
   case rel => have h2 := HT.out;simp only [Bool.false_eq_true, if_false] at h2;exact ⟨by rw [h2]; rfl, rfl⟩
 case rest =>
  obtain ⟨rfl, rfl⟩ := hcut;clear d6 HT DV hwn hn1;obtain ⟨ai, ai1, ai2, ai3, ai4⟩ := V1;go_wp2_with (refine nh (.makeSlice 65 (.const (.int .i64 0)) (.tmp 25)) rfl ?_; go_must (refine wpList_make_own wc rfl _ _ 65 rfl wc.heap.size 24 ai _ 18 underlying65 ai1 ai2 ai3 .i64 .i64 (S.length : Int) S.length rfl rfl rfl (by rw [ai4]; omega) aA (Nat.le_refl _) ?_));intro w3 o3 g3;have K3 : Below wc.heap.size wc w3 := ⟨g3.os, g3.tape, g3.output, g3.size, fun i hi => g3.block i hi ag⟩;have p3 := nZ.below (R' := CR) p1 K3 (fun _ _ h => h);have e0 : w3.cell? ⟨w.heap.size, 0, none⟩ = some (.slice A S.length c) := by rw [<- d0]; exact K3.cell (p := ⟨w.heap.size, 0, none⟩) (Ey d0)
  have H3 := nc H2 H2.size K3;obtain ⟨gs, hA, hgs, hr1⟩ := uL.piece p1 at_ (S.length - at_) ak ak;obtain ⟨_, hA2, _, hr2⟩ := uL.piece p1 0 at_ ak ak;rw [hA] at hA2;injection hA2 with hA2; injection hA2 with hA2; subst hA2;subst hA;have hsz3 := K3.size;have hwlt : w.heap.size < wc.heap.size := Ey d0;replace hr1 := nO hr1 K3 hgs;replace hr2 := nO hr2 K3 hgs;rw [Nat.zero_add] at hr1;rw [Nat.zero_mul, Nat.add_zero] at hr2;have hip := uL.ip p3;have hcap := S6 (uL.own p3);have hca : ¬ c = at_ := ak;have hac : at_ <= c := ak;have hac' : (at_ : Int) <= c := ak;have hwc : w.heap.size <= wc.heap.size := H2.size;have l1 : (tZ ((S.drop at_).take (S.length - at_))).length = (S.length - at_) * 18 := by rw [ua _ (fun a ha => hip a (List.mem_of_mem_drop (List.mem_of_mem_take ha)))]; simp
  have l2 : (tZ ((S.drop 0).take at_)).length = at_ * 18 := by rw [ua _ (fun a ha => hip a (List.mem_of_mem_drop (List.mem_of_mem_take ha)))]; simp; omega
  have hsum : S.length - at_ + at_ = S.length := ak;have FIN : Hid (tZ ((S.drop at_).take (S.length - at_)) ++ tZ ((S.drop 0).take at_) = tZ (rL r turn) /\ (rL r turn).length = S.length /\ ∀ a ∈ rL r turn, a.ip.length = 16) := Hh (by
   rw [HS.out];refine ⟨?_, al, ?_⟩
   ·rw [<- Bp, List.drop_zero, List.take_of_length_le ag]
   ·
    intro a ha;rcases List.mem_append.1 ha with h | h
    ·exact hip a (List.mem_of_mem_drop h)
    ·
     exact hip a (List.mem_of_mem_take h))
  have o1 := Im ((S.drop at_).take (S.length - at_));have o2 := Im ((S.drop 0).take at_);clear K3 g3 d0 p1 ai1 ai2 ai3 ai4 hip hcap;generalize tZ ((S.drop at_).take (S.length - at_)) = N1 at *;generalize tZ ((S.drop 0).take at_) = N2 at *;go_wp2_with (at_builtin; go_must (refine sY w3 rfl (.tmp 27) (.tmp 31) 65 rfl 24 _ 18 32 underlying65 wJ (by kernel_rfl) aj wc.heap.size _ 0 [] rfl o3 hsz3 (some ⟨gs, at_ * 18, none⟩) (S.length - at_) (c - at_) N1 (by simp [Act.eval, hca]) (fun _ => ⟨gs, at_ * 18, rfl, hr1⟩) l1 o1 aA ak _ rfl ?_));intro A4 c4 w4 o4 g4;have g4' : w3.grownBy w4 (some wc.heap.size) := g4;have hr2' : w4.rangeAt gs 0 N2 := fun j v hv => by rw [<- hr2 j v hv]; exact uT g4' ⟨gs, _, none⟩ al al
  have e0' : w4.cell? ⟨w.heap.size, 0, none⟩ = some (.slice (some ⟨gs, 0, none⟩) S.length c) := by rw [<- e0]; exact uT g4' ⟨w.heap.size, 0, none⟩ al al
  have H4 := ng H3 g4' H3.size hwc;have hsz4 := g4'.size;clear g4 g4' e0 hr1 hr2 o3 H3 hca;go_wp2_with (at_builtin; go_must (refine sY w4 rfl (.tmp 33) (.tmp 37) 65 rfl 24 _ 18 32 underlying65 wJ (by kernel_rfl) aj wc.heap.size _ (S.length - at_) N1 (by simp [Act.eval]) o4 (Nat.le_trans hsz3 hsz4) (some ⟨gs, 0, none⟩) at_ c N2 (by simp [Act.eval]) (fun _ => ⟨gs, 0, rfl, hr2'⟩) l2 o2 aA ak S.length hsum.symm ?_));intro A5 c5 w5 o5 g5;have H5 := (H4.grown g5 (Nat.le_trans hwc (Nat.le_trans hsz3 hsz4)) (fun k hk => Nat.le_trans hwc (sf o4 k hk)));clear g5;go_wp2_with fail;go_ret;obtain ⟨f1, f2, f3⟩ := FIN.out;refine ⟨_, rfl, uL.mk ?_ f3, H5⟩;rw [f2, <- f1];exact sX o5
def Ip (cs : List Value) (a : oi) : Prop := ∃ r : Int, cs = a.cells ++ [.int .i64 r] /\ a.ip.length = 16
theorem Ip.len {cs : List Value} {a : oi} (h : Ip cs a) : cs.length = 19 := by obtain ⟨r, rfl, h⟩ := h; simp [a.nV h]
abbrev ye (w : World) (B : Nat) (v : Value) (l : List oi) : Prop := nZ w B 249 19 Ip v l
def V2 : List Value := oi.zero.cells ++ [.int .i64 0]
theorem Iq : (prog.info? 249).map (fun i => (i.zero, i.size, i.bytes)) = some (some (.agg V2.toArray), 19, 40) := by kernel_rfl
theorem JX (fam zone r : Int) (b0 b1 b2 b3 b4 b5 b6 b7 b8 b9 b10 b11 b12 b13 b14 b15 : UInt8) (W : World) :
  (Instr.build 249 #[(0, .agg (oi.cells ⟨fam, [b0, b1, b2, b3, b4, b5, b6, b7, b8, b9, b10, b11, b12, b13, b14, b15], zone⟩).toArray), (1, .int .i64 r)]).run prog W = .ok (.agg (oi.cells ⟨fam, [b0, b1, b2, b3, b4, b5, b6, b7, b8, b9, b10, b11, b12, b13, b14, b15], zone⟩ ++ [Value.int .i64 r]).toArray) W := by
 kernel_rfl
theorem Qt (a : oi) (r : Int) (h : a.ip.length = 16) (W : World) : (Instr.build 249 #[(0, .agg a.cells.toArray), (1, .int .i64 r)]).run prog W = .ok (.agg (a.cells ++ [Value.int .i64 r]).toArray) W := by
 obtain ⟨fam, ip, zone⟩ := a;have h' : ip.length = 16 := h;clear h;match ip, h' with
 | [b0, b1, b2, b3, b4, b5, b6, b7, b8, b9, b10, b11, b12, b13, b14, b15], _ => exact JX fam zone r b0 b1 b2 b3 b4 b5 b6 b7 b8 b9 b10 b11 b12 b13 b14 b15 W
theorem S8 (n : Int) (a b c d e g h i j : Value) (W : World) : (Instr.field 69 (.agg [a, b, c, d, e, .int .i64 n, g, h, i, j].toArray) 5).run prog W = .ok (.int .i64 n) W := by kernel_rfl
def sx (l : List oi) : Nat -> List oi
 | 0 => []
 | k + 1 => sx l k ++ l
theorem vZ (l : List oi) : ∀ k, (sx l k).length = k * l.length
 | 0 => by simp [sx]
 | k + 1 => by rw [sx, List.length_append, vZ l k, Nat.add_mul, Nat.one_mul]
def nY (r : Rs) (turn : Int) : List oi := sx (rL r turn) (nw r).at_.toNat
theorem yZ (r : Rs) (turn : Int) : (rL r turn).length = (nw r).sv.length := by
 have := Lo r turn;unfold rL; simp; omega
theorem Qu (r : Rs) : 1 <= (nw r).at_ /\ (nw r).at_ <= 5 := by
 show 1 <= min (max r.at_ 1) 5 /\ min (max r.at_ 1) 5 <= 5;omega
theorem BD (r : Rs) : 1 <= (nw r).tmo /\ (nw r).tmo <= 30 := by
 show 1 <= min (max r.tmo 1) 30 /\ min (max r.tmo 1) 30 <= 30;omega
def S9 (l : List oi) (w : World) (e : Ending) (w' : World) : Prop := ∃ v, e = .returned v /\ ye w' 0 v l /\ Below w.heap.size w w'
set_option maxHeartbeats 1000000 in
theorem Ec (w0 : World) (cs : List Value) (r : Rs) (turn : Int) (w : World) (h : vg w0 cs r) (hw : Below w0.heap.size w0 w) : Calls prog 88 #[.agg cs.toArray, .int .i64 turn] w (S9 (nY r turn) w) := by
 have hl := h.len;have HD := Hh (fun W hb => yd w0 cs r W h (nc hw hw.size hb));have SD := Hh (fun W hb => Io w0 cs r turn W h (nc hw hw.size hb));have HT : Hid (nY r turn = sx (rL r turn) (nw r).at_.toNat) := Hh rfl;have hsl := yZ r turn;have hs3 := (zv r).2;obtain ⟨ha1, ha2⟩ := Qu r;obtain ⟨na, hna⟩ : ∃ na : Nat, (nw r).at_ = na := ⟨(nw r).at_.toNat, ak⟩;rw [hna] at HT ha1 ha2;rw [Int.toNat_natCast] at HT;rw [<- hsl] at hs3;have HNA := Hh hna;clear h hw hsl hna;generalize rL r turn = S at *;have HB : Below w.heap.size w (w.alloc (.cells cs.toArray 69)) := eC;have B0 := nj.new w 69 cs;go_enter func88, ntmps88;go_wp2_with (refine nh (.load 69 (.tmp 2)) rfl ?_; go_must (refine ni rfl _ _ rfl w.heap.size 0 rfl B0 10 ak _ underlying69 rfl vx cs (qj ak) ?_));refine (SD.out _ HB).mono ?_;rintro _ w1 ⟨vS, rfl, oS, b1⟩;replace B0 := B0.below b1 B0.lt;have H1 := nc HB HB.size b1;clear b1 HB SD;go_wp2_with (refine nh (.load 69 (.tmp 2)) rfl ?_; go_must (refine ni rfl _ _ rfl w.heap.size 0 rfl B0 10 ak _ underlying69 rfl vx cs (qj ak) ?_));refine (HD.out _ H1).mono ?_;rintro _ w2 ⟨cs1, rfl, ho, b2⟩;have H2 := nc H1 H1.size b2;replace oS := nZ.below (R' := CR) oS b2 (fun _ _ h => h);have F5 : Hid (∀ W, (Instr.field 69 (.agg cs1.toArray) 5).run prog W = .ok (.int .i64 na) W) := Hh (fun W => by
  obtain ⟨v1, v2, v3, rfl, _⟩ := ho;rw [<- HNA.out];exact S8 ..)
 clear b2 ho H1 HD B0 HNA;obtain ⟨A, c, hv⟩ := oS.form;subst hv;go_wp2_with (refine nh (.field 69 (.tmp 14) 5) rfl ?_; go_must (refine Bo rfl 69 (.tmp 14) 5 rfl rfl (F5.out _) ?_));go_loopw [6, 16] (fun kv iv wr => ∃ k : Nat, k <= na /\ iv = .int .i64 k /\ ye wr w.heap.size kv (sx S k) /\ uL wr 0 (.slice A S.length c) S /\ Below w.heap.size w wr) (fun _ iv _ => na - (intOf iv).toNat)
 case atStart => exact ⟨0, Nat.zero_le _, rfl, nZ.nil _ _ _ _ _, oS, H2⟩
 clear oS H2;obtain ⟨k, hk, rfl, ho, oS, hB⟩ := hrel;by_cases hlt : k < na
 case neg => have hlt' : ¬ (k : Int) < na := ak;go_wp2_with fail;go_ret;refine ⟨_, rfl, ?_, hB⟩;rw [HT.out, show na = k by omega];exact nZ.zero ho
 have hlt' : (k : Int) < na := ak;obtain ⟨Ak, ck, hv⟩ := ho.form;subst hv;have hb3 : k * S.length <= 15 := by have h1 : k * S.length <= 4 * 3 := Nat.mul_le_mul ak hs3;omega
 have hrl : (sx S k).length <= 15 := by rw [vZ]; exact hb3
 have HR : Hid (sx S (k + 1) = sx S k ++ S) := Hh rfl;obtain ⟨wo, hwo⟩ : ∃ wo : World, wr = wo := eE;subst hwo;generalize sx S k = R at *;go_wp2_with fail;go_loopw [6, 21] (fun kv iv wx => ∃ j : Nat, j <= S.length /\ iv = .int .i64 j /\ ye wx w.heap.size kv (R ++ S.take j) /\ uL wx 0 (.slice A S.length c) S /\ Below w.heap.size w wx) (fun _ iv _ => S.length - (intOf iv).toNat)
 case atStart => exact ⟨0, Nat.zero_le _, rfl, by simpa using ho, oS, hB⟩
 clear ho oS hB;obtain ⟨j, hj, rfl, ho, oS, hB⟩ := hrel;by_cases hjl : j < S.length
 case neg =>
  have hjl' : ¬ (j : Int) < S.length := ak;rw [List.take_of_length_le ak] at ho;go_wp2_with fail;go_roundw
  case rel => exact ⟨k + 1, ak, eh, by rw [HR.out]; exact ho, oS, hB⟩
  case measure => simp [intOf]; omega
 have hjl' : (j : Int) < S.length := ak;have hle : (R ++ S.take j).length + 1 <= 100 := al;obtain ⟨Q, hQ⟩ : ∃ Q, Hid (R ++ S.take j = Q) := eD;rw [hQ.out] at ho hle;obtain ⟨Aj, cj, hv⟩ := ho.form;subst hv;obtain ⟨gs, hA, hgs, hr⟩ := oS.at_ (fun _ _ h => h.len) ak;obtain ⟨cx, hcx, hce, hip⟩ := hr j hjl;have hcl : cx.length = 18 := CR.len ⟨hce, hip⟩;have hone : ∀ v ∈ cx, v.oneCell' = true := jn;have RB : Hid (∀ W, (Instr.build 249 #[(0, .agg cx.toArray), (1, .int .i64 k)]).run prog W = .ok (.agg (cx ++ [Value.int .i64 k]).toArray) W) := Hh (fun W => by rw [hce]; exact Qt _ _ hip W);have TI : Hid (Ip (cx ++ [Value.int .i64 k]) S[j]) := Hh ⟨k, by rw [hce], hip⟩;have HS : Hid (S.take (j + 1) = S.take j ++ [S[j]]) := Hh (List.take_succ_eq_append_getElem hjl);have htl : (cx ++ [Value.int .i64 k]).length = 19 := by simp [hcl]
 have hto : ∀ v ∈ cx ++ [Value.int .i64 k], v.oneCell' = true := by
  intro v hv;rcases List.mem_append.1 hv with h | h
  ·exact hone v h
  ·simp at h; subst h; rfl
 have HO := Hh ho;have HOS := Hh oS;rw [Nat.zero_add] at hcx;subst hA;have hadz : (oi.zero.cells).length = 18 := oi.zero.nV rfl;have W1 : Below wr.heap.size wr (wr.alloc (.cells oi.zero.cells.toArray 24)) := eC;clear hce hip hr ho oS;obtain ⟨tc, htc⟩ : ∃ tc, cx ++ [Value.int .i64 k] = tc := eE;rw [htc] at RB TI htl hto;clear htc;go_wp2_with (first
  | (refine nh (.load 24 (.tmp 23)) rfl ?_; go_must (refine pv rfl 24 (.tmp 23) rfl gs (j * 18) rfl cx hcx _ underlying24 rfl bF ?_))
  | (refine nh (.store 24 (.tmp 9) (.tmp 24)) rfl (ab rfl wr.heap.size 0 cx (nj.new wr 24 oi.zero.cells) ak bF hone ?_)))
 intro w3 B3 g3 sw;clear sw;have B3' := oH B3 ak;have K3 := ng W1 g3 W1.size (Nat.le_refl _);clear B3 g3 W1 hcx;go_wp2_with (first
  | (refine nh (.load 24 (.tmp 9)) rfl ?_; go_must (refine ni rfl _ _ rfl wr.heap.size 0 rfl B3' 18 ak _ underlying24 rfl vp cx (qj ak) ?_))
  | (refine nh (.build 249 #[(0, .tmp 26), (1, .tmp 27)]) rfl ?_; go_must (refine oo rfl 249 _ rfl #[(0, .agg cx.toArray), (1, .int .i64 k)] cM (RB.out _) ?_))
  | (refine nh (.buildSlice 173 1 #[(0, .tmp 28)]) rfl ?_; go_must (refine xm rfl 173 249 _ 19 40 underlying173 Iq aj aj (.tmp 28) rfl tc rfl htl ?_)))
 intro w4 B4 K4;have K5 := nc K3 K3.size K4;have O4 := nZ.below (R' := Ip) HO.out K5 (fun _ _ h => h);have N4 := HO.out.ne K3.size;have S4 := nZ.below (R' := CR) HOS.out K5 (fun _ _ h => h);have H4 := nc hB hB.size K5;have hszz := K4.size;clear HO HOS K3 K4 K5 B3' hB;go_wp2_with (at_builtin; go_must (refine sZ _ rfl _ _ 173 rfl 249 _ 19 40 underlying173 Iq (by kernel_rfl) aj w.heap.size _ _ rfl O4 H4.size w3.heap.size tc S[j] rfl B4 N4 htl hto TI.out aA ak ?_));intro v5 w5 O5 g5;have hbs := O4.base;have S5 : uL w5 0 (.slice (some ⟨gs, 0, none⟩) S.length c) S := by obtain ⟨_, o4, _⟩ := O4;exact S4.stays (fun _ x => xJ x o4 aj g5) (fun _ _ x => x)
 have H5 := H4.grown g5 H4.size hbs;clear g5 O4 S4 H4 B4 N4;go_wp2_with fail;go_roundw
 case rel => exact ⟨j + 1, ak, eh, by rw [HS.out, <- List.append_assoc, hQ.out]; exact O5, S5, H5⟩
 case measure => simp [intOf]; omega
def Ed (r : Rs) : Nat := 3 * (nY r 0).length
def BF (r : Rs) : Nat := (nw r).tmo.toNat * Ed r
theorem yK (r : Rs) (turn : Int) : (nY r turn).length = (nw r).at_.toNat * (nw r).sv.length := by unfold nY; rw [vZ, yZ]
theorem v8 (r : Rs) (turn : Int) : 1 <= (nY r turn).length /\ (nY r turn).length <= 15 := by
 rw [yK];obtain ⟨h1, h2⟩ := zv r;obtain ⟨h3, h4⟩ := Qu r;exact ⟨Nat.mul_pos ak h1, Nat.le_trans (Nat.mul_le_mul (show (nw r).at_.toNat <= 5 by omega) h2) aj⟩
theorem Ir {P : Program} {w : World} {o : Oper} {a : Act} (t : TypeId) (x : Operand) (f : Nat) (ho : o.op = .field t x f) {v v' : Value} (hx : a.eval x = v) (hr : (Instr.field t v f).run P w = .ok v' w) : (execOp a.eval o).run P w = .ok (.value v') w := by
 unfold execOp;simp only [ho, hx, Sem.run_bind, hr, Result.andThen_ok, Sem.run_pure]
end Go.Proofs.YthnbcmlnpdabhaaGreat

/-
  Layer 30 (judge): try.
-/
import Derived.Test.YthnbcmlnpdabhaaGreatJDq
namespace Go.Proofs.YthnbcmlnpdabhaaGreat
open _root_.Go.Proofs.Tryz
open Go.RowKit
set_option maxRecDepth 100000
set_option linter.unusedVariables false
set_option linter.unusedSimpArgs false
theorem wU : ∀ (l : List Ev) (x : Xc), (nK x l).2.1.d.heard.length + tK (nK x l).2.2.1 <= x.d.heard.length + tK l /\ (nK x l).2.2.2.length + (nK x l).2.2.1.length <= l.length
 | [], x => ⟨Nat.le_refl _, Nat.le_refl _⟩
 | e :: l, x => by
  have h1 := Es x e;have e1 : tK (e :: l) = e.data.length + tK l := rfl;have hm : (if (ou x e).1.mat then [e] else []).length <= 1 := by split <;> simp
  unfold nK;split
  ·
   refine ⟨?_, ?_⟩
   ·show (ou x e).2.d.heard.length + tK l <= _;omega
   ·show (if (ou x e).1.mat then [e] else []).length + l.length <= _;rw [List.length_cons]; omega
  ·
   obtain ⟨i1, i2⟩ := wU l (ou x e).2;refine ⟨?_, ?_⟩
   ·show (nK (ou x e).2 l).2.1.d.heard.length + tK (nK (ou x e).2 l).2.2.1 <= _;omega
   ·show ((if (ou x e).1.mat then [e] else []) ++ (nK (ou x e).2 l).2.2.2).length + (nK (ou x e).2 l).2.2.1.length <= _;rw [List.length_append, List.length_cons]; omega
theorem Ck : ∀ (l : List Ev) (x : Xc), (nK x l).1.ends = false -> (nK x l).2.2.1 = []
 | [], x, _ => rfl
 | e :: l, x, h => by
  unfold nK at h ⊢;cases hE : (ou x e).1.ends with
  | true => rw [hE] at h; simp only [if_true] at h; rw [hE] at h; cases h
  | false => rw [hE] at h;simp only [Bool.false_eq_true, if_false] at h ⊢;exact Ck l _ h
def Db (kp : List Ev) (qp : List Qy) (r : TJ) : TJ := ⟨r.x, r.L, r.rest, kp ++ r.kept, r.means, r.ended, qp ++ r.qs⟩
structure Ug (T : TJ) (f : Nat) (x : Xc) (lg : Nat) (L : Lt) (l : List Ev) (kp : List Ev) (qp : List Qy) : Prop where
 e : T = Db kp qp (sN f x lg L l)
 pre : rq x
 l2 : lg <= 2
 fl : 3 <= f + lg
 us : L.us + 2 * f <= 999999992
 dl : L.ds.length <= 17592186044416
 hd : x.d.heard.length + tK l <= 8796093022208
structure Wk (K Q : Nat) (x0 : Xc) (f : Nat) (x : Xc) (l : List Ev) (kp : List Ev) (qp : List Qy) : Prop where
 kn : kp.length + l.length <= K
 qn : qp.length + f <= Q
 q : x.q = x0.q
 tmo : x.tmo = x0.tmo
 vc : x.vc = x0.vc
 ed : x.ed = x0.ed
 tr : x.tr = x0.tr
 k : x.k = x0.k
theorem Eu {x : Xc} (h : rq x) (L : Lt) (lg : Nat) : (oq x L lg).1.d.heard.length <= x.d.heard.length := by
 by_cases e : lg = 2
 ·subst e; rw [(xz h L).2.2.2.1]; exact Nat.zero_le _
 ·rw [(FZ L e).2.2]; exact Nat.le_refl _
theorem Ug.next {T : TJ} {f : Nat} {x : Xc} {lg : Nat} {L : Lt} {l kp : List Ev} {qp : List Qy} (h : Ug T (f + 1) x lg L l kp qp) (lg' : Nat) (l2 : lg' <= 2) (hlt : lg < lg') (u : uy × Xc × List Ev × List Ev) (hu : nK (oq x L lg).1 l = u)
  (e : sN (f + 1) x lg L l = Db u.2.2.2 [od x L] (sN f u.2.1 lg' (oV L) u.2.2.1)) : Ug T f u.2.1 lg' (oV L) u.2.2.1 (kp ++ u.2.2.2) (qp ++ [od x L]) := by
 obtain ⟨h1, h2, h3, h4, h5, h6, h7⟩ := h;have hs := (wU l (oq x L lg).1).1;have hh := Eu h2 L lg;have hp := wS (Ce h2 L lg).2.1 l;rw [hu] at hs hp;refine ⟨?_, hp, l2, ak, ?_, h6, ak⟩
 ·rw [h1, e];unfold Db;simp only [List.append_assoc]
 ·show L.us + 1 + 1 + 2 * f <= _;omega
theorem Wk.next {K Q : Nat} {x0 : Xc} {f : Nat} {x : Xc} {lg : Nat} {L : Lt} {l kp : List Ev} {qp : List Qy} (h : Wk K Q x0 (f + 1) x l kp qp) (u : uy × Xc × List Ev × List Ev) (hu : nK (oq x L lg).1 l = u) : Wk K Q x0 f u.2.1 u.2.2.1 (kp ++ u.2.2.2) (qp ++ [od x L]) := by
 obtain ⟨h1, h2, h3, h4, h5, h6, h7, h8⟩ := h;have hs := (wU l (oq x L lg).1).2;obtain ⟨a1, a2, a3, a4, a5, a6, a7, a8, a9, a10, a11⟩ := sO l (oq x L lg).1;obtain ⟨f1, f2, f3, f4, f5, f6, f7, f8, f9⟩ := uw x L lg;have hvc : (oq x L lg).1.vc = x.vc /\ (oq x L lg).1.ed = x.ed := iD;rw [hu] at hs a1 a2 a3 a4 a5 a6;refine ⟨by rw [List.length_append]; omega, by rw [List.length_append]; simp only [List.length_cons, List.length_nil]; omega, ?_, ?_, ?_, ?_, ?_, ?_⟩
 ·rw [a4, f8, h3]
 ·rw [a1, f4, h4]
 ·rw [a2, hvc.1, h5]
 ·rw [a3, hvc.2, h6]
 ·rw [a5, f2, h7]
 ·rw [a6, f3, h8]
theorem F8 (f : Nat) (x : Xc) (lg : Nat) (L : Lt) (l : List Ev) (u : uy × Xc × List Ev × List Ev) (hu : nK (oq x L lg).1 l = u) : sN (f + 1) x lg L l = (if u.1.ends = false then ⟨u.2.1, oV L, [], u.2.2.2, 0, false, [od x L]⟩
      else if u.1.told = false then ⟨u.2.1, oV L, u.2.2.1, u.2.2.2, 0, true, [od x L]⟩
      else if oJ u.1.msg.hd (decide (lg = 2)) (decide (lg = 0) && x.ed) = 1 then ⟨{ u.2.1 with done := true, vd := qd x.q u.1.msg, msg := u.1.msg }, oV L, u.2.2.1, u.2.2.2, 1, true, [od x L]⟩
      else if oJ u.1.msg.hd (decide (lg = 2)) (decide (lg = 0) && x.ed) = 2 then Db u.2.2.2 [od x L] (sN f u.2.1 2 (oV L) u.2.2.1)
      else if oJ u.1.msg.hd (decide (lg = 2)) (decide (lg = 0) && x.ed) = 3 then Db u.2.2.2 [od x L] (sN f u.2.1 1 (oV L) u.2.2.1)
      else ⟨u.2.1, oV L, u.2.2.1, u.2.2.2, oJ u.1.msg.hd (decide (lg = 2)) (decide (lg = 0) && x.ed), true, [od x L]⟩) := by
  obtain ⟨a1, a2, a3, a4, a5, a6, a7, a8, a9, a10, a11⟩ := sO l (oq x L lg).1;obtain ⟨f1, f2, f3, f4, f5, f6, f7, f8, f9⟩ := uw x L lg;have hed : (oq x L lg).1.ed = x.ed := gZ;have eq2 : u.2.1.lg = lg /\ u.2.1.oX = (decide (lg = 0) && x.ed) /\ u.2.1.q = x.q := by rw [<- hu];refine ⟨a7.trans f6, ?_, a4.trans f8⟩;unfold Xc.oX;rw [a7, f6, a3, hed]
  have h0 : sN (f + 1) x lg L l = (let u := nK (oq x L lg).1 l
    if u.1.ends = false then ⟨u.2.1, oV L, [], u.2.2.2, 0, false, [od x L]⟩
    else if u.1.told = false then ⟨u.2.1, oV L, u.2.2.1, u.2.2.2, 0, true, [od x L]⟩
    else if oJ u.1.msg.hd (decide (u.2.1.lg = 2)) u.2.1.oX = 1 then ⟨{ u.2.1 with done := true, vd := qd u.2.1.q u.1.msg, msg := u.1.msg }, oV L, u.2.2.1, u.2.2.2, 1, true, [od x L]⟩
    else if oJ u.1.msg.hd (decide (u.2.1.lg = 2)) u.2.1.oX = 2 then Db u.2.2.2 [od x L] (sN f u.2.1 2 (oV L) u.2.2.1)
    else if oJ u.1.msg.hd (decide (u.2.1.lg = 2)) u.2.1.oX = 3 then Db u.2.2.2 [od x L] (sN f u.2.1 1 (oV L) u.2.2.1)
    else ⟨u.2.1, oV L, u.2.2.1, u.2.2.2, oJ u.1.msg.hd (decide (u.2.1.lg = 2)) u.2.1.oX, true, [od x L]⟩) := rfl
  rw [h0, hu];dsimp only;rw [eq2.1, eq2.2.1, eq2.2.2]
theorem Ri {T : TJ} {f : Nat} {x : Xc} {lg : Nat} {L : Lt} {l kp : List Ev} {qp : List Qy} (h : Ug T (f + 1) x lg L l kp qp) (u : uy × Xc × List Ev × List Ev) (hu : nK (oq x L lg).1 l = u) :
  (u.1.ends = false -> T = ⟨u.2.1, oV L, u.2.2.1, kp ++ u.2.2.2, 0, false, qp ++ [od x L]⟩) /\
  (u.1.ends = true -> u.1.told = false -> T = ⟨u.2.1, oV L, u.2.2.1, kp ++ u.2.2.2, 0, true, qp ++ [od x L]⟩) /\
  (u.1.ends = true -> u.1.told = true -> ∀ v, oJ u.1.msg.hd (decide (lg = 2)) (decide (lg = 0) && x.ed) = v ->
   (v = 1 -> T = ⟨{ u.2.1 with done := true, vd := qd x.q u.1.msg, msg := u.1.msg }, oV L, u.2.2.1, kp ++ u.2.2.2, 1, true, qp ++ [od x L]⟩) /\
   (v = 2 -> lg ≠ 2 /\ Ug T f u.2.1 2 (oV L) u.2.2.1 (kp ++ u.2.2.2) (qp ++ [od x L])) /\
   (v = 3 -> lg = 0 /\ x.ed = true /\ Ug T f u.2.1 1 (oV L) u.2.2.1 (kp ++ u.2.2.2) (qp ++ [od x L])) /\
   (v ≠ 1 -> v ≠ 2 -> v ≠ 3 -> T = ⟨u.2.1, oV L, u.2.2.1, kp ++ u.2.2.2, v, true, qp ++ [od x L]⟩)) := by
 have hN := fun lg' a b c => h.next lg' a b u hu c
 have he := h.e;have hr : u.1.ends = false -> u.2.2.1 = [] := by rw [<- hu]; exact Ck _ _
 have hT := F8 f x lg L l u hu;clear hu;obtain ⟨U, ux, ur, uk⟩ := u;simp only at *;refine ⟨fun h1 => ?_, fun h1 h2 => ?_, fun h1 h2 v hv => ?_⟩
 ·rw [he, hT, if_pos h1, hr h1]; rfl
 ·rw [he, hT, if_neg (by rw [h1]; decide), if_pos h2]; rfl
 ·
  rw [hv] at hT;rw [if_neg (by rw [h1]; decide), if_neg (by rw [h2]; decide)] at hT;refine ⟨fun e => ?_, fun e => ?_, fun e => ?_, fun n1 n2 n3 => ?_⟩
  ·rw [he, hT, if_pos e]; rfl
  ·
   have hl2 : lg ≠ 2 := by have := Kb (hv.trans e); simpa using this
   rw [if_neg ak, if_pos e] at hT;exact ⟨hl2, hN 2 ak (by have := h.l2; omega) hT⟩
  ·have hl0 := Kc (hv.trans e);simp only [Bool.and_eq_true, decide_eq_true_eq] at hl0;rw [if_neg ak, if_neg ak, if_pos e] at hT;exact ⟨hl0.1, hl0.2, hN 1 ak ak hT⟩
  ·rw [he, hT, if_neg n1, if_neg n2, if_neg n3]; rfl
def Wt : Value -> Nat
 | .bool true => 1
 | _ => 0
def Ew (w0 : World) (g gl : Nat) (vn : Value) (A : List Value) (qs : List Qy) (kept : List Ev) (T : TJ) (w : World) (e : Ending) (w' : World) : Prop :=
 ∃ Ar c, e = .returned (.tuple #[.int .i64 T.means, .bool T.ended]) /\ pq w' g gl w0.heap.size vn A (.slice Ar T.rest.length c) (qs ++ T.qs) (kept ++ T.kept) T.x.done T.x.vd T.x.msg /\ tx w0 Ar T.rest /\ oW w' gl T.L /\ pT Gf w0.heap.size (LS g gl) w w' /\ T.rest.length <= c
set_option maxHeartbeats 4000000 in
theorem Rj (w0 : World) (g gl : Nat) (vn : Value) (A : List Value) (Ar : Option Addr) (c : Nat) (l : List Ev) (qs : List Qy) (kept : List Ev) (x : Xc) (L : Lt) (w : World)
  (h : pq w g gl w0.heap.size vn A (.slice Ar l.length c) qs kept false 0 oh.zero) (hA : QZ A vn x) (hl : oW w gl L) (hp : rq x) (hN : y9 w vn x.q.name) (hEv : tx w0 Ar l) (hw0 : Below w0.heap.size w0 w) (hk : kept.length + l.length <= 100000) (hqs : qs.length + 3 <= 100000) (hs : x.d.heard.length + tK l <= 8796093022208) (hlc : l.length <= c) (hgl : w0.heap.size <= gl) (hu : L.us <= 999999986) (hd : L.ds.length <= 17592186044416) :
  Calls prog 155 #[.pointer (some ⟨g, 0, none⟩), .agg (x.tr.getD x.k oi.zero).cells.toArray] w (Ew w0 g gl vn A qs kept (sN 3 x (if x.vc then 2 else 0) L l) w) := by
 obtain ⟨T, hT⟩ : ∃ T, Hid (sN 3 x (if x.vc then 2 else 0) L l = T) := eD;rw [hT.out];have hla := h.la;have hlo := h.lo;obtain ⟨lg0, hlg0⟩ : ∃ lg0, Hid ((if x.vc then 2 else 0) = lg0) := eD;rw [hlg0.out] at hT;have hlg02 : lg0 <= 2 := by rw [<- hlg0.out]; split <;> omega
 have HI0 : Hid (Ug T 3 x lg0 L l [] []) := Hh ⟨hT.out.symm, hp, hlg02, ak, ak, hd, hs⟩;have HK0 : Hid (Wk (100000 - kept.length) (100000 - qs.length) x 3 x l [] []) := Hh ⟨by simp only [List.length_nil]; omega, by simp only [List.length_nil]; omega, rfl, rfl, rfl, rfl, rfl, rfl⟩;have HIP : (x.tr.getD x.k oi.zero).ip.length = 16 := zw hp.st.ips _;have hacl : (x.tr.getD x.k oi.zero).cells.length = 18 := oi.nV _ HIP;have HX : Below w.heap.size w (w.alloc (.cells (x.tr.getD x.k oi.zero).cells.toArray 24)) := eC;have BX := nj.new w 24 (x.tr.getD x.k oi.zero).cells;obtain ⟨ac, hac⟩ : ∃ ac, Hid ((x.tr.getD x.k oi.zero).cells = ac) := eD;rw [hac.out] at hacl HX BX ⊢;obtain ⟨vq, vk, ds, hb, hr⟩ := h.b;have hbX := hb.below HX hb.lt;have c22 := hbX.nf 22 (by rw [NW hla 22 ak]; exact hA.vc);have c24 := hbX.nf 24 (by rw [NW hla 24 ak]; exact hA.ed);have HH := Lib.hid h;have HLT := Hh hl;have HNM := Hh hN;have HEV := Hh hEv;have HAA := Hh hA;have hgl1 := hb.lt;clear h hl hN hEv hA hr hs hb;go_enter func155, ntmps155;go_upto_region 1 with fail;go_cut [6, 7] (fun cv ev wx => cv = .bool (decide (lg0 = 2)) /\ ev = .bool (decide (lg0 = 0) && x.ed) /\ Below w.heap.size w wx /\ nj wx w.heap.size 24 ac)
 case first =>
  have HV0 : Hid (lg0 = if x.vc then 2 else 0) := Hh hlg0.out.symm;cases hvc : x.vc <;> cases hed : x.ed <;> (
   rw [hvc] at HV0 c22;rw [hed] at c24;have e0 := HV0.out;simp only [if_true, if_false, Bool.false_eq_true] at e0;subst e0;have HE0 := Hh hed;clear hvc hed;go_quiet (fail);go_wp2_with fail;go_meet
   case rel => exact ⟨by first | rfl | simp, by rw [HE0.out]; rfl, below_drewN HX _, BX.drewN _⟩)
 obtain ⟨rfl, rfl, HX1, BX1⟩ := hcut;obtain ⟨w1, rfl⟩ : ∃ w1, w1 = wc := eE;have HL1 := Hh (HH.out.below HX1);have HLo1 := Hh (HLT.out.below HX1);have HF1 : Hid (pT Gf w0.heap.size (LS g gl) w w1) := Hh (pT.below HX1);clear c22 c24 HX BX hbX HH HLT HX1;go_wp2_with fail;go_loopw [6, 7] (fun cv ev wr => ∃ (f : Nat) (xk : Xc) (lg : Nat) (Lk : Lt) (lk kp : List Ev) (qp : List Qy) (Ak : Option Addr) (ck : Nat), cv = .bool (decide (lg = 2)) /\ ev = .bool (decide (lg = 0) && x.ed) /\ Hid (Ug T f xk lg Lk lk kp qp) /\ Hid (Wk (100000 - kept.length) (100000 - qs.length) x f xk lk kp qp) /\ Hid (pq wr g gl w0.heap.size vn A (.slice Ak lk.length ck) (qs ++ qp) (kept ++ kp) false 0 oh.zero) /\ Hid (tx w0 Ak lk) /\ Hid (oW wr gl Lk) /\ Hid (pT Gf w0.heap.size (LS g gl) w wr) /\ lk.length <= ck /\ nj wr w.heap.size 24 ac) (fun cv ev _ => 2 * (1 - Wt cv) + Wt ev)
 case atStart => exact ⟨3, x, lg0, L, l, [], [], Ar, c, rfl, rfl, HI0, HK0, by rw [List.append_nil, List.append_nil]; exact HL1, HEV, HLo1, HF1, hlc, BX1⟩
 clear HI0 HK0 HL1 HEV HLo1 HF1 BX1;obtain ⟨f, xk, lg, Lk, lk, kp, qp, Ak, ck, rfl, rfl, HI, HKp, HL, HE, HLo, HF, hck, BX⟩ := hrel;obtain ⟨f, rfl⟩ : ∃ f', f = f' + 1 := ⟨f - 1, by have := HI.out.fl; have := HI.out.l2; omega⟩;obtain ⟨u, hu⟩ : ∃ u, Hid (nK (oq xk Lk lg).1 lk = u) := eD;have HB : Below w0.heap.size w0 wr := HF.out.toBelow hw0 hw0.size (fun i hi h => by rcases h with h | h <;> omega);have HS := HF.out.stays dP;have C : Hid (Calls prog 195 #[.pointer (some ⟨g, 0, none⟩), .agg ac.toArray, .bool (decide (lg = 2))] wr (LF w0 g gl vn A (qs ++ qp) (kept ++ kp) false 0 oh.zero u (od xk Lk) (oV Lk) wr)) := Hh (by
  have hA := HAA.out;have hK := HKp.out;have hI := HI.out;have := Rh w0 g gl vn A Ak ck lk (qs ++ qp) (kept ++ kp) false 0 oh.zero xk Lk lg (decide (lg = 2)) wr HL.out ⟨by rw [hA.q]; unfold qC; rw [hK.q], by rw [hK.tmo]; exact hA.tmo, by rw [hK.vc]; exact hA.vc, by rw [hK.ed]; exact hA.ed⟩ HLo.out hI.pre (by rw [hK.q]; exact HNM.out.stays HS) HE.out HB (by have := hK.kn; rw [List.length_append]; omega) (by have := hK.qn; rw [List.length_append]; omega) hI.hd hck hgl rfl (by have := hI.us; omega) hI.dl;rw [hK.tr, hK.k, hac.out, hu.out] at this;exact this)
 have ST := Hh (Ri HI.out u hu.out);have KN := Hh (HKp.out.next u hu.out);have UP : Hid (rq u.2.1) := Hh (by rw [<- hu.out]; exact wS (Ce HI.out.pre Lk lg).2.1 lk);have hq : Hid (xk.q = x.q /\ xk.ed = x.ed) := Hh ⟨HKp.out.q, HKp.out.ed⟩;clear HB HS HL HE HLo HI HKp;go_wp2_with (refine nh (.load 24 (.tmp 3)) rfl ?_; go_must (refine ni rfl _ _ rfl w.heap.size 0 rfl BX 18 ak _ underlying24 rfl vp ac (qj ak) ?_));refine C.out.mono ?_;rintro _ w7 ⟨dsh, A7, c7, rfl, hM7, hL7, hE7, hLo7, F7, hc7⟩;have BX7 := F7.oL BX (fun _ => by unfold Cw; decide) dP;have HF7 := Hh (HF.out.trans F7 (fun _ _ h => h));have hdl := hM7.len;have hd1 := Hh hM7.one;have hl17 := sB (h := u.1) hdl;have HM7 := Hh hM7;have HM7' : Hid (dsh.take 10 = u.1.msg.hd.pc) := Hh hM7.head;have HL7 := Hh hL7;have HE7 := Hh hE7;have HLo7 := Hh hLo7;clear C HF BX hM7 hL7 hE7 hLo7 F7;go_wp2_with (refine nh (.store 305 (.tmp 8) (.tmp 31)) rfl (ab rfl w7.heap.size 0 (rE u.1 dsh) (nj.ph _ _ zy _ rfl) dK dL (qi hd1.out) ?_));intro w8 B8 g8 sw;clear sw;replace B8 : nj w8 w7.heap.size 305 (rE u.1 dsh) := su B8 dM;have k8 : Below w7.heap.size w7 w8 := eZ;have HL8 := Hh (HL7.out.below k8);have HLo8 := Hh (HLo7.out.below k8);have HM8 := Hh (HM7.out.below k8);have HF8 := Hh (HF7.out.trans (pT.below (S := LS g gl) k8) (fun _ _ h => h));have BX8 := BX7.below k8 BX7.lt;have d1 := B8.nf 1 rfl;have d2 := B8.nf 2 rfl;clear g8 k8 HL7 HLo7 HM7 HF7 BX7;rw [List.append_assoc, List.append_assoc] at HL8;cases he : u.1.ends with
 | false =>
  rw [he] at d1;have FIN : Hid (Ew w0 g gl vn A qs kept T w (.returned (.tuple #[.int .i64 0, .bool false])) w8) := Hh (by
   rw [ST.out.1 he];exact ⟨A7, c7, rfl, by rw [UP.out.dn, UP.out.vd, UP.out.ms]; exact HL8.out, HE7.out, HLo8.out, HF8.out, hc7⟩)
  clear ST;exact l6
 | true =>
  rw [he] at d1;cases ht : u.1.told with
  | false =>
   rw [ht] at d2;have FIN : Hid (Ew w0 g gl vn A qs kept T w (.returned (.tuple #[.int .i64 0, .bool true])) w8) := Hh (by
    rw [ST.out.2.1 he ht];exact ⟨A7, c7, rfl, by rw [UP.out.dn, UP.out.vd, UP.out.ms]; exact HL8.out, HE7.out, HLo8.out, HF8.out, hc7⟩)
   clear ST;exact l6
  | true =>
   rw [ht] at d2;obtain ⟨v, hv⟩ : ∃ v, Hid (oJ u.1.msg.hd (decide (lg = 2)) (decide (lg = 0) && x.ed) = v) := eD;have VO := Hh (fun V => Lq u.1.msg.hd (decide (lg = 2)) (decide (lg = 0) && x.ed) V);rw [hv.out] at VO;have SV := Hh (ST.out.2.2 he ht v (by rw [hq.out.2]; exact hv.out));have LH : (rE u.1 dsh).drop 3 = dsh := rfl;have HHD : ((rE u.1 dsh).drop 3).take 10 = u.1.msg.hd.pc := by rw [LH]; exact HM7'.out
   obtain ⟨hv2, hhv2⟩ : ∃ hv2, Hid (u.1.msg.hd.pc = hv2) := eD;rw [hhv2.out] at VO HHD;clear ST he ht;go_wp2_with (refine nh (.load 46 (.tmp 39)) rfl ?_; go_must (refine ni rfl _ _ rfl w7.heap.size 3 rfl B8 10 (by rw [hl17]; decide) _ underlying46 rfl Uc hv2 HHD ?_));refine (VO.out _).mono ?_;rintro _ w9 ⟨rfl, b9⟩;have hsz7 : w7.heap.size < w8.heap.size := B8.lt;have B9 := B8.below b9 B8.lt;have HL9 := Hh (HL8.out.below b9);have HLo9 := Hh (HLo8.out.below b9);have HM9 := Hh (HM8.out.below b9);have HF9 := Hh (HF8.out.trans (pT.below (S := LS g gl) b9) (fun _ _ h => h));have BX9 := BX8.below b9 BX8.lt;clear B8 HL8 HLo8 HM8 HF8 BX8 b9 VO HHD HM7' d1 d2;by_cases v1 : v = 1
   case pos =>
    have HT1 := SV.out.1 v1;rw [hq.out.1] at HT1;replace HT1 := Hh HT1;subst v1;have HN9 := HNM.out.stays (HF9.out.stays dP);obtain ⟨An, cn, hvn, hNR⟩ := HN9.form;have hnl := HN9.2.1;have FI : Hid (∀ V, Below w9.heap.size w9 V -> Calls prog 197 #[.agg (qC vn x.q).toArray, .agg dsh.toArray] V (nM (.agg (Value.int .i64 (qd x.q u.1.msg) :: dsh).toArray) V)) := Hh (fun V hV => by
     rw [hvn];exact Ei x.q An cn dsh u.1.msg V (hNR.below hV) hnl (HM9.out.below hV))
    have FJ : Hid (∀ V, Below w9.heap.size w9 V -> Calls prog 154 #[.pointer (some ⟨g, 0, none⟩), .agg (Value.int .i64 (qd x.q u.1.msg) :: dsh).toArray] V (Rg g gl w0.heap.size vn A (.slice A7 u.2.2.1.length c7) (qs ++ (qp ++ [od xk Lk])) (kept ++ (kp ++ u.2.2.2)) (qd x.q u.1.msg) u.1.msg V)) := Hh (fun V hV => wm g gl w0.heap.size vn A _ _ _ false 0 oh.zero (qd x.q u.1.msg) dsh u.1.msg V (HL9.out.below hV) (HM9.out.below hV));have LQ : Hid (∀ V dn' vd' m' vr', pq V g gl w0.heap.size vn A vr' (qs ++ (qp ++ [od xk Lk])) (kept ++ (kp ++ u.2.2.2)) dn' vd' m' -> (Instr.loadAt 28 (.pointer (some ⟨g, 10, none⟩))).run prog V = .ok (.agg (qC vn x.q).toArray) V) := Hh (fun V dn' vd' m' vr' hV => by
     obtain ⟨_, _, ds', hb', _, _, hm'⟩ := hV.b;exact hb'.pF 28 10 3 dF _ underlying28 rfl rD _ (by rw [Wd hla]; exact HAA.out.q))
    have LM : Hid (∀ V, nj V w7.heap.size 305 (rE u.1 dsh) -> (Instr.loadAt 50 (.pointer (some ⟨w7.heap.size, 3, none⟩))).run prog V = .ok (.agg dsh.toArray) V) := Hh (fun V hV => hV.pF 50 3 14 (by rw [hl17]; decide) _ underlying50 rfl oy _ (by rw [LH, List.take_of_length_le ak]));have kd : Below w9.heap.size w9 w9.drew := fw;have hS0 := And.intro (LQ.out _ _ _ _ _ (HL9.out.below kd)) (LM.out _ B9.drew);have hgz : g ≠ w7.heap.size := by obtain ⟨_, _, _, hb', _⟩ := HL9.out.b;exact fun e => hb'.pk B9 aj e
    generalize qd x.q u.1.msg = fv at *;clear hNR hvn hnl HN9;go_wp2_with fail;refine wp_region_held_drew (S := fun V => (Instr.loadAt 28 (.pointer (some ⟨g, 10, none⟩))).run prog V = .ok (.agg (qC vn x.q).toArray) V /\ (Instr.loadAt 50 (.pointer (some ⟨w7.heap.size, 3, none⟩))).run prog V = .ok (.agg dsh.toArray) V) (by kernel_rfl) hS0 (fun hS => ?_);refine nI hS 8 [0,1,2,3,4,5,6,7] rfl (by kernel_rfl) (fun _ _ _ _ _ h => h) rfl rfl ?_
    (refine ⟨_, (.pointer (some ⟨g, 0, none⟩)), rfl, .inl ⟨rfl, fun V hV => rfl⟩, ?_⟩; simp only [Act.put, nB, nC, nD])
    (refine ⟨_, (.pointer (some ⟨g, 0, none⟩)), rfl, .inl ⟨rfl, fun V hV => rfl⟩, ?_⟩; simp only [Act.put, nB, nC, nD])
    (refine ⟨_, (.pointer (some ⟨g, 0, none⟩)), rfl, .inl ⟨rfl, fun V hV => rfl⟩, ?_⟩; simp only [Act.put, nB, nC, nD])
    (refine ⟨_, (.pointer (some ⟨g, 0, none⟩)), rfl, .inl ⟨rfl, fun V hV => rfl⟩, ?_⟩; simp only [Act.put, nB, nC, nD])
    (refine ⟨_, (.pointer (some ⟨g, 10, none⟩)), rfl, .inl ⟨rfl, fun V hV => rfl⟩, ?_⟩; simp only [Act.put, nB, nC, nD])
    (refine ⟨_, _, rfl, .inl ⟨rfl, fun V hV => (nW 28 (.tmp 52) ⟨g, 10, none⟩ rfl rfl hV.1)⟩, ?_⟩; simp only [Act.put, nB, nC, nD])
    (refine ⟨_, (.pointer (some ⟨w7.heap.size, 3, none⟩)), rfl, .inl ⟨rfl, fun V hV => rfl⟩, ?_⟩; simp only [Act.put, nB, nC, nD])
    (refine ⟨_, _, rfl, .inl ⟨rfl, fun V hV => (nW 50 (.tmp 54) ⟨w7.heap.size, 3, none⟩ rfl rfl hV.2)⟩, ?_⟩; simp only [Act.put, nB, nC, nD])
    simp only [pa];refine nJ 8 (by kernel_rfl) ?_;refine ot 8 (some 56) 197 #[.agg (qC vn x.q).toArray, .agg dsh.toArray] rfl rfl (by kernel_rfl) aS (FI.out _ kd) ?_;rintro _ w10 ⟨rfl, b10⟩;have k10 := nc kd kd.size b10;have B10 := B9.below k10 B9.lt;refine ⟨_, rfl, ⟨LQ.out _ _ _ _ _ (HL9.out.below k10), LM.out _ B10⟩, ?_⟩;clear hS hS0;simp only [Act.put, nB, nC, nD];refine nJ 9 (by kernel_rfl) ?_;refine ot 9 (some 57) 154 #[.pointer (some ⟨g, 0, none⟩), .agg (Value.int .i64 fv :: dsh).toArray] rfl rfl (by kernel_rfl) aS (FJ.out _ k10) ?_;rintro _ w11 ⟨rfl, HL11, F11⟩;have B11 := F11.oL B10 (fun e => absurd (e : w7.heap.size = g) (fun c => hgz c.symm)) (fun h => h);have HLo11 : oW w11 gl (oV Lk) := by obtain ⟨_, _, _, hb', _⟩ := (HL9.out.below k10).b;exact F11.WN (HLo9.out.below k10) (fun i hi => ⟨_, _, hi ▸ hb', aj, aj⟩) (fun h => h) (fun h => h)
    have HF11 := (HF9.out.trans (pT.below (S := LS g gl) k10) (fun _ _ h => h)).trans (F11.Vk (p := Gf) (B := w0.heap.size) (S' := fun i => i = g) (fun _ h => h)) (fun _ _ h => .inl h);have FIN : Hid (Ew w0 g gl vn A qs kept T w (.returned (.tuple #[.int .i64 1, .bool true])) w11) := Hh (by
     rw [HT1.out];exact ⟨A7, c7, rfl, HL11, HE7.out, HLo11, HF11, hc7⟩)
    refine ⟨_, rfl, ⟨LQ.out _ _ _ _ _ HL11, LM.out _ B11⟩, ?_⟩;clear HL11 F11 HLo11 HF11 B11 HL9 HM9 HF9 HLo9 FI FJ LQ LM;simp only [Act.put, nB, nC, nD];refine wpAnyH_done (by kernel_rfl) ?_ _;exact l6
   have n1 : (v == 1) = false := by simpa using v1
   by_cases v2 : v = 2
   case pos =>
    obtain ⟨hl2, HI2⟩ := SV.out.2.1 v2;have HI3 := Hh HI2;subst v2;clear HI2;go_wp2_with fail;go_roundw
    case rel => exact ⟨f, u.2.1, 2, oV Lk, u.2.2.1, kp ++ u.2.2.2, qp ++ [od xk Lk], A7, c7, rfl, rfl, HI3, KN, HL9, HE7, HLo9, HF9, hc7, BX9⟩
    case measure => rw [decide_eq_false hl2]; simp [Wt] <;> omega
   have n2 : (v == 2) = false := by simpa using v2
   by_cases v3 : v = 3
   case pos =>
    obtain ⟨hl0, hed, HI2⟩ := SV.out.2.2.1 v3;have HI3 := Hh HI2;rw [hq.out.2] at hed;subst v3;clear HI2;go_wp2_with fail;go_roundw
    case rel => exact ⟨f, u.2.1, 1, oV Lk, u.2.2.1, kp ++ u.2.2.2, qp ++ [od xk Lk], A7, c7, by first | rfl | (subst hl0; rfl) | (rw [decide_eq_false (show ¬ lg = 2 by omega)]; rfl), rfl, HI3, KN, HL9, HE7, HLo9, HF9, hc7, BX9⟩
    case measure => rw [hl0, hed]; simp [Wt]
   have n3 : (v == 3) = false := by simpa using v3
   have FIN : Hid (Ew w0 g gl vn A qs kept T w (.returned (.tuple #[.int .i64 v, .bool true])) w9) := Hh (by
    rw [SV.out.2.2.2 v1 v2 v3];exact ⟨A7, c7, rfl, by rw [UP.out.dn, UP.out.vd, UP.out.ms]; exact HL9.out, HE7.out, HLo9.out, HF9.out, hc7⟩)
   clear SV;exact l6
structure Tu (x : Xc) (L : Lt) (l : List Ev) (f : Nat) (r : TJ) : Prop where
 q : r.x.q = x.q
 tmo : r.x.tmo = x.tmo
 vc : r.x.vc = x.vc
 ed : r.x.ed = x.ed
 tr : r.x.tr = x.tr
 k : r.x.k = x.k
 hard : r.x.hard = x.hard
 us : r.L.us <= L.us + 2 * f
 ds : r.L.ds = L.ds
 qn : r.qs.length <= f
 kn : r.kept.length + r.rest.length <= l.length
 hd : r.x.d.heard.length + tK r.rest <= x.d.heard.length + tK l
theorem Tu.add {x y : Xc} {L : Lt} {l l2 k : List Ev} {f : Nat} {r : TJ} {z : Qy} (h : Tu y (oV L) l2 f r) (hy : y.q = x.q /\ y.tmo = x.tmo /\ y.vc = x.vc /\ y.ed = x.ed /\ y.tr = x.tr /\ y.k = x.k /\ y.hard = x.hard) (h1 : y.d.heard.length + tK l2 <= x.d.heard.length + tK l) (h2 : k.length + l2.length <= l.length) : Tu x L l (f + 1) (Db k [z] r) := by
 obtain ⟨a1, a2, a3, a4, a5, a6, a7, a8, a9, a10, a11, a12⟩ := h;obtain ⟨b1, b2, b3, b4, b5, b6, b7⟩ := hy;have hu : (oV L).us = L.us + 1 + 1 := rfl;refine ⟨a1.trans b1, a2.trans b2, a3.trans b3, a4.trans b4, a5.trans b5, a6.trans b6, a7.trans b7, ?_, a9, ?_, ?_, Nat.le_trans a12 h1⟩
 ·show r.L.us <= _;omega
 ·show ([z] ++ r.qs).length <= _;simp only [List.length_append, List.length_cons, List.length_nil]; omega
 ·show (k ++ r.kept).length + r.rest.length <= _;rw [List.length_append]; omega
theorem Cl : ∀ (f : Nat) (x : Xc) (lg : Nat) (L : Lt) (l : List Ev), rq x -> Tu x L l f (sN f x lg L l)
 | 0, x, lg, L, l, _ => ⟨rfl, rfl, rfl, rfl, rfl, rfl, rfl, Nat.le_refl _, rfl, Nat.le_refl _, (by show ([] : List Ev).length + l.length <= l.length; simp), Nat.le_refl _⟩
 | f + 1, x, lg, L, l, hp => by
  obtain ⟨a1, a2, a3, a4, a5, a6, a7, a8, a9, a10, a11⟩ := sO l (oq x L lg).1;obtain ⟨f1, f2, f3, f4, f5, f6, f7, f8, f9⟩ := uw x L lg;have hvc : (oq x L lg).1.vc = x.vc /\ (oq x L lg).1.ed = x.ed /\ (oq x L lg).1.hard = x.hard := by unfold oq; split <;> exact ⟨rfl, rfl, rfl⟩
  have hup := wS (Ce hp L lg).2.1 l;have hs := wU l (oq x L lg).1;have hh := Eu hp L lg;have hE := F8 f x lg L l _ rfl;have hu : (oV L).us = L.us + 1 + 1 := rfl;have hkeep : (nK (oq x L lg).1 l).2.1.q = x.q /\ (nK (oq x L lg).1 l).2.1.tmo = x.tmo /\ (nK (oq x L lg).1 l).2.1.vc = x.vc /\ (nK (oq x L lg).1 l).2.1.ed = x.ed /\ (nK (oq x L lg).1 l).2.1.tr = x.tr /\ (nK (oq x L lg).1 l).2.1.k = x.k /\ (nK (oq x L lg).1 l).2.1.hard = x.hard := ⟨a4.trans f8, a1.trans f4, a2.trans hvc.1, a3.trans hvc.2.1, a5.trans f2, a6.trans f3, a8.trans hvc.2.2⟩;rw [hE];generalize nK (oq x L lg).1 l = u at *;obtain ⟨b1, b2, b3, b4, b5, b6, b7⟩ := hkeep;have hds : (oV L).ds = L.ds := rfl;have one : ∀ z : Qy, [z].length <= f + 1 := fun z => by simp
  split
  ·exact ⟨b1, b2, b3, b4, b5, b6, b7, by show (oV L).us <= _; omega, hds, one _, by show u.2.2.2.length + 0 <= _; omega, by show u.2.1.d.heard.length + 0 <= _; omega⟩
  ·
   split
   ·exact kW
   ·
    split
    ·exact kW
    ·
     split
     ·exact (Cl f _ 2 _ _ hup).add ⟨b1, b2, b3, b4, b5, b6, b7⟩ ak ak
     ·
      split
      ·exact (Cl f _ 1 _ _ hup).add ⟨b1, b2, b3, b4, b5, b6, b7⟩ ak ak
      ·exact kW
structure Wu (J : JR) (x0 : Xc) (f : Nat) (x : Xc) (L : Lt) (l kp : List Ev) (qp : List Qy) (N D : Nat) : Prop where
 e : J = ((rk f x L l).1, kp ++ (rk f x L l).2.1, qp ++ (rk f x L l).2.2)
 pre : rq x
 q : x.q = x0.q
 tmo : x.tmo = x0.tmo
 vc : x.vc = x0.vc
 ed : x.ed = x0.ed
 tr : x.tr = x0.tr
 k : x.k + f = x0.tr.length
 us : L.us <= 6 * x.k
 dl : L.ds.length <= 17592186044416
 qn : qp.length <= 3 * x.k
 kn : kp.length + l.length <= N
 hd : x.d.heard.length + tK l <= D
theorem Tv {J : JR} {x0 : Xc} {f : Nat} {x : Xc} {L : Lt} {l kp : List Ev} {qp : List Qy} {N D : Nat} (h : Wu J x0 (f + 1) x L l kp qp N D) (T : TJ) (hT : sN 3 x (if x.vc then 2 else 0) L l = T) :
  ((T.ended = false \/ T.x.done = true) -> J = (T.x, kp ++ T.kept, qp ++ T.qs)) /\
  (T.ended = true -> T.x.done = false -> Wu J x0 f (qG T) T.L T.rest (kp ++ T.kept) (qp ++ T.qs) N D) /\ T.x.hard = x.hard := by
 obtain ⟨h1, h2, h3, h4, h5, h6, h7, h8, h9, h10, h11, h12, h13⟩ := h;have hK := Cl 3 x (if x.vc then 2 else 0) L l h2;have hlg : (if x.vc then 2 else 0) <= 2 := by split <;> omega
 have hO := FH 3 x (if x.vc then 2 else 0) L l h2 hlg ak;rw [hT] at hK hO;have hE : rk (f + 1) x L l = (if T.ended = false \/ T.x.done = true then (T.x, T.kept, T.qs)
   else ((rk f (qG T) T.L T.rest).1, T.kept ++ (rk f (qG T) T.L T.rest).2.1, T.qs ++ (rk f (qG T) T.L T.rest).2.2)) := by
  rw [<- hT]; rfl
 refine ⟨fun c => ?_, fun c1 c2 => ?_, hK.hard⟩
 ·rw [h1, hE, if_pos c]
 ·
  obtain ⟨hp, _⟩ := hO.nx c1 c2;rw [if_neg (by rintro (c | c); rw [c1] at c; cases c; rw [c2] at c; cases c)] at hE;refine ⟨?_, ⟨⟨hp.st.ips, hp.st.to1, hp.st.to2, hp.st.trl, hp.st.err⟩, hp.dn, hp.vd, hp.ms⟩, hK.q.trans h3, hK.tmo.trans h4, hK.vc.trans h5, hK.ed.trans h6, hK.tr.trans h7, ?_, ?_, by rw [hK.ds]; exact h10, ?_, ?_, Nat.le_trans hK.hd h13⟩
  ·rw [h1, hE, List.append_assoc, List.append_assoc]
  ·show T.x.k + 1 + f = _;rw [hK.k]; omega
  ·show T.L.us <= 6 * (T.x.k + 1);have := hK.us;rw [hK.k]; omega
  ·show (qp ++ T.qs).length <= 3 * (T.x.k + 1);have := hK.qn;rw [hK.k, List.length_append]; omega
  ·have := hK.kn;rw [List.length_append]; omega
def xd (vs vn : Value) (cs : List Value) (q : Qn) (turn : Int) : List Value := cs ++ (qC vn q ++ [.int .i64 turn, vs])
theorem LJ {vs vn : Value} {cs : List Value} {q : Qn} {turn : Int} (h : cs.length = 10) : (xd vs vn cs q turn).length = 15 /\ ((xd vs vn cs q turn).drop 0).take 10 = cs /\ ((xd vs vn cs q turn).drop 10).take 3 = qC vn q /\ (xd vs vn cs q turn)[10]? = some vn /\ (xd vs vn cs q turn)[13]? = some (.int .i64 turn) /\ (xd vs vn cs q turn)[14]? = some vs := by
 unfold xd;refine ⟨by simp [qC, h], by rw [List.drop_zero]; exact List.take_left' h, ?_, ?_, ?_, ?_⟩
 ·rw [List.drop_left' h]; rfl
 ·exact lF
 ·exact lF
 ·exact lF
theorem Vf {vs vn vn' : Value} {cs : List Value} {q : Qn} {turn : Int} (h : cs.length = 10) : (xd vs vn cs q turn).set 10 vn' = xd vs vn' cs q turn := by
 unfold xd;rw [List.set_append_right _ _ ak, show 10 - cs.length = 0 by omega]; rfl
theorem Vg : (prog.info? 125).map (·.size) = some 15 := by kernel_rfl
theorem Rk : (prog.info? 249).map (·.size) = some 19 := by kernel_rfl
theorem Tw (v1 v2 v3 u1 u2 u3 : Value) (r r' : Rs) (q : Qn) (A As Ae : Option Addr) (n c nd cd ne ce gl : Nat) (turn : Int) (W : World) : (Instr.build 194 #[(0, .agg (xd (.slice As nd cd) (.slice A n c) (sL v1 v2 v3 r) q turn).toArray), (1, .agg (sL u1 u2 u3 r').toArray), (2, .pointer (some ⟨gl, 0, none⟩)), (3, .slice Ae ne ce)]).run prog W = .ok (.agg (vy (xd (.slice As nd cd) (.slice A n c) (sL v1 v2 v3 r) q turn ++ sL u1 u2 u3 r') gl (.slice Ae ne ce) nA nA false 0 nR).toArray) W := by kernel_rfl
def yo (J : JR) (w : World) (e : Ending) (w' : World) : Prop := ∃ g gl vn A vr, e = .returned (.pointer (some ⟨g, 0, none⟩)) /\ pq w' g gl w.heap.size vn A vr J.2.2 J.2.1 J.1.done J.1.vd J.1.msg /\ Below w.heap.size w w'
set_option maxHeartbeats 8000000 in
theorem wu (As : Option Addr) (cs : List Value) (r : Rs) (A : Option Addr) (c : Nat) (q : Qn) (turn : Int) (ds : List Int) (cd : Nat) (Ae : Option Addr) (ce : Nat) (l : List Ev) (w : World) (h : vg w cs r) (hN : rQ w A c q.name) (hn : q.name.length <= 100000) (hD : 0 < ds.length -> ∃ b off, As = some ⟨b, off, none⟩ /\ b < w.heap.size /\ w.rangeAt b off (AW ds)) (hdl : ds.length <= 17592186044415) (hE : tx w Ae l) (hl : l.length <= 50000) (hlc : l.length <= ce) (hs : tK l <= 8796093022208) :
  Calls prog 104 #[.agg (xd (.slice As ds.length cd) (.slice A q.name.length c) cs q turn).toArray, .slice Ae l.length ce] w (yo (rG (nw r).tmo (nw r).vc (nw r).ed q (nY r turn) ⟨ds, 0⟩ l) w) := by
 obtain ⟨J, hJ⟩ : ∃ J, Hid (rG (nw r).tmo (nw r).vc (nw r).ed q (nY r turn) ⟨ds, 0⟩ l = J) := eD;rw [hJ.out];have hcl := h.len;obtain ⟨hTl, T0, T10, T10c, T13, T14⟩ := LJ (vs := .slice As ds.length cd) (vn := .slice A q.name.length c) (q := q) (turn := turn) hcl;have hset := Hh (fun v => Vf (vs := .slice As ds.length cd) (vn := .slice A q.name.length c) (q := q) (turn := turn) (vn' := v) hcl);obtain ⟨TC, hTC⟩ : ∃ TC, Hid (xd (.slice As ds.length cd) (.slice A q.name.length c) cs q turn = TC) := eD;rw [hTC.out] at hTl T10c hset ⊢;have HX : Below w.heap.size w (w.alloc (.cells TC.toArray 125)) := eC;have B0 := nj.new w 125 TC;have a10 := B0.nf 10 T10c;have CL := Hh (tN A c q.name _ (hN.below HX) hn);have hll : Hid (∀ l ∈ q.name, l.length <= 140737488355328) := Hh hN.2.2.2;have HRS := Lib.hid h;have HEV := Hh hE;have HDR := Hh hD;clear h hN hE hD hTC T0 T10 T10c T13 T14;have hnl : q.name.length <= 17592186044416 := ak;generalize hnn : q.name.length = nl at *;have HNN := Hh hnn;clear hnn;go_enter func104, ntmps104;go_wp2_with fail;refine CL.out.mono ?_;rintro _ w1 ⟨A1, c1, hv, own1, b1⟩;rw [HNN.out] at hv;subst hv;have B1 := B0.below b1 B0.lt;have H1 := nc HX HX.size b1;clear CL b1 B0 a10 HX;go_wp2_with (refine nh (.store 26 (.tmp 19) (.tmp 17)) rfl (af rfl w.heap.size 10 (.slice A1 nl c1) B1 ak rZ ?_));intro w2 D0 g2 sw;clear sw;rw [hset.out] at D0;have H2 := ng H1 g2 H1.size (Nat.le_refl _);have own2 := sQ own1 g2 B1 aj;have hT2 : pL w2 (.slice A1 q.name.length c1) q.name := sX own2;rw [HNN.out] at hT2;have hN2 : y9 w2 (.slice A1 nl c1) q.name := jf;have HN2 := Hh hN2;obtain ⟨hTl, T0, T10, T10c, T13, T14⟩ := LJ (vs := .slice As ds.length cd) (vn := .slice A1 nl c1) (q := q) (turn := turn) hcl;have RB0 : Hid (∃ v1 v2 v3, cs = sL v1 v2 v3 r) := Hh (by obtain ⟨_, _, _, _, _, _, h, _⟩ := HRS.out; exact ⟨_, _, _, h⟩);obtain ⟨TC, hTC⟩ : ∃ TC, Hid (xd (.slice As ds.length cd) (.slice A1 nl c1) cs q turn = TC) := eD;rw [hTC.out] at hTl T0 T10 T10c T13 T14 D0;obtain ⟨e1, e2, e3, e4, e5, e6, hcs, -⟩ := HRS.out;have RBC : Hid (∀ V, (Instr.build 171 #[(0, .agg cs.toArray)]).run prog V = .ok (.agg (cs ++ [nA, nA, nA]).toArray) V) := ji;clear hcs;have SH := Hh (fun V (hV : Below w.heap.size w V) => vX w cs r V HRS.out hV);have TR := Hh (fun V (hV : Below w.heap.size w V) => Ec w cs r turn V HRS.out hV);have LN := Hh (fun V (hV : Below w.heap.size w V) => Hl As cd ds V (fun hp => by obtain ⟨b, off, h1, h2, h3⟩ := HDR.out hp; exact ⟨b, off, h1, nO h3 hV h2⟩) hdl);have LT : Hid (∀ V, Below w2.heap.size w2 V -> (Instr.loadAt 125 (.pointer (some ⟨w.heap.size, 0, none⟩))).run prog V = .ok (.agg TC.toArray) V) := Hh (fun V hV => (D0.below hV D0.lt).pF 125 0 15 ak _ underlying125 rfl Vg _ (qj ak));have LR : Hid (∀ V, Below w2.heap.size w2 V -> (Instr.loadAt 69 (.pointer (some ⟨w.heap.size, 0, none⟩))).run prog V = .ok (.agg cs.toArray) V) := Hh (fun V hV => (D0.below hV D0.lt).pF 69 0 10 ak _ underlying69 rfl vx _ T0);have LQ : Hid (∀ V, Below w2.heap.size w2 V -> (Instr.loadAt 28 (.pointer (some ⟨w.heap.size, 10, none⟩))).run prog V = .ok (.agg (qC (.slice A1 nl c1) q).toArray) V) := Hh (fun V hV => (D0.below hV D0.lt).pF 28 10 3 ak _ underlying28 rfl rD _ T10);have LD : Hid (∀ V, Below w2.heap.size w2 V -> (Instr.loadAt 70 (.pointer (some ⟨w.heap.size, 14, none⟩))).run prog V = .ok (.slice As ds.length cd) V) := Hh (fun V hV => nN underlying70 rfl ((D0.below hV D0.lt).nf 14 T14));clear own1 own2 hT2 hN2 B1 g2 H1 hll hnl hset;have hwsz := D0.lt;have hdsl : ds.length <= 17592186044416 := ak;obtain ⟨nd, hnd⟩ : ∃ nd, Hid (ds.length = nd) := eD;obtain ⟨ne, hne⟩ : ∃ ne, Hid (l.length = ne) := eD;rw [hnd.out] at LN LD hTC;rw [hne.out] at hlc ⊢;clear T10c T14;go_upto_region 2 with fail;go_cut [5] (fun v5 wx => ∃ gx gl v1 v2 v3, v5 = .pointer (some ⟨gx, 0, none⟩) /\ nj wx gx 194 (vy (TC ++ sL v1 v2 v3 (nw r)) gl (.slice Ae ne ce) nA nA false 0 nR) /\ oW wx gl ⟨ds, 0⟩ /\ Below w2.heap.size w2 wx /\ w2.heap.size <= gx /\ w2.heap.size <= gl)
 case first =>
  refine wp_region_held_drew (S := fun V => Below w2.heap.size w2 V) (by kernel_rfl) (Below.refl _ _).drew (fun hS => ?_);refine nI hS 7 [0,1,2,3,6,7,9] rfl (by kernel_rfl) (fun _ _ _ _ _ h => h) rfl rfl ?_
  (refine ⟨_, _, rfl, .inl ⟨rfl, fun V hV => (nW 125 (.tmp 2) ⟨w.heap.size, 0, none⟩ rfl rfl (LT.out V hV))⟩, ?_⟩; simp only [Act.put, nB, nC, nD])
  (refine ⟨_, (.pointer (some ⟨w.heap.size, 0, none⟩)), rfl, .inl ⟨rfl, fun V hV => rfl⟩, ?_⟩; simp only [Act.put, nB, nC, nD])
  (refine ⟨_, _, rfl, .inl ⟨rfl, fun V hV => (nW 69 (.tmp 21) ⟨w.heap.size, 0, none⟩ rfl rfl (LR.out V hV))⟩, ?_⟩; simp only [Act.put, nB, nC, nD])
  (refine ⟨_, (.agg (cs ++ [nA, nA, nA]).toArray), rfl, .inl ⟨rfl, fun V hV => (r5 171 _ rfl #[(0, .agg cs.toArray)] (by kernel_rfl) (RBC.out V))⟩, ?_⟩; simp only [Act.put, nB, nC, nD])
  (refine ⟨_, (.pointer (some ⟨w.heap.size, 14, none⟩)), rfl, .inl ⟨rfl, fun V hV => rfl⟩, ?_⟩; simp only [Act.put, nB, nC, nD])
  (refine ⟨_, _, rfl, .inl ⟨rfl, fun V hV => (nW 70 (.tmp 26) ⟨w.heap.size, 14, none⟩ rfl rfl (LD.out V hV))⟩, ?_⟩; simp only [Act.put, nB, nC, nD])
  (refine ⟨_, (.slice Ae ne ce), rfl, .inl ⟨rfl, fun V hV => rfl⟩, ?_⟩; simp only [Act.put, nB, nC, nD])
  simp only [pa];refine nJ 4 (by kernel_rfl) ?_;refine ot 4 (some 24) 87 #[.agg (cs ++ [nA, nA, nA]).toArray] rfl rfl (by kernel_rfl) aS (SH.out _ (nc H2 H2.size hS)) ?_;rintro _ w3 ⟨cs1, u1, u2, u3, rfl, RO, b3⟩;have hl1 := RO.len;have hS3 := nc hS hS.size b3;refine ⟨_, rfl, hS3, ?_⟩;clear hS b3;have hS := hS3;clear hS3;simp only [Act.put, nB, nC, nD];refine nI hS 1 [5] rfl (by kernel_rfl) (fun _ _ _ _ _ h => h) rfl rfl ?_
  (refine ⟨_, (.agg cs1.toArray), rfl, .inl ⟨rfl, fun V hV => (Ir 171 (.tmp 24) 0 rfl rfl (Fp cs1 hl1 u1 u2 u3 V))⟩, ?_⟩; simp only [Act.put, nB, nC, nD])
  simp only [pa];refine nJ 8 (by kernel_rfl) ?_;refine ot 8 (some 28) 33 #[.slice As nd cd] rfl rfl (by kernel_rfl) aS (LN.out _ (nc H2 H2.size hS)) ?_;rintro _ WA ⟨gl, rfl, LA, b4, hgl⟩;replace hgl := Nat.le_trans hS.size hgl;have hS4 := nc hS hS.size b4;refine ⟨_, rfl, hS4, ?_⟩;clear hS b4;have hS := hS4;clear hS4;simp only [Act.put, nB, nC, nD];obtain ⟨v1, v2, v3, hcs1, -⟩ := RO;obtain ⟨x1, x2, x3, hcs⟩ := RB0.out;obtain ⟨XC, HXC⟩ : ∃ XC, Hid (vy (TC ++ sL v1 v2 v3 (nw r)) gl (.slice Ae ne ce) nA nA false 0 nR = XC) := eD;have RB : Hid (∀ V, (Instr.build 194 #[(0, .agg TC.toArray), (1, .agg cs1.toArray), (2, .pointer (some ⟨gl, 0, none⟩)), (3, .slice Ae ne ce)]).run prog V = .ok (.agg XC.toArray) V) := Hh (fun V => by
   rw [<- HXC.out, <- hTC.out, hcs, hcs1];exact Tw x1 x2 x3 v1 v2 v3 r (nw r) q A1 As Ae nl c1 nd cd ne ce gl turn V)
  clear SH TR hcs hcs1;refine nI hS 1 [10] rfl (by kernel_rfl) (fun _ _ _ _ _ h => h) rfl rfl ?_
  (refine ⟨_, (.agg XC.toArray), rfl, .inl ⟨rfl, fun V hV => (r5 194 _ rfl #[(0, .agg TC.toArray), (1, .agg cs1.toArray), (2, .pointer (some ⟨gl, 0, none⟩)), (3, .slice Ae ne ce)] (by kernel_rfl) (RB.out V))⟩, ?_⟩; simp only [Act.put, nB, nC, nD])
  simp only [pa];have kn : Below WA.heap.size WA (WA.alloc (.cells XC.toArray 194)) := eC;have hSx := nc hS hS.size kn;have Bn := nj.new WA 194 XC;have hgz : w2.heap.size <= WA.heap.size := hS.size;have LA2 := LA.below kn;refine vH 11 (some 31) (by kernel_rfl) rfl rfl (by kernel_rfl) (v := .pointer (some ⟨WA.heap.size, 0, none⟩)) (w' := WA.alloc (.cells XC.toArray 194)) (by kernel_rfl) hSx ?_;simp only [Act.put, nB, nC, nD];clear hS kn LA;have hS := hSx;clear hSx;generalize WA.alloc (.cells XC.toArray 194) = wz at *;generalize WA.heap.size = gz at *;refine nI hS 1 [12] rfl (by kernel_rfl) (fun _ _ _ _ _ h => h) rfl rfl ?_
  (refine ⟨_, (.pointer (some ⟨gz, 0, none⟩)), rfl, .inl ⟨rfl, fun V hV => rfl⟩, ?_⟩; simp only [Act.put, nB, nC, nD])
  simp only [pa];refine wpAnyH_done (by kernel_rfl) ?_ _;go_wp2_with fail;go_meet
  case rel => exact ⟨gz, gl, v1, v2, v3, rfl, by rw [HXC.out]; exact Bn, LA2, hS, hgz, hgl⟩
 obtain ⟨gx, gl, v1, v2, v3, rfl, BX, LA, H3, hgx, hgl⟩ := hcut;obtain ⟨w5, rfl⟩ : ∃ w5, w5 = wc := eE;have HW := nc H2 H2.size H3;have N5 := HN2.out.stays (nQ.below H3);obtain ⟨x0, hx0⟩ : ∃ x0, x0 = sy (nw r).tmo (nw r).vc (nw r).ed q (nY r turn) := eE;obtain ⟨AA, hAA⟩ : ∃ AA, Hid (TC ++ sL v1 v2 v3 (nw r) = AA) := eD;rw [hAA.out] at BX;have hla : AA.length = 25 := by rw [<- hAA.out, List.length_append, hTl]; rfl
 have TA : Hid (QZ AA (.slice A1 nl c1) x0) := Hh (by
  have hat : ∀ i (hi : i < 10), AA[15 + i]? = (sL v1 v2 v3 (nw r))[i]? := fun i hi => by rw [<- hAA.out, List.getElem?_append_right ak, show 15 + i - TC.length = i by omega]
  refine ⟨?_, ?_, ?_, ?_⟩
  ·rw [<- hAA.out, List.drop_append_of_le_length ak, List.take_append_of_le_length aX, T10, hx0]; rfl
  ·rw [hat 4 ak, hx0]; rfl
  ·rw [hat 7 ak, hx0]; rfl
  ·
   rw [hat 9 ak, hx0]; rfl)
 have HRR : Hid (J = if (oT (pf q 0 (nw r).ed) false).2 ≠ 0 then ({ x0 with done := true, vd := 3 }, [], []) else rk x0.tr.length x0 ⟨ds, 0⟩ l) := Hh (by rw [<- hJ.out, hx0]; rfl);have HL5 : Hid (pq w5 gx gl w.heap.size (.slice A1 nl c1) AA (.slice Ae ne ce) [] [] false 0 oh.zero) := Hh ⟨⟨nA, nA, nR, BX, nZ.nil _ _ _ _ _, nZ.nil _ _ _ _ _, nL.zero _⟩, hla, Nat.le_trans H2.size hgx⟩;have d24 : ∀ V, Below w5.heap.size w5 V -> (Instr.loadAt 4 (.pointer (some ⟨gx, 24, none⟩))).run prog V = .ok (.bool (nw r).ed) V := fun V hV => nN underlying4 rfl ((BX.below hV BX.lt).nf 24 (by rw [NW hla 24 ak]; exact TA.out.ed.trans (by rw [hx0]; rfl)))
 have D24 := Hh d24;have LQ5 : Hid (∀ V, Below w5.heap.size w5 V -> (Instr.loadAt 28 (.pointer (some ⟨w.heap.size, 10, none⟩))).run prog V = .ok (.agg (qC (.slice A1 nl c1) q).toArray) V) := iO;have BU : Hid (∀ V, Below w5.heap.size w5 V -> Calls prog 74 #[.agg (qC (.slice A1 nl c1) q).toArray, .int .i64 0, .bool (nw r).ed] V (nM (.tuple #[.string (bs (oT (pf q 0 (nw r).ed) false).1), .int .i64 (oT (pf q 0 (nw r).ed) false).2]) V)) := Hh (fun V hV => by
  obtain ⟨A', c', hv, hNR⟩ := N5.form;injection hv with hv1 hv2 hv3;subst hv1 hv3;have := wO A1 c1 q 0 (nw r).ed V (hNR.below hV) (by rw [HNN.out]; exact hn);rwa [HNN.out] at this)
 have LR5 : Hid (∀ V, Below w5.heap.size w5 V -> nj V w.heap.size 125 TC) := Hh (fun V hV => (D0.below H3 D0.lt).below hV (Nat.lt_of_lt_of_le D0.lt H3.size));have N5' := Hh N5;have HW5 := Hh HW;have LA5 := Hh LA;have HST : Hid ((oT (pf q 0 (nw r).ed) false).2 = 0 -> ∀ V vt, ye V 0 vt (nY r turn) -> x0.st) := Hh (fun he V vt TO => by
  have ht := v8 r turn;rw [hx0];exact ⟨Em TO, (BD r).1, (BD r).2, by show (nY r turn).length <= 1000; omega, fun id e h1 h2 => QK he id e h1 h2⟩)
 have hx00 : Hid (x0.done = false /\ x0.vd = 0 /\ x0.msg = oh.zero /\ x0.tr = nY r turn /\ x0.k = 0 /\ x0.hard = false /\ x0.d.heard = [] /\ x0.q = q) := Hh (by rw [hx0]; exact ⟨rfl, rfl, rfl, rfl, rfl, rfl, rfl, rfl⟩);have hgl0 : w.heap.size <= gl := Nat.le_trans H2.size hgl;have htl := v8 r turn;clear SH LT LR LQ LD LN RBC HN2 H2 H3 LA BX d24 HW N5 hx0 D0 hAA T10 hJ hTC RB0;obtain ⟨tl, htl'⟩ : ∃ tl, Hid (nY r turn = tl) := eD;rw [htl'.out] at TR HST hx00 htl;clear htl';generalize (nw r).ed = ed at *;generalize (oT (pf q 0 ed) false).1 = oc at *;generalize (oT (pf q 0 ed) false).2 = er at *;go_upto_region 3 with fail;go_cut [5, 7] (fun v5 v7 wx => v5 = .pointer (some ⟨gx, 0, none⟩) /\ v7 = .int .i64 er /\ Below w5.heap.size w5 wx)
 case first =>
  refine wp_region_held_drew (S := fun V => Below w5.heap.size w5 V) (by kernel_rfl) (Below.refl _ _).drew (fun hS => ?_);refine nI hS 7 [0,1,2,3,4,5,6] rfl (by kernel_rfl) (fun _ _ _ _ _ h => h) rfl rfl ?_
  (refine ⟨_, (.pointer (some ⟨w.heap.size, 10, none⟩)), rfl, .inl ⟨rfl, fun V hV => rfl⟩, ?_⟩; simp only [Act.put, nB, nC, nD])
  (refine ⟨_, _, rfl, .inl ⟨rfl, fun V hV => (nW 28 (.tmp 33) ⟨w.heap.size, 10, none⟩ rfl rfl (LQ5.out V hV))⟩, ?_⟩; simp only [Act.put, nB, nC, nD])
  (refine ⟨_, (.pointer (some ⟨gx, 0, none⟩)), rfl, .inl ⟨rfl, fun V hV => rfl⟩, ?_⟩; simp only [Act.put, nB, nC, nD])
  (refine ⟨_, (.pointer (some ⟨gx, 0, none⟩)), rfl, .inl ⟨rfl, fun V hV => rfl⟩, ?_⟩; simp only [Act.put, nB, nC, nD])
  (refine ⟨_, (.pointer (some ⟨gx, 15, none⟩)), rfl, .inl ⟨rfl, fun V hV => rfl⟩, ?_⟩; simp only [Act.put, nB, nC, nD])
  (refine ⟨_, (.pointer (some ⟨gx, 24, none⟩)), rfl, .inl ⟨rfl, fun V hV => rfl⟩, ?_⟩; simp only [Act.put, nB, nC, nD])
  (refine ⟨_, _, rfl, .inl ⟨rfl, fun V hV => (nW 4 (.tmp 38) ⟨gx, 24, none⟩ rfl rfl (D24.out V hV))⟩, ?_⟩; simp only [Act.put, nB, nC, nD])
  simp only [pa];refine oY 7 (some 40) 74 #[.agg (qC (.slice A1 nl c1) q).toArray, .int .i64 0, .bool ed] (by kernel_rfl) rfl rfl (by kernel_rfl) aS (BU.out _ hS) ?_;rintro _ w4 ⟨rfl, b4⟩;have hS := nc hS hS.size b4;refine ⟨_, rfl, hS, ?_⟩;simp only [Act.put, nB, nC, nD];refine nI hS 5 [8,9,10,11,12] rfl (by kernel_rfl) (fun _ _ _ _ _ h => h) rfl rfl ?_
  (refine ⟨_, (.tuple #[.string (bs oc), .int .i64 er]), rfl, .inl ⟨rfl, fun V hV => rfl⟩, ?_⟩; simp only [Act.put, nB, nC, nD])
  (refine ⟨_, (.string (bs oc)), rfl, .inl ⟨rfl, fun V hV => rfl⟩, ?_⟩; simp only [Act.put, nB, nC, nD])
  (refine ⟨_, (.int .i64 er), rfl, .inl ⟨rfl, fun V hV => rfl⟩, ?_⟩; simp only [Act.put, nB, nC, nD])
  (refine ⟨_, (.string (bs oc)), rfl, .inl ⟨rfl, fun V hV => rfl⟩, ?_⟩; simp only [Act.put, nB, nC, nD])
  (refine ⟨_, (.int .i64 er), rfl, .inl ⟨rfl, fun V hV => rfl⟩, ?_⟩; simp only [Act.put, nB, nC, nD])
  simp only [pa];refine wpAnyH_done (by kernel_rfl) ?_ _;exact mW
 obtain ⟨rfl, rfl, H6⟩ := hcut;obtain ⟨w6, rfl⟩ : ∃ w6, w6 = wc := eE;have HL6 := Hh (HL5.out.below H6);have HLo6 := Hh (LA5.out.below H6);have HW6 := Hh (nc HW5.out HW5.out.size H6);have N6 := Hh (N5'.out.stays (nQ.below H6));have BT6 := LR5.out _ H6;clear LQ5 BU D24 HL5 LA5 N5' HW5 LR5 H6;by_cases he : er = 0
 case neg =>
  have he' : (er != 0) = true := fD;have HR2 : Hid (J = ({ x0 with done := true, vd := 3 }, [], [])) := Hh df;have RZ := Hh (fun V => yk 3 V);have FJ := Hh (wm gx gl w.heap.size (.slice A1 nl c1) AA _ _ _ false 0 oh.zero 3 nR oh.zero w6 HL6.out (nL.zero _));obtain ⟨Z, hZ⟩ : ∃ Z, Hid (Value.int .i64 3 :: nR = Z) := eD;rw [hZ.out] at RZ FJ;clear he HST HRR HL6 TR;go_wp2_with (refine nh (.build 92 #[(0, .const (.int .i64 3))]) rfl ?_; go_must (refine oo rfl 92 _ rfl #[(0, .int .i64 3)] cM (RZ.out _) ?_));refine FJ.out.mono ?_;rintro _ w7 ⟨rfl, hL7, F7⟩;have FIN : Hid (yo J w (.returned (.pointer (some ⟨gx, 0, none⟩))) w7) := Hh (by
   rw [HR2.out];refine ⟨gx, gl, .slice A1 nl c1, AA, .slice Ae ne ce, rfl, ?_, (F7.Vk (p := Gf) (B := w.heap.size) (S' := fun i => i = gx) (fun _ h => h)).toBelow HW6.out HW6.out.size (fun i hi h => by have := hL7.lo; omega)⟩;show pq w7 gx gl w.heap.size _ AA _ [] [] true 3 x0.msg;rw [hx00.out.2.2.1]; exact hL7)
  clear FJ hL7 F7 HR2;exact kL
 subst he;have HR2 : Hid (J = rk x0.tr.length x0 ⟨ds, 0⟩ l) := Hh dW;have HST2 := Hh (HST.out rfl);clear HRR HST;have c13 := BT6.nf 13 T13;go_wp2_with (refine nh (.load 69 (.tmp 49)) rfl ?_; go_must (refine ni rfl _ _ rfl w.heap.size 0 rfl BT6 10 ak _ underlying69 rfl vx cs T0 ?_));refine (TR.out _ HW6.out).mono ?_;rintro _ w7 ⟨vt, rfl, TO, b7⟩;obtain ⟨At, ct, hvt⟩ := TO.form;obtain ⟨nt, hnt⟩ : ∃ nt, Hid (tl.length = nt) := eD;rw [hnt.out] at hvt htl;subst hvt;have st0 := HST2.out _ _ TO;have HL7 := Hh (HL6.out.below b7);have HLo7 := Hh (HLo6.out.below b7);have HW7 := Hh (nc HW6.out HW6.out.size b7);have N7 := Hh (N6.out.stays (nQ.below b7));have HTO := Hh TO;have HP0 : Hid (Wu J x0 nt x0 ⟨ds, 0⟩ l [] [] 50000 8796093022208) := Hh (by
  obtain ⟨z1, z2, z3, z4, z5, z6, z7, z8⟩ := hx00.out;refine ⟨by rw [HR2.out, z4, hnt.out]; simp, ⟨st0, z1, z2, z3⟩, rfl, rfl, rfl, rfl, rfl, by rw [z5, z4, hnt.out]; omega, Nat.zero_le _, hdsl, Nat.zero_le _, by simpa using hl, by rw [z7]; simpa using hs⟩)
 have HX0 : Hid (x0.tr = tl /\ x0.q = q /\ x0.k = 0 /\ x0.hard = false) := Hh ⟨hx00.out.2.2.2.1, hx00.out.2.2.2.2.2.2.2, hx00.out.2.2.2.2.1, hx00.out.2.2.2.2.2.1⟩;clear TR HL6 HLo6 HW6 N6 BT6 c13 b7 TO HST2 HR2 st0 hx00 T0 T13;go_wp2_with fail;go_loopw [8, 55] (fun hv iv wr => ∃ (f : Nat) (x : Xc) (L : Lt) (lk kp : List Ev) (qp : List Qy) (Ak : Option Addr) (ck : Nat), hv = .bool x.hard /\ iv = .int .i64 x.k /\ x.k + f = nt /\ Hid (Wu J x0 f x L lk kp qp 50000 8796093022208) /\ Hid (pq wr gx gl w.heap.size (.slice A1 nl c1) AA (.slice Ak lk.length ck) qp kp false 0 oh.zero) /\ Hid (tx w Ak lk) /\ Hid (oW wr gl L) /\ Hid (pT Gf w.heap.size (LS gx gl) w7 wr) /\ lk.length <= ck) (fun _ iv _ => nt - (intOf iv).toNat)
 case atStart => exact ⟨nt, x0, ⟨ds, 0⟩, l, [], [], Ae, ce, by rw [HX0.out.2.2.2], by rw [HX0.out.2.2.1]; rfl, by rw [HX0.out.2.2.1]; omega, HP0, by rw [hne.out]; exact HL7, HEV, HLo7, Hh (pT.refl _ _ _ _), by rw [hne.out]; exact hlc⟩
 clear HP0 HL7 HLo7 HEV hlc hs hl;obtain ⟨f, x, L, lk, kp, qp, Ak, ck, rfl, rfl, hkf, HI, HL, HE, HLo, HF, hck⟩ := hrel;obtain ⟨k, hk⟩ : ∃ k, Hid (x.k = k) := eD;obtain ⟨hb, hhb⟩ : ∃ hb, Hid (x.hard = hb) := eD;rw [hk.out] at hkf ⊢;rw [hhb.out];have HB : Below w.heap.size w wr := HF.out.toBelow HW7.out HW7.out.size (fun i hi h => by rcases h with h | h <;> (have := HL.out.lo; omega));by_cases hlt : k < nt
 case neg =>
  have hlt' : ¬ (k : Int) < nt := ak;have hf0 : f = 0 := ak;subst hf0;have HR3 : Hid (J = ({ x with done := true, vd := if x.hard then 5 else 4, msg := oh.zero }, kp, qp)) := Hh (by
   rw [HI.out.e];show (_, kp ++ [], qp ++ []) = _;rw [List.append_nil, List.append_nil]; rfl)
  rw [hhb.out] at HR3;have RZ := Hh (fun V => yk 4 V);have FJ := Hh (fun VD V (hV : Below wr.heap.size wr V) => wm gx gl w.heap.size (.slice A1 nl c1) AA (.slice Ak lk.length ck) qp kp false 0 oh.zero VD nR oh.zero V (HL.out.below hV) (nL.zero _));have hgx : gx ≠ wr.heap.size := fun e => absurd HL.out.lt ak
  obtain ⟨Z, hZ⟩ : ∃ Z, Hid (Value.int .i64 4 :: nR = Z) := eD;rw [hZ.out] at RZ;have hZl : Z.length = 15 := by rw [<- hZ.out]; rfl
  have hZ1 : ∀ v ∈ Z, v.oneCell' = true := by
   rw [<- hZ.out];intro v hv;rcases List.mem_cons.1 hv with rfl | hv
   ·rfl
   ·exact (nL.zero wr).one v hv
  have zl0 : (Value.int .i64 0 :: nR : List Value).length = 15 := rfl;clear HI HL HE HLo HTO;go_wp2_with (first
   | (refine nh (.build 92 #[(0, .const (.int .i64 4))]) rfl ?_; go_must (refine oo rfl 92 _ rfl #[(0, .int .i64 4)] cM (RZ.out _) ?_))
   | (refine nh (.store 92 (.tmp 13) (.tmp 81)) rfl (ab rfl wr.heap.size 0 Z (nj.ph _ _ (Value.int .i64 0 :: nR) _ rfl) (by rw [hZl, zl0]; decide) (by rw [hZl]; exact qx) hZ1 ?_)))
  intro w8 B8 g8 sw;clear sw;replace B8 : nj w8 wr.heap.size 92 Z := su B8 aj;have k8 : Below wr.heap.size wr w8 := eZ;clear g8;cases hb with
  | false => rw [if_neg aj] at HR3;have FJ4 := Hh (FJ.out 4 _ k8);rw [hZ.out] at FJ4;clear FJ;go_wp2_with (refine nh (.load 92 (.tmp 13)) rfl ?_; go_must (refine ni rfl _ _ rfl wr.heap.size 0 rfl B8 15 ak _ underlying92 rfl qx Z (qj ak) ?_));exact jX
  | true =>
   rw [if_pos rfl] at HR3;go_wp2_with (refine nh (.store 3 (.tmp 83) (.const (.int .i64 5))) rfl (af rfl wr.heap.size 0 (.int .i64 5) B8 ak pM ?_));intro w8b B8b g8 sw;clear sw;have k8b : Below wr.heap.size wr w8b := ng k8 g8 k8.size (Nat.le_refl _);rw [<- hZ.out, show (Value.int .i64 4 :: nR).set 0 (.int .i64 5) = Value.int .i64 5 :: nR from rfl] at B8b;have FJ4 := Hh (FJ.out 5 _ k8b);clear FJ g8 B8 hZ hZl hZ1 k8;obtain ⟨k8, -⟩ : Below wr.heap.size wr w8b /\ True := ⟨k8b, trivial⟩;obtain ⟨Z5, hZ5⟩ : ∃ Z5, Hid (Value.int .i64 5 :: nR = Z5) := eD;rw [hZ5.out] at FJ4 B8b;have hZl : Z5.length = 15 := by rw [<- hZ5.out]; rfl
   go_wp2_with (refine nh (.load 92 (.tmp 13)) rfl ?_; go_must (refine ni rfl _ _ rfl wr.heap.size 0 rfl B8b 15 ak _ underlying92 rfl qx Z5 (qj ak) ?_));exact jX
 have hlt' : (k : Int) < nt := ak;obtain ⟨f, rfl⟩ : ∃ f', f = f' + 1 := ⟨f - 1, ak⟩;have hlp : k < tl.length := by rw [hnt.out]; exact hlt
 have TOr : ye wr 0 (.slice At tl.length ct) tl := by rw [hnt.out]; exact HF.out.yj HTO.out di dP
 obtain ⟨b, off, hA, hbl, re0⟩ : ∃ b off, At = some ⟨b, off, none⟩ /\ b < wr.heap.size /\ ∃ es, wr.rangeAt b (off + k * 19) es /\ Ip es tl[k] := by obtain ⟨b, h1, h2, h3⟩ := nZ.at_ (fun _ _ h => Ip.len h) TOr ak;obtain ⟨es, h4, h5⟩ := h3 k hlp;exact ⟨b, 0, h1, h2, es, h4, h5⟩
 obtain ⟨es, re, hes⟩ := re0;subst hA;have hel := hes.len;have hone := Hh (show ∀ v ∈ es, v.oneCell' = true by
  obtain ⟨rr, h1, h2⟩ := hes;rw [h1];exact fun v hv => by
   rcases List.mem_append.1 hv with hv | hv
   ·exact oi.qb _ v hv
   ·
    rw [List.mem_singleton.1 hv]; rfl)
 have he18 : (es.drop 0).take 18 = (tl[k]).cells := by obtain ⟨rr, h1, h2⟩ := hes;rw [h1, List.drop_zero];exact List.take_left' (by rw [oi.nV _ h2])
 obtain ⟨ac, hac⟩ : ∃ ac, Hid ((tl[k]).cells = ac) := eD;rw [hac.out] at he18;obtain ⟨T, hT⟩ : ∃ T, Hid (sN 3 x (if x.vc then 2 else 0) L lk = T) := eD;have TS := Hh (Tv HI.out T hT.out);have hgxr := HL.out.lt;have C : Hid (∀ V, Below wr.heap.size wr V -> Calls prog 155 #[.pointer (some ⟨gx, 0, none⟩), .agg ac.toArray] V (Ew w gx gl (.slice A1 nl c1) AA qp kp T V)) := Hh (fun V hV => by
  have hI := HI.out;have hA := TA.out;have := Rj w gx gl (.slice A1 nl c1) AA Ak ck lk qp kp x L V (HL.out.below hV) ⟨by rw [hA.q]; unfold qC; rw [hI.q], by rw [hI.tmo]; exact hA.tmo, by rw [hI.vc]; exact hA.vc, by rw [hI.ed]; exact hA.ed⟩ (HLo.out.below hV) hI.pre (by rw [hI.q, HX0.out.2.1]; exact (N7.out.stays (HF.out.stays dP)).stays (nQ.below hV)) HE.out (nc HB HB.size hV) (by have := hI.kn; omega) (by have := hI.qn; rw [hk.out] at this; omega) hI.hd hck hgl0 (by have := hI.us; rw [hk.out] at this; omega) hI.dl;rw [hT.out, hI.tr, HX0.out.1, hk.out, show tl.getD k oi.zero = tl[k] from by simp [hlp], hac.out] at this;exact this)
 have HF0 := HF;clear HL HE HLo HI TOr hes;go_wp2_with (first
  | (refine nh (.load 249 (.tmp 57)) rfl ?_; go_must (refine pv rfl 249 (.tmp 57) rfl b (off + k * 19) rfl es re _ underlying249 rfl (by rw [hel]; exact Rk) ?_))
  | (refine nh (.store 249 (.tmp 10) (.tmp 58)) rfl (ab rfl wr.heap.size 0 es (nj.ph _ _ V2 _ rfl) (by rw [hel]; decide) (by rw [hel]; exact Rk) hone.out ?_)))
 intro w8 B8 g8 sw;clear sw;replace B8 : nj w8 wr.heap.size 249 es := su B8 aj;have k8 : Below wr.heap.size wr w8 := eZ;have C8 := Hh (C.out _ k8);have HF8 := Hh (HF.out.trans (pT.below (S := LS gx gl) k8) (fun _ _ h => h));clear C HF g8 re;go_wp2_with (refine nh (.load 24 (.tmp 61)) rfl ?_; go_must (refine ni rfl _ _ rfl wr.heap.size 0 rfl B8 18 ak _ underlying24 rfl vp ac he18 ?_));refine C8.out.mono ?_;rintro _ w9 ⟨A7, c7, rfl, hL7, hE7, hLo7, F7, hc7⟩;have HF9 := Hh (HF8.out.trans F7 (fun _ _ h => h));have HB9 : Hid (Below w.heap.size w w9) := Hh (HF9.out.toBelow HW7.out HW7.out.size (fun i hi h => by rcases h with h | h <;> (have := hL7.lo; omega)));have HL9 := Hh hL7;have HLo9 := Hh hLo7;have HE9 := Hh hE7;obtain ⟨vq9, vk9, ds9, hb9, -⟩ := hL7.b;have c29 := hb9.nf 29 (um hla 4 ak);have FIN : Hid ((T.ended = false \/ T.x.done = true) -> yo J w (.returned (.pointer (some ⟨gx, 0, none⟩))) w9) := Hh (fun c => by
  rw [TS.out.1 c];exact ⟨gx, gl, .slice A1 nl c1, AA, _, rfl, hL7, HB9.out⟩)
 clear C8 HF8 B8 hL7 hE7 hLo7 F7 HB9 k8 HF0;cases he : T.ended with
 | false => have FIN2 := Hh (FIN.out (.inl he));exact nb
 | true =>
 cases hd : T.x.done with
 | true => rw [hd] at c29;have FIN2 := Hh (FIN.out (.inr hd));exact nb
 | false =>
  rw [hd] at c29;have HI2 := Hh (TS.out.2.1 he hd);have HD2 : Hid ((qG T).hard = (hb || decide (T.means = 5)) /\ (qG T).k = k + 1) := Hh ⟨by show (T.x.hard || _) = _; rw [TS.out.2.2, hhb.out], by
   have := HI2.out.k;rw [HX0.out.1, hnt.out] at this;omega⟩
  have HP2 : Hid (pq w9 gx gl w.heap.size (.slice A1 nl c1) AA (.slice A7 T.rest.length c7) (qp ++ T.qs) (kp ++ T.kept) false 0 oh.zero) := Hh (by
   have h1 := HL9.out;rw [show T.x.done = false from HI2.out.pre.dn, show T.x.vd = 0 from HI2.out.pre.vd, show T.x.msg = oh.zero from HI2.out.pre.ms] at h1;exact h1)
  clear FIN TS HL9 he hd;cases hb with
  | true =>
   go_wp2_with fail;go_roundw
   case rel => exact ⟨f, qG T, T.L, T.rest, _, _, A7, c7, by rw [HD2.out.1]; rfl, by rw [HD2.out.2]; go_num, by rw [HD2.out.2]; omega, HI2, HP2, HE9, HLo9, HF9, hc7⟩
   case measure => simp [intOf]; omega
  | false =>
   go_wp2_with fail;go_roundw
   case rel => exact ⟨f, qG T, T.L, T.rest, _, _, A7, c7, by rw [HD2.out.1]; first | rfl | (congr 1; simp), by rw [HD2.out.2]; go_num, by rw [HD2.out.2]; omega, HI2, HP2, HE9, HLo9, HF9, hc7⟩
   case measure => simp [intOf]; omega
def Rl (J : JR) (w : World) (e : Ending) (w' : World) : Prop := ∃ ds, e = .returned (.tuple #[.agg (Value.int .i64 J.1.vd :: ds).toArray, .bool J.1.done]) /\ nL w' ds J.1.msg /\ Below w.heap.size w w'
def Uh (J : JR) (w : World) (e : Ending) (w' : World) : Prop := ∃ v B, e = .returned v /\ nZ w' B 42 22 QY v J.2.1 /\ Below w.heap.size w w'
def Rm (J : JR) (w : World) (e : Ending) (w' : World) : Prop := ∃ A c, e = .returned (.slice A J.2.2.length c) /\ Below w.heap.size w w'
theorem Cm (TC : List Value) (lv : Value) (J : JR) (w : World) (hTl : TC.length = 15) (TH : ∀ V, Below w.heap.size w V -> Calls prog 104 #[.agg TC.toArray, lv] V (yo J V)) : Calls prog 58 #[.agg TC.toArray, lv] w (Rl J w) := by
 have HX : Below w.heap.size w ((w.alloc (.cells TC.toArray 125)).alloc (.cells (Value.int .i64 0 :: nR).toArray 92)) := eG;have B0 := (nj.new w 125 TC).alloc (.cells (Value.int .i64 0 :: nR).toArray 92);have B1 := nj.ph (w.alloc (.cells TC.toArray 125)) 92 (Value.int .i64 0 :: nR) (w.heap.size + 1) ag;have HTH := Hh TH;clear TH;go_enter func58, ntmps58;go_wp2_with (refine nh (.load 125 (.tmp 2)) rfl ?_; go_must (refine ni rfl _ _ rfl w.heap.size 0 rfl B0 15 ak _ underlying125 rfl Vg TC (qj ak) ?_));refine (HTH.out _ HX).mono ?_;rintro _ w2 ⟨g, gl, vn, A, vr, rfl, hL, b2⟩;obtain ⟨vq, vk, ds, hb, -, -, hM⟩ := hL.b;have hla := hL.la;have hdl := hM.len;have B2 := B1.below b2 B1.lt;have H2 := nc HX HX.size b2;have HM := Hh hM;obtain ⟨O, hO⟩ : ∃ O, Hid (Value.int .i64 J.1.vd :: ds = O) := eD;have hO1 : ∀ v ∈ O, v.oneCell' = true := by rw [<- hO.out];exact kA
 have hOl : O.length = 15 := by rw [<- hO.out]; simp [hdl]
 have M30 : ((vy A gl vr vq vk J.1.done J.1.vd ds).drop 30).take 15 = O := (Vb hla hdl).trans hO.out;have M29 := um (gl := gl) (vr := vr) (vq := vq) (vk := vk) (dn := J.1.done) (vd := J.1.vd) (ds := ds) hla 4 ak;have hMl : (vy A gl vr vq vk J.1.done J.1.vd ds).length = 45 := by rw [FL hla, hdl]
 have hgw : g ≠ w.heap.size + 1 := fun e => hb.pk B2 aj e
 generalize vy A gl vr vq vk J.1.done J.1.vd ds = M at *;have LO : Hid (∀ V, nj V g 194 M -> (Instr.loadAt 92 (.pointer (some ⟨g, 30, none⟩))).run prog V = .ok (.agg O.toArray) V) := Hh (fun V hV => hV.pF 92 30 15 ak _ underlying92 rfl qx _ M30);have LD : Hid (∀ V, nj V g 194 M -> (Instr.loadAt 4 (.pointer (some ⟨g, 29, none⟩))).run prog V = .ok (.bool J.1.done) V) := Hh (fun V hV => nN underlying4 rfl (hV.nf 29 M29));have zl0 : (Value.int .i64 0 :: nR : List Value).length = 15 := rfl;have FIN : Hid (∀ V, w2.grownBy V (some (w.heap.size + 1)) -> Rl J w (.returned (.tuple #[.agg O.toArray, .bool J.1.done])) V) := Hh (fun V hV => by
  refine ⟨ds, by rw [hO.out], HM.out.u9 hV B2 aj aj aj, ?_⟩;exact ng H2 hV H2.size ak)
 clear HTH HX B0 B1 b2 hL hM hO HM;generalize J.1.done = dn at *;go_wp2_with fail;refine wp_region_held_drew (S := fun V => nj V g 194 M) (by kernel_rfl) hb.drew (fun hS => ?_);refine nI hS 8 [0,1,2,3,4,5,6,7] rfl (by kernel_rfl) (fun _ _ _ _ _ h => h) rfl rfl ?_
 (refine ⟨_, (.pointer (some ⟨g, 0, none⟩)), rfl, .inl ⟨rfl, fun V hV => rfl⟩, ?_⟩; simp only [Act.put, nB, nC, nD])
 (refine ⟨_, (.pointer (some ⟨g, 0, none⟩)), rfl, .inl ⟨rfl, fun V hV => rfl⟩, ?_⟩; simp only [Act.put, nB, nC, nD])
 (refine ⟨_, (.pointer (some ⟨g, 30, none⟩)), rfl, .inl ⟨rfl, fun V hV => rfl⟩, ?_⟩; simp only [Act.put, nB, nC, nD])
 (refine ⟨_, _, rfl, .inl ⟨rfl, fun V hV => (nW 92 (.tmp 12) ⟨g, 30, none⟩ rfl rfl (LO.out V hV))⟩, ?_⟩; simp only [Act.put, nB, nC, nD])
 (refine ⟨_, (.pointer (some ⟨g, 0, none⟩)), rfl, .inl ⟨rfl, fun V hV => rfl⟩, ?_⟩; simp only [Act.put, nB, nC, nD])
 (refine ⟨_, (.pointer (some ⟨g, 0, none⟩)), rfl, .inl ⟨rfl, fun V hV => rfl⟩, ?_⟩; simp only [Act.put, nB, nC, nD])
 (refine ⟨_, (.pointer (some ⟨g, 29, none⟩)), rfl, .inl ⟨rfl, fun V hV => rfl⟩, ?_⟩; simp only [Act.put, nB, nC, nD])
 (refine ⟨_, _, rfl, .inl ⟨rfl, fun V hV => (nW 4 (.tmp 16) ⟨g, 29, none⟩ rfl rfl (LD.out V hV))⟩, ?_⟩; simp only [Act.put, nB, nC, nD])
 simp only [pa];refine pG 8 none 92 (.tmp 4) (.tmp 13) (by kernel_rfl) rfl rfl rfl (by kernel_rfl) (w.heap.size + 1) 0 rfl O rfl B2.drew (by rw [hOl, zl0]; decide) cV hO1 ?_;intro w3 B3 g3 _;replace B3 := oH (L := O) B3 dQ;have hS3 : nj w3 g 194 M := hb.drew.grown g3 (by intro e; injection e with e; exact hgw e);have G3 := ns (qK (World.grownBy.refl w2 (some (w.heap.size + 1)))) g3 (.inl rfl);refine ⟨hS3, ?_⟩;simp only [Act.put, nB, nC, nD];clear hS;have hS := hS3;refine nI hS 1 [9] rfl (by kernel_rfl) (fun _ _ _ _ _ h => h) rfl rfl ?_
 (refine ⟨_, (.bool dn), rfl, .inl ⟨rfl, fun V hV => rfl⟩, ?_⟩; simp only [Act.put, nB, nC, nD])
 simp only [pa];refine wpAnyH_done (by kernel_rfl) ?_ _;have FIN2 := Hh (FIN.out w3 G3);clear FIN hS hS3 g3 G3 hb B2 LO LD;go_wp2_with fail;refine oF rfl (w.heap.size + 1) rfl B3 _ underlying92 rfl cV rfl _ rfl ?_;exact FIN2.out
theorem Rn (TC : List Value) (lv : Value) (J : JR) (w : World) (hTl : TC.length = 15) (TH : ∀ V, Below w.heap.size w V -> Calls prog 104 #[.agg TC.toArray, lv] V (yo J V)) : Calls prog 61 #[.agg TC.toArray, lv] w (Uh J w) := by
 have HX : Below w.heap.size w (w.alloc (.cells TC.toArray 125)) := eC;have B0 := nj.new w 125 TC;have HTH := Hh TH;clear TH;go_enter func61, ntmps61;go_wp2_with (refine nh (.load 125 (.tmp 2)) rfl ?_; go_must (refine ni rfl _ _ rfl w.heap.size 0 rfl B0 15 ak _ underlying125 rfl Vg TC (qj ak) ?_));refine (HTH.out _ HX).mono ?_;rintro _ w2 ⟨g, gl, vn, A, vr, rfl, hL, b2⟩;obtain ⟨vq, vk, ds, hb, -, hk, -⟩ := hL.b;have hla := hL.la;have c28 := hb.nf 28 (um hla 3 ak);have FIN : Hid (Uh J w (.returned vk) w2) := Hh ⟨vk, _, rfl, hk, nc HX HX.size b2⟩;clear HTH HX B0 b2 hL hk;exact kL
theorem TB (TC : List Value) (lv : Value) (J : JR) (w : World) (hTl : TC.length = 15) (TH : ∀ V, Below w.heap.size w V -> Calls prog 104 #[.agg TC.toArray, lv] V (yo J V)) : Calls prog 103 #[.agg TC.toArray, lv] w (Rm J w) := by
 have HX : Below w.heap.size w (w.alloc (.cells TC.toArray 125)) := eC;have B0 := nj.new w 125 TC;have HTH := Hh TH;clear TH;go_enter func103, ntmps103;go_wp2_with (refine nh (.load 125 (.tmp 2)) rfl ?_; go_must (refine ni rfl _ _ rfl w.heap.size 0 rfl B0 15 ak _ underlying125 rfl Vg TC (qj ak) ?_));refine (HTH.out _ HX).mono ?_;rintro _ w2 ⟨g, gl, vn, A, vr, rfl, hL, b2⟩;obtain ⟨vq, vk, ds, hb, hq, -, -⟩ := hL.b;have hla := hL.la;have c27 := hb.nf 27 (um hla 2 ak);obtain ⟨Aq, cq, rfl⟩ := hq.form;have FIN : Hid (Rm J w (.returned (.slice Aq J.2.2.length cq)) w2) := Hh ⟨Aq, cq, rfl, nc HX HX.size b2⟩;clear HTH HX B0 b2 hL hq;generalize J.2.2.length = nq at *;exact kL
end Go.Proofs.YthnbcmlnpdabhaaGreat

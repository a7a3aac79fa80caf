/-
  Layer 29 (xchg): connection.
-/
import Derived.Test.YthnbcmlnpdabhaaGreatIJq
namespace Go.Proofs.YthnbcmlnpdabhaaGreat
open _root_.Go.Proofs.Tryz
open Go.RowKit
set_option maxRecDepth 100000
set_option linter.unusedVariables false
set_option linter.unusedSimpArgs false
theorem Fr.V8 {S : Nat -> Prop} {w w' : World} {B : Nat} {e : TypeId} {s n : Nat} {v : Value} {xs : List Value} (h : Fr S w w') (ho : w.ownsRow B e s v n xs) (hS : ∀ b, v.ownBlock = some b -> ¬ S b) : w'.ownsRow B e s v n xs := by
 obtain ⟨h0, ho⟩ := ho;refine ⟨h0, ?_⟩;rcases ho with ho | ⟨g, cap, cur, hv, hB, hg, r⟩
 ·exact .inl ho
 ·exact .inr ⟨g, cap, cur, hv, hB, h.oL (g := g) (t := e) (cs := cur.toList) hg (hS g (by rw [hv]; rfl)), r⟩
theorem pX.fr {S : Nat -> Prop} {lo : Nat} {w w' : World} {v : Value} {l : List Ou} (h : pX lo w v l) (k : Fr S w w') (hS : ∀ b, lo <= b -> ¬ S b) : pX lo w' v l := by
 obtain ⟨css, h1, h2⟩ := h;exact ⟨css, k.V8 h1 (fun b hb => hS b (sf h1 b hb)), h2⟩
theorem pX.Fx {lo : Nat} {w : World} {v : Value} {l : List Ou} (h : pX lo w v l) {g : Nat} {t : TypeId} {L : List Value} (hb : nj w g t L) (ht : t ≠ 97) : v.ownBlock ≠ some g := by
 intro e;obtain ⟨css, h1, _⟩ := h;rcases h1.2 with ⟨hv, _⟩ | ⟨g', cap, cur, hv, _, hg, _⟩
 ·rw [hv] at e; cases e
 ·rw [hv] at e;injection e with e;have e : g' = g := e;subst e;exact sA (g := g') (g' := g') (L' := cur.toList) hb hg ht rfl
theorem pX.V9 {lo : Nat} {w w' : World} {v : Value} {l : List Ou} (h : pX lo w v l) (hg : w.grownBy w' v.ownBlock) : Fr (fun i => v.ownBlock = some i) w w' := by
 obtain ⟨css, h1, _⟩ := h;rcases h1.2 with ⟨hv, _⟩ | ⟨g', cap, cur, hv, _, hb, _⟩
 ·subst hv;exact ⟨hg.os, hg.tape, hg.output, hg.size, fun i hi => .inl (hg.block i hi (by intro h; cases h))⟩
 ·subst hv;exact Fr.grown (g := g') (cs := cur.toList) hg hb bJ rfl
theorem Iz {α : Type} {R : List Value -> α -> Prop} : ∀ {a b : List (List Value)} {l m : List α}, tq R a l -> tq R b m -> tq R (a ++ b) (l ++ m)
 | [], _, [], _, _, h => h
 | _ :: _, _, _ :: _, _, h, k => ⟨h.1, Iz h.2 k⟩
theorem Fy : ∀ {css : List (List Value)} {l : List Ou}, tq Vn css l -> css.flatten.length = l.length * 21 /\ ∀ u ∈ css.flatten, u.oneCell' = true
 | [], [], _ => ⟨rfl, ag⟩
 | cs :: css, o :: l, h => by
  obtain ⟨h1, h2⟩ := Fy h.2;refine ⟨?_, fun u hu => ?_⟩
  ·simp only [List.flatten_cons, List.length_append, List.length_cons, h1, h.1.len]; omega
  ·
   rcases List.mem_append.1 hu with hu | hu
   ·rw [h.1.1] at hu; exact SX u hu
   ·exact h2 u hu
theorem tJ (w : World) {ops : Array Oper} {rest : List Oper} {o : Oper} {a : Act} {Q : Exit -> Act -> World -> Prop} (hgd : o.guard = none) (s x : Operand)
  (ho : o.op = .call { callee := .builtin .append, args := #[s, x], argTypes := #[34, 34] }) {lo lo2 : Nat} {v1 v2 : Value} {o1 o2 : List Ou} (hs : a.eval s = v1) (hx : a.eval x = v2) (h1 : pX lo w v1 o1) (h2 : pX lo2 w v2 o2) (hlo : lo <= w.heap.size) (hl : o1.length + o2.length <= 100000)
  (h : ∀ v' w', pX lo w' v' (o1 ++ o2) -> Fr (fun i => v1.ownBlock = some i) w w' -> wpList prog ops Q rest (a.put o.dst v') w') : wpList prog ops Q (o :: rest) a w := by
 have H1 := h1;obtain ⟨css1, w1, e1⟩ := h1;obtain ⟨css2, w2, e2⟩ := h2;obtain ⟨l1, _⟩ := Fy e1;obtain ⟨l2, n2⟩ := Fy e2;obtain ⟨A2, c2, rfl⟩ := sT w2;refine sY w hgd s x 34 ho 97 (.agg Wn.toArray) 21 64 underlying34 Lm (by kernel_rfl) aj lo v1 o1.length css1.flatten hs w1 hlo A2 o2.length c2 css2.flatten hx (fun hp => ?_) l2 n2 aA ak _ rfl ?_
 ·
  obtain ⟨g, L, hA, hb, hL, _⟩ := yD w2 hp l2;refine ⟨g, 0, hA, fun j v hv => ?_⟩;rw [Nat.zero_add];refine hb.nf j ?_;rw [<- hL] at hv;rw [List.getElem?_take] at hv;split at hv
  ·exact hv
  ·cases hv
 ·intro A' c' w' ho' hg;refine h _ w' ⟨css1 ++ css2, ?_, Iz e1 e2⟩ (H1.V9 hg);rw [List.flatten_append, List.length_append];exact ho'
theorem rp.QH {w : World} {g : Nat} {d : Dl} (h : rp w g d) : ∃ L, nj w g 152 L := by
 obtain ⟨p, hJ, _⟩ := h;obtain ⟨vn, L, ds, hb, _⟩ := hJ.oL;exact ⟨L, hb⟩
theorem qy.fr {S : Nat -> Prop} {w w' : World} {g gl : Nat} {D : Option Nat} {x : Xc} (h : qy w g gl D x) (k : Fr S w w') (hg : ¬ S g) (hD : ∀ i L, D = some i -> nj w i 152 L -> ¬ S i) : qy w' g gl D x := by
 obtain ⟨ok, vn, hs, eb, qs, hb, h1, h2⟩ := h;refine ⟨ok, vn, hs, eb, qs, hb.fr k hg, h1, fun hd => ?_⟩;obtain ⟨a, b, c, d, e⟩ := h2 hd;refine ⟨a, b, c, d, fun hl => ?_⟩;obtain ⟨gd, hgd, hA⟩ := e hl;obtain ⟨L, hL⟩ := hA.QH;exact ⟨gd, hgd, hA.fr k (hD gd L hgd hL)⟩
theorem rM.app {g gl : Nat} {D D' : Option Nat} {r : XR} {o : List Ou} {w w1 w' : World} {v1 v' : Value} {lo : Nat} (hx : qy w1 g gl D' r.1) (hl : oW w1 gl r.2.1) (k : Fr (XS g gl D) w w1) (hD : ∀ i, D' = some i -> D = some i \/ w.heap.size <= i) (h1 : pX lo w1 v1 o) (hlo : w.heap.size <= lo) (hv : pX lo w' v' (o ++ r.2.2)) (f : Fr (fun i => v1.ownBlock = some i) w1 w') : rM g gl D (qH o r) w (.returned v') w' := by
 obtain ⟨Lg, hLg⟩ := hx.oL;obtain ⟨Ll, hLl⟩ := qU hl;refine ⟨v', D', rfl, hv.mono hlo, hx.fr f (h1.Fx hLg aj) (fun i L hi hb => h1.Fx hb aj), hl.fr f (h1.Fx hLl aj), k.trans f (fun i hi h => ?_), hD⟩;obtain ⟨css, ho, _⟩ := h1;have := sf ho i h;omega
theorem QI (d : Dl) (e : Ev) : (n6 d e).1.st = d.st \/ (n6 d e).1.st = 1 \/ (n6 d e).1.st = 2 := by
 unfold n6
 (repeat' split) <;> simp
set_option maxHeartbeats 4000000 in
theorem BS (g gl : Nat) (D : Option Nat) (x : Xc) (L : Lt) (e : Ev) (w : World) (h : qy w g gl D x) (hl : oW w gl L) (hdn : x.done = false) (hlg : x.lg = 2) (hip : e.fr.ip.length = 16) (hs : x.d.heard.length + e.data.length <= 8796093022208) (hu : L.us <= 999999990) (hd : L.ds.length <= 17592186044416) (hsn : x.sent <= 1000000) :
  Calls prog 190 #[.pointer (some ⟨g, 0, none⟩), .agg (qm e).toArray] w (rM g gl D (oI x L e) w) := by
 obtain ⟨R, hR⟩ : ∃ R, Hid (oI x L e = R) := eD;rw [hR.out];have HT : Hid (R = if e.kind = 1 then (if x.left <= 1 then qH (qI x.d).2 (qJ { x with left := x.left - 1, d := (qI x.d).1 } L) else ({ x with left := x.left - 1 }, L, []))
  else if (n6 x.d e).1.st = 1 then qH (n6 x.d e).2 (ti { x with d := (n6 x.d e).1 } L (n6 x.d e).1.msg)
  else if (n6 x.d e).1.st = 2 then qH (n6 x.d e).2 (qJ { x with d := (n6 x.d e).1 } L)
  else ({ x with d := (n6 x.d e).1 }, L, (n6 x.d e).2)) := Hh (by rw [<- hR.out]; unfold oI; rw [if_neg c8, if_pos hlg])
 obtain ⟨ok, vn, hv, eb, qs, hb, -, h2⟩ := h;obtain ⟨hk, hl1, hl2, hyq, hysv, hdo⟩ := ok.go hdn;obtain ⟨hds, hdy, hdk⟩ := hdo hlg;have hst := ok.st hdn;obtain ⟨hhv, heb, hqs, -, hDD⟩ := h2 hdn;obtain ⟨gd, hD, hDA⟩ := hDD hlg;subst hD;subst heb;subst hqs;obtain ⟨lcs, hlc⟩ := qU hl;obtain ⟨M, vt, ds0, hbk, hMl, _, _, _, _, _, _, _, _, _, _, c41, _⟩ := hb.cells;have gne := sA hbk hlc aj;obtain ⟨Ld, hLd⟩ := hDA.QH;have gnd := sA hbk hLd aj;have lnd := sA hlc hLd aj;have hglt := hbk.lt;have hdlt := hLd.lt;have hllt := hlc.lt;have hel := sR hip;have E0 : (qm e)[0]? = some (.int .i64 e.kind) := rfl;have HB := Hh hb;have HLT := Hh hl;have HST := Hh hst;have HOK := Hh ok;have HDA := Hh hDA;have HHV := Hh hhv;have hto : x.left <= 30 := Int.le_trans hl2 hst.to2;have HX : Below w.heap.size w (w.alloc (.cells (qm e).toArray 42)) := eC;have E := nj.new w 42 (qm e);have d0 := E.nf 0 E0;have HE := Hh E;have HBK := Hh hbk;have hnd := Hh (D8 x.d e);have hng := Hh (Ea x.d);clear hl hst ok hR E hlc hLd hDA hbk h2 hDD;obtain ⟨w1, hw1⟩ : ∃ w1, Hid (w.alloc (.cells (qm e).toArray 42) = w1) := eD;rw [hw1.out] at HX HE;have FX : Fr (XS g gl (some gd)) w w1 := Fr.below HX;by_cases hk1 : e.kind = 1
 case pos =>
  rw [if_pos hk1] at HT;have OV := Hh (Iy g gl vn x hv x.oX (qY vn x.y) (some gd) w1 (hb.below HX) hl1 hto);unfold Lv at OV;rw [hk1] at d0;clear hk1 HE hb E0;by_cases hl0 : x.left <= 1
  case pos =>
   rw [if_pos hl0] at HT;rw [show decide (x.left - 1 <= 0) = true by simp; omega] at OV;clear hl0 hnd;generalize qm e = es at *;go_enter func190, ntmps190;go_wp2_with fail;rw [hw1.out];refine OV.out.mono ?_;rintro _ w2 ⟨rfl, hb2, g2⟩;have F2 := Fr.grown (S := fun i => i = g) g2 (HBK.out.below HX hglt) (.inr (.inl rfl)) rfl;have hl3 := (HLT.out.below HX).fr F2 (fun e => gne e.symm);have hD3 := (HDA.out.below HX).fr F2 (fun e => gnd e.symm);have FF := FX.trans (F2.mono (S' := XS g gl (some gd)) (fun _ h => .inl h)) (fun _ _ h => h);obtain ⟨_, _, _, hbk2, _, _, _, _, _, _, _, _, _, _, _, c41b, _⟩ := hb2.cells;have d41 := hbk2.nf 41 c41b;unfold BI at d41;have HG := Hh (Qp gd x.d w2 hD3);obtain ⟨Ld2, hLd2⟩ := hD3.QH;clear OV hbk2 c41b d0 FX F2 g2;go_wp2_with fail;refine HG.out.mono ?_;rintro _ w3 ⟨v1, rfl, hO1, hD3', g3⟩;have F3 := Fr.grown (S := fun i => i = gd) g3 hLd2 (.inl rfl) rfl;have hb3 := hb2.fr F3 gnd;have hl4 := hl3.fr F3 lnd;have hlo : w.heap.size <= w2.heap.size := FF.size;have NX := Hh (wi g gl vn { x with left := x.left - 1, d := (qI x.d).1 } L hv x.oX (qY vn x.y) (some gd) w3 ⟨hb3.b, hb3.nm, hb3.ql⟩ hl4 ⟨HST.out.ips, HST.out.to1, HST.out.to2, HST.out.trl, HST.out.err⟩ hdn hk hu hd hsn);have FG := FF.trans (F3.mono (S' := XS g gl (some gd)) (fun i h => .inr (.inr bf))) (fun _ _ h => h);have nxl : (qJ { x with left := x.left - 1, d := (qI x.d).1 } L).2.2.length <= 1 := uP _ _;have hng' := hng.out;have hw23 : w2.heap.size <= w3.heap.size := F3.size;have HR2 : Hid (R = qH (qI x.d).2 (qJ { x with left := x.left - 1, d := (qI x.d).1 } L)) := HT;clear HG hb2 hl3 hD3 g3 F3 hb3 hl4 hD3' d41 HT hLd2 hng;generalize qJ { x with left := x.left - 1, d := (qI x.d).1 } L = r at *;go_wp2_with fail;refine NX.out.mono ?_;rintro _ w9 ⟨v2, D', rfl, hO2, hA9, hL9, hf9, hD9⟩;have O9 := hO1.fr hf9 (fun b hb h => by
    rcases h with h | h | h
    ·have := FF.size; have := hglt; omega
    ·have := FF.size; omega
    ·
     injection h with h; have := FF.size; omega)
   have F9 := FG.trans hf9 (fun _ _ h => h);replace hD9 : ∀ i, D' = some i -> some gd = some i \/ w.heap.size <= i := fV;have hO9 := hO2;have hw39 : w3.heap.size <= w9.heap.size := hf9.size;clear NX hO1 hO2 hf9 FF FG;go_wp2_with (at_builtin; go_must (refine tJ _ rfl (.tmp 17) (.tmp 19) rfl rfl rfl O9 hO9 ak ak ?_));exact ks
  case neg =>
   rw [if_neg hl0] at HT;rw [show decide (x.left - 1 <= 0) = false by simp; omega] at OV;have HL := Hh hl0;clear hl0 hnd hng;generalize qm e = es at *;go_enter func190, ntmps190;go_wp2_with fail;rw [hw1.out];refine OV.out.mono ?_;rintro _ w2 ⟨rfl, hb2, g2⟩;have F2 := Fr.grown (S := fun i => i = g) g2 (HBK.out.below HX hglt) (.inr (.inl rfl)) rfl;have hl3 := (HLT.out.below HX).fr F2 (fun e => gne e.symm);have hD3 := (HDA.out.below HX).fr F2 (fun e => gnd e.symm);have FF := FX.trans (F2.mono (S' := XS g gl (some gd)) (fun _ h => .inl h)) (fun _ _ h => h);have FIN : Hid (rM g gl (some gd) ({ x with left := x.left - 1 }, L, []) w (.returned nA) w2) := Hh (rM.none ⟨⟨fun _ => ⟨HST.out.ips, HST.out.to1, HST.out.to2, HST.out.trl, HST.out.err⟩, fun h => by
     obtain ⟨k1, k2, k3, k4, k5, k6⟩ := HOK.out.go h;have := HL.out;exact ⟨k1, eo, et, k4, k5, k6⟩⟩, ⟨vn, hv, _, _, hb2, fun h => absurd (show x.done = true from h) c8, fun _ => ⟨HHV.out, rfl, rfl, fun h => absurd hlg h, fun _ => ⟨gd, rfl, hD3⟩⟩⟩⟩ hl3 FF)
   clear hb2 g2 F2 hl3 hD3 OV d0 FX FF;exact mj
 rw [if_neg hk1] at HT;have hk1' : (e.kind == 1) = false := by simpa using hk1
 have LE : ∀ V, nj V w.heap.size 42 (qm e) -> (Instr.loadAt 42 (.pointer (some ⟨w.heap.size, 0, none⟩))).run prog V = .ok (.agg (qm e).toArray) V := fun V hV => hV.pF 42 0 22 ak _ underlying42 rfl Ek _ (qj ak)
 have HLE := Hh LE;have HC := Hh (fun V (hV : Below w.heap.size w V) => Qq gd x.d e V (HDA.out.below hV) hip hs);have dy := Lb x.d e;have dk := Bh x.d e hdk;have DY := Hh (And.intro dy dk);unfold zu at HC;clear hk1 LE E0 hb hng dy dk;obtain ⟨rd, hrd⟩ : ∃ rd, Hid (n6 x.d e = rd) := eD;rw [hrd.out] at HC HT hnd DY;generalize e.kind = kd at *;generalize qm e = es at *;clear hel hip hs;have B41 : nj w1.drew g 177 M := (HBK.out.below HX hglt).drew;unfold BI at c41;have C41 := Hh c41;have hS0 : (Instr.loadAt 33 (.pointer (some ⟨g, 41, none⟩))).run prog w1.drew = .ok (.pointer (some ⟨gd, 0, none⟩)) w1.drew /\ nj w1.drew w.heap.size 42 es := ⟨nN underlying33 rfl (B41.nf 41 c41), HE.out.drew⟩;clear c41;go_enter func190, ntmps190;go_wp2_with fail;rw [hw1.out];refine wp_region_held_drew (S := fun V => (Instr.loadAt 33 (.pointer (some ⟨g, 41, none⟩))).run prog V = .ok (.pointer (some ⟨gd, 0, none⟩)) V /\ nj V w.heap.size 42 es) (by kernel_rfl) hS0 (fun hS => ?_);refine nI hS 5 [0,1,2,3,4] rfl (by kernel_rfl) (fun _ _ _ _ _ h => h) rfl rfl ?_;repeat (refine ⟨_, _, rfl, .inl ⟨rfl, fun W hW => rfl⟩, ?_⟩; simp only [Act.put, nB, nC, nD])
 (refine ⟨_, _, rfl, .inl ⟨rfl, fun V hV => (nW 33 (.tmp 23) ⟨g, 41, none⟩ rfl rfl hV.1)⟩, ?_⟩; simp only [Act.put, nB, nC, nD])
 (refine ⟨_, _, rfl, .inl ⟨rfl, fun V hV => (nW 42 (.tmp 3) ⟨w.heap.size, 0, none⟩ rfl rfl (HLE.out V hV.2))⟩, ?_⟩; simp only [Act.put, nB, nC, nD])
 simp only [pa];have hWd : Below w.heap.size w w1.drew := HX.drew;obtain ⟨Ld1, hLd1⟩ := (HDA.out.below hWd).QH;refine oY 5 (some 26) 18 #[.pointer (some ⟨gd, 0, none⟩), .agg es.toArray] (by kernel_rfl) rfl rfl (by kernel_rfl) aS (HC.out _ hWd) ?_;rintro _ w3 ⟨v1, rfl, hO1, hD3, g3⟩;have B41' := B41.grown g3 (by intro e; injection e with e; exact gnd e);have BE3 := hS.2.grown g3 db;have d41 := B41'.nf 41 C41.out;have hS3 : (Instr.loadAt 33 (.pointer (some ⟨g, 41, none⟩))).run prog w3 = .ok (.pointer (some ⟨gd, 0, none⟩)) w3 /\ nj w3 w.heap.size 42 es := ⟨nN underlying33 rfl d41, BE3⟩;refine ⟨_, rfl, hS3, ?_⟩;have F3 := Fr.grown (S := fun i => i = gd) g3 hLd1 (.inl rfl) rfl;have hb3 := ((HB.out.below hWd)).fr F3 gnd;have hl3 := (HLT.out.below hWd).fr F3 lnd;have hlo : w.heap.size <= w1.drew.heap.size := hWd.size;have hw23 : w1.drew.heap.size <= w3.heap.size := F3.size;have FG : Fr (XS g gl (some gd)) w w3 := (Fr.below (S := XS g gl (some gd)) hWd).trans (F3.mono (S' := XS g gl (some gd)) (fun i h => .inr (.inr bf))) (fun _ _ h => h);have DS := Hh (JQ gd rd.1 w3 hD3);have HD3 := Hh hD3;have HB3 := Hh hb3;have HL3 := Hh hl3;have HO1 := Hh hO1;have HFG := Hh FG;clear g3 hLd1 B41 BE3 hS hS0 HC F3 hb3 hl3 hD3 hO1 FG;have hS := hS3;simp only [Act.put, nB, nC, nD];refine nI hS 1 [6] rfl (by kernel_rfl) (fun _ _ _ _ _ h => h) rfl rfl ?_
 (refine ⟨_, v1, rfl, .inl ⟨rfl, fun V hV => rfl⟩, ?_⟩; simp only [Act.put, nB, nC, nD])
 simp only [pa];refine wpAnyH_done (by kernel_rfl) ?_ _;clear hS hS3;go_wp2_with fail;refine DS.out.mono ?_;rintro _ w3' ⟨rfl, rfl⟩;clear DS;have STX : ({ x with d := rd.1 } : Xc).st := ⟨HST.out.ips, HST.out.to1, HST.out.to2, HST.out.trl, HST.out.err⟩;have HSTX := Hh STX;have XB3 : pH w3 g gl vn { x with d := rd.1 } hv x.oX (qY vn x.y) (some gd) := ⟨HB3.out.b, HB3.out.nm, HB3.out.ql⟩;have HXB3 := Hh XB3;clear STX XB3;have h1nd := hnd.out;by_cases s1 : rd.1.st = 1
 case pos =>
  have HR2 : Hid (R = qH rd.2 (ti { x with d := rd.1 } L rd.1.msg)) := Hh (by rw [HT.out, if_pos s1]);rw [s1];have DM := Hh (Qm gd rd.1 w3 HD3.out);unfold Ql at DM;clear HT s1;go_wp2_with fail;refine DM.out.mono ?_;rintro _ w4 ⟨ds, rfl, hM4, b4⟩;have RP := Hh (BR g gl vn { x with d := rd.1 } L hv true (qY vn x.y) (some gd) ds rd.1.msg w4 (HXB3.out.below b4) (HL3.out.below b4) HSTX.out hdn hk hu hd hsn (by simp [hlg]) hM4);have O4 := HO1.out.below b4;have HO4 := Hh O4;have F4 := HFG.out.trans (Fr.below (S := XS g gl (some gd)) b4) (fun _ _ h => h);have HF4 := Hh F4;have hw34 : w3.heap.size <= w4.heap.size := b4.size;have nxl : (ti { x with d := rd.1 } L rd.1.msg).2.2.length <= 1 := yL _ _ _;clear DM hM4 b4 O4 F4 d41;generalize ti { x with d := rd.1 } L rd.1.msg = r at *;go_wp2_with fail;refine RP.out.mono ?_;rintro _ w9 ⟨v2, D', rfl, hO2, hA9, hL9, hf9, hD9⟩;have O9 := HO4.out.fr hf9 (fun b hb h => by
   rcases h with h | h | h
   ·omega
   ·omega
   ·
    injection h with h; omega)
  have F9 := HF4.out.trans hf9 (fun _ _ h => h);replace hD9 : ∀ i, D' = some i -> some gd = some i \/ w.heap.size <= i := fV;have hO9 := hO2;have hw39 : w4.heap.size <= w9.heap.size := hf9.size;clear RP hO2 hf9;go_wp2_with (at_builtin; go_must (refine tJ _ rfl (.tmp 34) (.tmp 41) rfl rfl rfl O9 hO9 ak ak ?_));exact ks
 have s1' : (rd.1.st == 1) = false := by simpa using s1
 by_cases s2 : rd.1.st = 2
 case pos =>
  have HR2 : Hid (R = qH rd.2 (qJ { x with d := rd.1 } L)) := Hh (by rw [HT.out, if_neg s1, if_pos s2]);have NX := Hh (wi g gl vn { x with d := rd.1 } L hv x.oX (qY vn x.y) (some gd) w3 HXB3.out HL3.out HSTX.out hdn hk hu hd hsn);have nxl : (qJ { x with d := rd.1 } L).2.2.length <= 1 := uP _ _;rw [s2];clear HT s1 s1' s2 d41;generalize qJ { x with d := rd.1 } L = r at *;go_wp2_with fail;refine NX.out.mono ?_;rintro _ w9 ⟨v2, D', rfl, hO2, hA9, hL9, hf9, hD9⟩;have O9 := HO1.out.fr hf9 (fun b hb h => by
   rcases h with h | h | h
   ·omega
   ·omega
   ·
    injection h with h; omega)
  have F9 := HFG.out.trans hf9 (fun _ _ h => h);replace hD9 : ∀ i, D' = some i -> some gd = some i \/ w.heap.size <= i := fV;have hO9 := hO2;have hw39 : w3.heap.size <= w9.heap.size := hf9.size;clear NX hO2 hf9;go_wp2_with (at_builtin; go_must (refine tJ _ rfl (.tmp 45) (.tmp 47) rfl rfl rfl O9 hO9 ak ak ?_));exact ks
 have s2' : (rd.1.st == 2) = false := by simpa using s2
 have HR2 : Hid (R = ({ x with d := rd.1 }, L, rd.2)) := Hh (by rw [HT.out, if_neg s1, if_neg s2]);have FIN : Hid (rM g gl (some gd) ({ x with d := rd.1 }, L, rd.2) w (.returned v1) w3) := Hh (by
  have h0 : rd.1.st = 0 := by
   rcases QI x.d e with h | h | h
   ·rw [hrd.out] at h; exact h.trans hds
   ·rw [hrd.out] at h; exact absurd h s1
   ·rw [hrd.out] at h; exact absurd h s2
  refine ⟨v1, some gd, rfl, HO1.out.mono hlo, ⟨⟨fun _ => HSTX.out, fun h => ?_⟩, ⟨vn, hv, _, _, HXB3.out, fun h => ?_, fun h => ?_⟩⟩, HL3.out, HFG.out, fun i hi => .inl hi⟩
  ·obtain ⟨k1, k2, k3, k4, k5, k6⟩ := HOK.out.go h;exact ⟨k1, k2, k3, k4, k5, fun hl => ⟨h0, DY.out.1.trans hdy, DY.out.2⟩⟩
  ·rw [show x.done = true from h] at hdn; cases hdn
  ·
   exact ⟨HHV.out, rfl, rfl, fun h => absurd hlg h, fun _ => ⟨gd, rfl, HD3.out⟩⟩)
 clear HT s1 s2 HD3 HB3 HXB3 HL3 HO1 HFG d41;generalize rd.1.st = st at *;go_wp2_with fail;go_ret;rw [HR2.out];exact FIN.out
theorem Kh {P : Program} {ops : Array Oper} {rest : List Oper} {o : Oper} {a : Act} {w : World} {Q : Exit -> Act -> World -> Prop} (hw : Region.wanted o (yielded ops a.tmps) = true) {v : Value} (hx : (execOp a.eval o).run P w = .ok (.value v) w) (h : wpList P ops Q rest (a.put o.dst v) w) : wpList P ops Q (o :: rest) a w := by
 unfold wpList;rw [if_pos hw];left;unfold Oper.wp;rw [hx];exact h
theorem Ki {x : Xc} (h : x.done = true) (L : Lt) (e : Ev) : oI x L e = (x, L, []) := by unfold oI; rw [if_pos h]
set_option maxHeartbeats 2000000 in
theorem ND (g gl : Nat) (D : Option Nat) (x : Xc) (L : Lt) (e : Ev) (w : World) (h : qy w g gl D x) (hl : oW w gl L) (hip : e.fr.ip.length = 16) (hs : x.d.heard.length + e.data.length <= 8796093022208) (hu : L.us <= 999999990) (hd : L.ds.length <= 17592186044416) (hsn : x.sent <= 1000000) :
  Calls prog 36 #[.pointer (some ⟨g, 0, none⟩), .agg (qm e).toArray] w (rM g gl D (oI x L e) w) := by
 obtain ⟨R, hR⟩ : ∃ R, Hid (oI x L e = R) := eD;rw [hR.out];have hel := sR hip;have HX : Below w.heap.size w (w.alloc (.cells (qm e).toArray 42)) := eC;have E := nj.new w 42 (qm e);have HAT := Lib.hid h;have HLT := Hh hl;obtain ⟨ok, vn, hv, eb, qs, hb, h1, h2⟩ := h;obtain ⟨M, vt, ds0, hbk, hMl, _, _, _, _, _, _, _, c16, _, _, _, _, _, _, c45, _⟩ := hb.cells;have hglt := hbk.lt;have HBK := Hh hbk;have d16 := (hbk.below HX hglt).nf 16 c16;have d45 := (hbk.below HX hglt).nf 45 c45;have C16 := Hh c16;cases hdn : x.done with
 | true => rw [hdn] at d45;have HR2 : Hid (R = (x, L, [])) := Hh (by rw [<- hR.out, Ki hdn]);have FIN := Hh (rM.none (HAT.out.below HX) (HLT.out.below HX) (Fr.below (S := XS g gl D) HX));clear h2 hR hl hb hbk c16 c45 E h1 ok d16;generalize qm e = es at *;go_enter func36, ntmps36;go_wp2_with fail;go_ret;rw [HR2.out];exact FIN.out
 | false =>
 rw [hdn] at d45;obtain ⟨hhv, _⟩ := h2 hdn;obtain ⟨f, hf, CF, CL⟩ : ∃ f, hv = .func (.func f) #[] #[] /\ Hid (∀ V a b, (callFunc f #[a, b]).run prog V = .ok (.enter f #[a, b]) V) /\ Hid (∀ V, Below w.heap.size w V -> Calls prog f #[.pointer (some ⟨g, 0, none⟩), .agg (qm e).toArray] V (rM g gl D R V)) := by
  rw [<- hR.out];unfold Kg at hhv;by_cases hlg : x.lg = 2
  ·rw [if_pos hlg] at hhv;exact ⟨_, hhv, Hh (fun V a b => by kernel_rfl), Hh (fun V hV => BS g gl D x L e V (HAT.out.below hV) (hl.below hV) hdn hlg hip hs hu hd hsn)⟩
  ·rw [if_neg hlg] at hhv;exact ⟨_, hhv, Hh (fun V a b => by kernel_rfl), Hh (fun V hV => Fw g gl D x L e V (HAT.out.below hV) (hl.below hV) hdn hlg hip aA hu hd hsn)⟩
 rw [hf] at d16 C16;have HE := Hh E;have LE : Hid (∀ V, nj V w.heap.size 42 (qm e) -> (Instr.loadAt 42 (.pointer (some ⟨w.heap.size, 0, none⟩))).run prog V = .ok (.agg (qm e).toArray) V) := gM;clear h2 hR hl hb hbk c16 c45 E h1 ok hhv HAT hip hs hel hdn;generalize qm e = es at *;obtain ⟨w1, hw1⟩ : ∃ w1, Hid (w.alloc (.cells es.toArray 42) = w1) := eD;rw [hw1.out] at HX HE;go_enter func36, ntmps36;go_wp2_with (refine nh (.binOp .eql 175 (.tmp 17) (.const .nilFunc) 175) rfl ?_; go_must (refine Kh (v := .bool false) aS (by kernel_rfl) ?_));rw [hw1.out];have hWd : Below w.heap.size w w1.drew := HX.drew;have hS0 : (Instr.loadAt 175 (.pointer (some ⟨g, 16, none⟩))).run prog w1.drew = .ok (.func (.func f) #[] #[]) w1.drew /\ (Instr.loadAt 42 (.pointer (some ⟨w.heap.size, 0, none⟩))).run prog w1.drew = .ok (.agg es.toArray) w1.drew := ⟨nN underlying175 rfl ((HBK.out.below hWd hglt).nf 16 C16.out), LE.out _ HE.out.drew⟩;obtain ⟨hS1, hS2⟩ := hS0;have CC := Hh (CL.out _ hWd);have FW := Hh (Fr.below (S := XS g gl D) hWd);have H1 := Hh hS1;have H2 := Hh hS2;clear hS1 hS2 CL LE HE HBK C16 HX d16 d45 HLT;refine wp_region_held_drew (S := fun _ => True) (by kernel_rfl) trivial (fun hS => ?_);refine nI hS 4 [0,1,2,4] rfl (by kernel_rfl) (fun _ _ _ _ _ h => h) rfl rfl ?_;repeat (refine ⟨_, _, rfl, .inl ⟨rfl, fun W hW => rfl⟩, ?_⟩; simp only [Act.put, nB, nC, nD])
 simp only [pa];refine qM 3 5 (by kernel_rfl) ?_ ?_
 ·
  refine rm 3 (some 23) 175 (.tmp 22) ⟨g, 16, none⟩ rfl rfl rfl rfl (by kernel_rfl) H1.out ?_;refine ⟨trivial, ?_⟩;simp only [Act.put, nB, nC, nD];refine nJ 5 (by kernel_rfl) ?_;refine rm 5 (some 25) 42 (.tmp 3) ⟨w.heap.size, 0, none⟩ rfl rfl rfl rfl (by kernel_rfl) H2.out ?_;refine ⟨trivial, ?_⟩;simp only [Act.put, nB, nC, nD];refine nJ 6 (by kernel_rfl) ?_;refine ot 6 (some 26) f #[.pointer (some ⟨g, 0, none⟩), .agg es.toArray] rfl rfl (by kernel_rfl) dc CC.out ?_;intro e9 w9 hx;have hx := hx.back FW.out;obtain ⟨v, D', rfl, hx2⟩ := hx;have HX2 := Hh hx2;clear hx hx2;refine ⟨_, rfl, trivial, ?_⟩;simp only [Act.put, nB, nC, nD];refine nI hS 1 [7] rfl (by kernel_rfl) (fun _ _ _ _ _ h => h) rfl rfl ?_
  (refine ⟨_, v, rfl, .inl ⟨rfl, fun V hV => rfl⟩, ?_⟩; simp only [Act.put, nB, nC, nD])
  simp only [pa];refine wpAnyH_done (by kernel_rfl) ?_ _;go_wp2_with fail;go_ret;exact mI
 ·
  refine rm 5 (some 25) 42 (.tmp 3) ⟨w.heap.size, 0, none⟩ rfl rfl rfl rfl (by kernel_rfl) H2.out ?_;refine ⟨trivial, ?_⟩;simp only [Act.put, nB, nC, nD];refine nJ 3 (by kernel_rfl) ?_;refine rm 3 (some 23) 175 (.tmp 22) ⟨g, 16, none⟩ rfl rfl rfl rfl (by kernel_rfl) H1.out ?_;refine ⟨trivial, ?_⟩;simp only [Act.put, nB, nC, nD];refine nJ 6 (by kernel_rfl) ?_;refine ot 6 (some 26) f #[.pointer (some ⟨g, 0, none⟩), .agg es.toArray] rfl rfl (by kernel_rfl) dc CC.out ?_;intro e9 w9 hx;have hx := hx.back FW.out;obtain ⟨v, D', rfl, hx2⟩ := hx;have HX2 := Hh hx2;clear hx hx2;refine ⟨_, rfl, trivial, ?_⟩;simp only [Act.put, nB, nC, nD];refine nI hS 1 [7] rfl (by kernel_rfl) (fun _ _ _ _ _ h => h) rfl rfl ?_
  (refine ⟨_, v, rfl, .inl ⟨rfl, fun V hV => rfl⟩, ?_⟩; simp only [Act.put, nB, nC, nD])
  simp only [pa];refine wpAnyH_done (by kernel_rfl) ?_ _;go_wp2_with fail;go_ret;exact mI
def Ud (vd : Int) (m : oh) (w : World) (e : Ending) (w' : World) : Prop := ∃ ds, e = .returned (.agg (Value.int .i64 vd :: ds).toArray) /\ nL w' ds m /\ Below w.heap.size w w'
theorem IA (g gl : Nat) (D : Option Nat) (x : Xc) (w : World) (h : qy w g gl D x) : Calls prog 40 #[.pointer (some ⟨g, 0, none⟩)] w (Ud x.vd x.msg w) := by
 obtain ⟨ok, vn, hv, eb, qs, hb, -, -⟩ := h;obtain ⟨M, vt, ds, hbk, hMl, _, _, _, _, _, _, _, _, _, _, _, _, _, _, _, c46, _, hM⟩ := hb.cells;have hdl := hM.len;have hO1 : ∀ v ∈ (Value.int .i64 x.vd :: ds : List Value), v.oneCell' = true := by exact kA
 have hl15 : (Value.int .i64 x.vd :: ds : List Value).length = 15 := gT;have HM := Hh hM;have hglt := hbk.lt;clear hb ok hM;generalize x.msg = m at *;generalize x.vd = vd at *;obtain ⟨O, hO⟩ : ∃ O, Hid (Value.int .i64 vd :: ds = O) := eD;rw [hO.out] at c46 hO1 hl15;have HX : Below w.heap.size w (w.alloc (.cells (Value.int .i64 0 :: nR).toArray 92)) := eC;have BZ := nj.new w 92 (Value.int .i64 0 :: nR);have zl0 : (Value.int .i64 0 :: nR : List Value).length = 15 := iw;have BX := hbk.below HX hglt;go_enter func40, ntmps40;go_wp2_with (first
  | (refine nh (.load 92 (.tmp 8)) rfl ?_; go_must (refine ni rfl _ _ rfl g 46 rfl BX 15 ak _ underlying92 rfl qx O c46 ?_))
  | (refine nh (.store 92 (.tmp 2) (.tmp 9)) rfl (ab rfl w.heap.size 0 O BZ (by rw [hl15, zl0]; decide) dd hO1 ?_)))
 intro w2 B2 g2 sw;clear sw;replace B2 := oH (L := O) B2 cH;have H2 := ng HX g2 HX.size (Nat.le_refl _);have FIN : Hid (Ud vd m w (.returned (.agg O.toArray)) w2) := Hh ⟨ds, by rw [hO.out], HM.out.below H2, H2⟩;clear BX BZ HX g2 H2 hO HM c46;go_wp2_with fail;refine oP rfl w.heap.size rfl B2 _ underlying92 rfl dd rfl ?_;exact FIN.out
end Go.Proofs.YthnbcmlnpdabhaaGreat

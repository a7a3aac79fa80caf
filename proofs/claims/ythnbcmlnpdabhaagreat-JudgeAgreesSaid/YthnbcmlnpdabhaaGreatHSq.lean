/-
  Layer 13 (rdata): has, an SOA; has of any record.
-/
import Derived.Test.YthnbcmlnpdabhaaGreatHRq
namespace Go.Proofs.YthnbcmlnpdabhaaGreat
open _root_.Go.Proofs.Tryz
open Go.RowKit
set_option maxRecDepth 100000
set_option linter.unusedVariables false
set_option linter.unusedSimpArgs false
set_option maxHeartbeats 4000000 in
theorem VK (vn : Value) (At Am : Option Addr) (ct cm : Nat) (r : RR) (hr : r.wf) (hn : vn.oneCell' = true) (w : World) (hT : rQ w At ct r.tg) (hM : rQ w Am cm r.ml) (hk : nX r.ty r.cl = 6) :
  Calls prog 235 #[.agg (pO vn (.slice At r.tg.length ct) (.slice Am r.ml.length cm) r).toArray] w (nM (.tuple #[.agg (pO vn nA nA { r with tg := [], ml := [], nums := [0, 0, 0, 0, 0] }).toArray, .int .i64 (if rS [r.tg, r.ml] ≠ 0 then rS [r.tg, r.ml] else if r.nums.all (uc 4294967295) then 0 else 4)]) w) := by
 obtain ⟨vt, hvt⟩ : ∃ v, v = Value.slice At r.tg.length ct := eE;have ht : vt.oneCell' = true := jA;obtain ⟨vm, hvm⟩ : ∃ v, v = Value.slice Am r.ml.length cm := eE;have hm : vm.oneCell' = true := by rw [hvm]; rfl
 rw [<- hvt, <- hvm];have HVT := Hh hvt;have HVM := Hh hvm;clear hvt hvm;have hl := pn (vn := vn) (vt := vt) (vm := vm) hr;have L1? := Dt (vn := vn) (vt := vt) (vm := vm) (r := r);have L2? := Du (vn := vn) (vt := vt) (vm := vm) (r := r);have L22 := uV (vn := vn) (vt := vt) (vm := vm) hr;have L23 := zU (vn := vn) (vt := vt) (vm := vm) hr;have LN := Hh (xO (vn := vn) (vt := vt) (vm := vm) hr);have LZ : Hid (((pO vn vt vm r).set 22 nA).set 23 nA = pO vn nA nA r) := Hh (by rw [yw hr, Mk hr]);have LS := Hh (GD (vn := vn) (vt := nA) (vm := nA) hr [0, 0, 0, 0, 0] rfl);change Hid (_ = pO vn nA nA { r with tg := [], ml := [], nums := [0, 0, 0, 0, 0] }) at LS;have Lzl := pn (vn := vn) (vt := nA) (vm := nA) hr;have L1c := Hh (qg (r := r) hn ht hm);have L4c := Hh (qg (vt := nA) (vm := nA) (r := { r with tg := [], ml := [], nums := [0, 0, 0, 0, 0] }) hn rfl rfl);have L4l := pn (vn := vn) (vt := nA) (vm := nA) (r := { r with tg := [], ml := [], nums := [0, 0, 0, 0, 0] }) ⟨hr.1, rfl⟩;have K := Hh (fun w => oN r.ty r.cl w);rw [hk] at K;have AN := Hh (fun w A h => xh A 2 [r.tg, r.ml] w h ag);have WI := Hh (fun w A h => uf 4294967295 A 5 r.nums w h (by rw [hr.2]; decide));have hn5 := hr.2;generalize pO vn nA nA { r with tg := [], ml := [], nums := [0, 0, 0, 0, 0] } = L4 at *;generalize pO vn nA nA r = Lz at *;generalize pO vn vt vm r = L at *;generalize rS [r.tg, r.ml] = e at *;generalize hB3 : r.nums.all (uc 4294967295) = b3 at *;clear hB3;generalize r.nums = nums at *;generalize r.ty = ty at *;generalize r.cl = cl at *;clear hk;generalize hres : (if e ≠ 0 then e else if b3 = true then 0 else 4) = res;have hres' := Hh hres;clear hres;have B0 := nj.new w 119 L;go_enter func235, ntmps235;go_wp2_with (first
  | (refine nh (.load 119 (.tmp 1)) rfl ?_; go_must (refine ni rfl _ _ rfl w.heap.size 0 rfl (nj.alloc (nj.new w 119 L) _) 33 ak _ underlying119 rfl oG L (qj ak) ?_))
  | (refine nh (.store 119 (.tmp 4) (.tmp 6)) rfl (ab rfl (w.heap.size + 1 + 1) 0 L (nj.ph _ _ pr _ ag) aQ aR L1c.out ?_)))
 intro w3 hb3 hg3 hs3;have B1 : nj w3 w.heap.size 119 L := fi;have B2 : nj w3 (w.heap.size + 1) 119 pr := eY;have B4 : nj w3 (w.heap.size + 1 + 1) 119 L := eQ;have HB : Below w.heap.size w w3 := eK;clear hb3 hg3 B0;have u1 := B1.nf 1 L1?;have u2 := B1.nf 2 L2?;clear L1? L2?;go_wp2_with fail;refine (K.out _).mono ?_;rintro _ w4 ⟨rfl, rfl⟩;clear K u1 u2;have u22 := B4.nf 22 L22;have u23 := B4.nf 23 L23;have f22 := B4.frozen 22;have f23 := B4.frozen 23;have B4s := WB (B4.set 22 nA) LZ.out;go_wp2_with (refine nh (.store 117 (.tmp 63) (.tmp 60)) rfl (ab rfl (w.heap.size + 1 + 1) 27 (n7 [0, 0, 0, 0, 0]) B4s (by rw [Lzl]; decide) pN (by intro v hv; obtain ⟨b, _, rfl⟩ := List.mem_map.1 hv; rfl) ?_));intro w5 hb5 hg5 hs5;have hne : w.heap.size ≠ w.heap.size + 1 + 1 := ak;have hne2 : w.heap.size + 1 ≠ w.heap.size + 1 + 1 := ak;have B1s := ((B1.sF (p := ⟨w.heap.size + 1 + 1, 22, none⟩) hne nA).sF (p := ⟨w.heap.size + 1 + 1, 23, none⟩) hne nA).grown hg5 (by simpa using hne);have B2s := ((B2.sF (p := ⟨w.heap.size + 1 + 1, 22, none⟩) hne2 nA).sF (p := ⟨w.heap.size + 1 + 1, 23, none⟩) hne2 nA).grown hg5 ag;have HB0 := ((HB.setCell (p := ⟨w.heap.size + 1 + 1, 22, none⟩) al nA).setCell (p := ⟨w.heap.size + 1 + 1, 23, none⟩) al nA);have HBs := ng HB0 hg5 HB0.size ak;have B4z : nj w5 (w.heap.size + 1 + 1) 119 L4 := by rw [<- LS.out, List.append_assoc]; exact hb5
 clear B1 B2 B4 HB f22 f23 B4s HB0 hg5 hb5 LS LZ hs3 Lzl;have v22 := B1s.nf 22 L22;have v23 := B1s.nf 23 L23;clear L22 L23;have e1 := HVT.out;have e2 := HVM.out;clear HVT HVM;subst e1;subst e2;go_wp2_with fail;refine (AN.out _ _ (yu.Wz (hT.below HBs) (hM.below HBs) _ hs5.symm 26)).mono ?_;rintro _ w8 ⟨rfl, rfl⟩;clear AN v22 v23;have B1 := B1s.alloc (.cells #[.slice At r.tg.length ct, .slice Am r.ml.length cm] 26);have B2 := B2s.alloc (.cells #[.slice At r.tg.length ct, .slice Am r.ml.length cm] 26);have B4 := B4z.alloc (.cells #[.slice At r.tg.length ct, .slice Am r.ml.length cm] 26);have HB := HBs.alloc HBs.size (.cells #[.slice At r.tg.length ct, .slice Am r.ml.length cm] 26);have hs4 : (w5.alloc (.cells #[.slice At r.tg.length ct, .slice Am r.ml.length cm] 26)).heap.size = w.heap.size + 1 + 1 + 1 + 1 := by simpa using hs5
 generalize w5.alloc (.cells #[.slice At r.tg.length ct, .slice Am r.ml.length cm] 26) = w4 at *;clear B1s B2s B4z HBs hs5;by_cases he : e = 0
 ·
  subst he;have hr0 := hres'.out;rw [if_neg ag] at hr0;have HW := WI.out w4 _ (xN.at B1 27 (by rw [hn5]; exact LN.out));rw [hn5] at HW;clear WI hres';go_wp2_with fail;refine HW.mono ?_;rintro _ w8 ⟨rfl, rfl⟩;clear HW;cases b3 with
  | true =>
   have hr1 : (0 : Int) = res := by simpa using hr0
   subst hr1;clear hr0;go_wp2_with (first
    | (refine nh (.load 119 (.tmp 4)) rfl ?_; go_must (refine ni rfl _ _ rfl (w.heap.size + 1 + 1) 0 rfl B4 33 ak _ underlying119 rfl oG L4 (qj ak) ?_))
    | (refine nh (.store 119 (.tmp 2) (.tmp 79)) rfl (ab rfl (w.heap.size + 1) 0 L4 B2 aQ aT L4c.out ?_)))
   exact jM
  | false =>
   have hr1 : (4 : Int) = res := by simpa using hr0
   subst hr1;clear hr0;go_wp2_with (first
    | (refine nh (.load 119 (.tmp 4)) rfl ?_; go_must (refine ni rfl _ _ rfl (w.heap.size + 1 + 1) 0 rfl B4 33 ak _ underlying119 rfl oG L4 (qj ak) ?_))
    | (refine nh (.store 119 (.tmp 2) (.tmp 78)) rfl (ab rfl (w.heap.size + 1) 0 L4 B2 aQ aT L4c.out ?_)))
   exact jM
 ·
  have hr1 : e = res := by rw [<- hres'.out, if_pos he]
  subst hr1;have he' : (e != 0) = true := fD;clear hres' WI he;go_wp2_with (first
   | (refine nh (.load 119 (.tmp 4)) rfl ?_; go_must (refine ni rfl _ _ rfl (w.heap.size + 1 + 1) 0 rfl B4 33 ak _ underlying119 rfl oG L4 (qj ak) ?_))
   | (refine nh (.store 119 (.tmp 2) (.tmp 72)) rfl (ab rfl (w.heap.size + 1) 0 L4 B2 aQ aT L4c.out ?_)))
  exact jM
def UD (r : RR) (w : World) : Ending -> World -> Prop := fun e w' => ∃ cs, e = .returned (.tuple #[.agg cs.toArray, .int .i64 (tG r)]) /\ sH w' cs (tp r) /\ Below w.heap.size w w'
theorem rQ.nil (w : World) : rQ w none 0 [] := ⟨fun h => absurd h ag, ag, ag, ag⟩
theorem vK (ty cl : Int) : nX ty cl = 1 \/ nX ty cl = 28 \/ (nX ty cl = 5 \/ nX ty cl = 12) \/ nX ty cl = 33 \/ nX ty cl = 6 \/ nX ty cl = 0 := by
 unfold nX;by_cases h : cl = 1 /\ (ty = 1 \/ ty = 28 \/ ty = 5 \/ ty = 12 \/ ty = 33 \/ ty = 6)
 ·rw [if_pos h]; obtain ⟨_, h | h | h | h | h | h⟩ := h <;> simp [h]
 ·rw [if_neg h]; simp
theorem Sh (cs : List Value) (r : RR) (w : World) (h : sH w cs r) : Calls prog 235 #[.agg cs.toArray] w (UD r w) := by
 obtain ⟨An, cn, At, ct, Am, cm, rfl, hr, hN, hT, hM, hraw⟩ := h;rcases vK r.ty r.cl with hk | hk | hk | hk | hk | hk
 ·refine (VF _ _ _ r hr rfl rfl rfl w hk).mono ?_;rintro _ w' ⟨rfl, hB⟩;refine ⟨_, by rw [tG, if_pos hk]; rfl, ?_, hB⟩;rw [tp, if_pos (.inl hk)];exact lW
 ·refine (UA _ _ _ r hr rfl rfl rfl w hk).mono ?_;rintro _ w' ⟨rfl, hB⟩;refine ⟨_, by rw [tG, if_neg ak, if_pos hk]; rfl, ?_, hB⟩;rw [tp, if_pos (.inr hk)];exact lW
 ·refine (VI _ _ At ct r hr rfl rfl w hT hk).mono ?_;rintro _ w' ⟨rfl, hB⟩;refine ⟨_, by rw [tG, if_neg ak, if_neg ak, if_pos hk], ?_, hB⟩;rw [tp, if_neg ak, if_pos hk];exact mn
 ·refine (UB _ _ At ct r hr rfl rfl w hT hk).mono ?_;rintro _ w' ⟨rfl, hB⟩;have e : (if [r.pri, r.we, r.po].all (uc 65535) = true then nH r.tg else 4) = tG r := fN;refine ⟨_, by rw [e], ?_, hB⟩;rw [tp, if_neg ak, if_neg ak, if_pos hk];exact mn
 ·
  refine (VK _ At Am ct cm r hr rfl w hT hM hk).mono ?_;rintro _ w' ⟨rfl, hB⟩;have e : (if rS [r.tg, r.ml] ≠ 0 then rS [r.tg, r.ml] else if r.nums.all (uc 4294967295) = true then 0 else 4) = tG r := by
   have e0 : tG r = (if nH r.tg ≠ 0 then nH r.tg else if nH r.ml ≠ 0 then nH r.ml else if r.nums.all (uc 4294967295) then 0 else 4) := fN;rw [e0];simp only [rS];by_cases h1 : nH r.tg = 0
   ·by_cases h2 : nH r.ml = 0 <;> simp [h1, h2]
   ·simp [h1]
  refine ⟨_, by rw [e], ?_, hB⟩;rw [tp, if_neg ak, if_neg ak, if_neg ak, if_pos hk];exact ⟨An, cn, none, 0, none, 0, rfl, ⟨hr.1, rfl⟩, hN.below hB, rQ.nil _, rQ.nil _, hraw⟩
 ·refine (VJ _ _ _ r hr rfl rfl rfl w hraw hk).mono ?_;rintro _ w' ⟨rfl, hB⟩;have e : (if 65535 < r.raw.length then (3 : Int) else 0) = tG r := fN;refine ⟨_, by rw [e], ?_, hB⟩;rw [tp, if_neg ak, if_neg ak, if_neg ak, if_neg ak];exact ⟨An, cn, At, ct, Am, cm, rfl, hr, hN.below hB, hT.below hB, hM.below hB, ag⟩
theorem OU (a : oi) (ha : a.ip.length = 16) (w : World) : (Op.equalIn 10000 24 (.agg a.cells.toArray) (.agg #[.int .i64 0, .int .u8 0, .int .u8 0, .int .u8 0, .int .u8 0, .int .u8 0, .int .u8 0, .int .u8 0, .int .u8 0, .int .u8 0, .int .u8 0, .int .u8 0, .int .u8 0, .int .u8 0, .int .u8 0, .int .u8 0, .int .u8 0, .int .i64 0])).run prog w = .ok (decide (a = oi.zero)) w :=
 zj a oi.zero ha rfl w
theorem OX (l : List Int) (hl : l.length = 5) (w : World) : (Op.equalIn 10000 117 (.agg (n7 l).toArray) (.agg #[.int .i64 0, .int .i64 0, .int .i64 0, .int .i64 0, .int .i64 0])).run prog w = .ok (l == [0, 0, 0, 0, 0]) w :=
 rz w 9998 117 3 5 .i64 underlying117 underlying3 Gk l [0, 0, 0, 0, 0] hl rfl
theorem EG (n : Int) : (n != 0) = !decide (n = 0) := by by_cases h : n = 0 <;> simp [h]
theorem ox {P : Program} {ops : Array Oper} {rest : List Oper} {op : Oper} {a : Act} {w : World} {Q : Exit -> Act -> World -> Prop} (hw : Region.wanted op (yielded ops a.tmps) = true) (ty : TypeId) (x : Operand) (ho : op.op = .load ty x)
  (g o : Nat) (hx : a.eval x = .pointer (some ⟨g, o, none⟩)) {t : TypeId} {L : List Value} (hb : nj w g t L) (n : Nat) (hn : o + n <= L.length) (d : TypeDesc)
  (hu : P.underlying ty = some d) (hd : d.isRow = true) (hi : (P.info? ty).map (·.size) = some n) (sub : List Value) (hsub : (L.drop o).take n = sub)
  (h : wpList P ops Q rest (a.put op.dst (.agg sub.toArray)) w) : wpList P ops Q (op :: rest) a w := by
 have hl : sub.length = n := ic;refine wpList_step fun K hK => ?_
 rw [if_pos hw];exact wp_load_mid ty x ho g o hx sub d (hsub ▸ hb.range o n hn) hu hd ar (hK _ _ h)
set_option maxHeartbeats 4000000 in
theorem qN (cs : List Value) (r : RR) (w : World) (h : sH w cs r) : Calls prog 205 #[.agg cs.toArray] w (nM (.int .i64 (nU r)) w) := by
 have hh := h;obtain ⟨An, cn, At, ct, Am, cm, hcs, hr, hN, hT, hM, hraw⟩ := h;have hl : cs.length = 33 := ig;have L0 : cs[0]? = some (.slice An r.name.length cn) := aZ;have L1 : cs[1]? = some (.int .i64 r.ty) := aZ;have L2 : cs[2]? = some (.int .i64 r.cl) := aZ;have L3 : cs[3]? = some (.int .i64 r.ttl) := aZ;clear hcs;have hB0 : Below w.heap.size w (w.alloc (.cells cs.toArray 119)) := eC;have hb := nj.new w 119 cs;have HH := Hh (fun w' (b : Below w.heap.size w w') => Sh cs r w' (hh.below b));have CN := Hh (fun w' (b : Below w.heap.size w w') => rP An cn r.name w' (hN.below b).1 aU);have W1 := Hh (fun w A h => uf 65535 A 2 [r.ty, r.cl] w h ag);have W2 := Hh (fun w A h => uf 4294967295 A 1 [r.ttl] w h ag);have HE : Hid (nU r = _) := Hh (by unfold nU; rfl);generalize nU r = res at *;generalize r.ty = ty at *;generalize r.cl = cl at *;generalize r.ttl = ttl at *;generalize nH r.name = e0 at *;generalize [ty, cl].all (uc 65535) = b1 at *;have w2e : [ttl].all (uc 4294967295) = uc 4294967295 ttl := ag;rw [w2e] at W2;clear w2e;generalize uc 4294967295 ttl = b2 at *;have u0 := hb.nf 0 L0;have u1 := hb.nf 1 L1;have u2 := hb.nf 2 L2;have u3 := hb.nf 3 L3;clear L0 L1 L2 hN hT hM hraw;go_enter func205, ntmps205;go_wp2_with fail;refine (CN.out _ hB0).mono ?_;rintro _ w1 ⟨rfl, rfl⟩;clear CN;by_cases h0 : e0 = 0
 case neg => have hr0 := HE.out;rw [if_pos h0] at hr0;subst hr0;have h0' : (res != 0) = true := iC;clear HE h0;go_wp2_with fail;go_ret;exact nM.mk rfl hB0
 subst h0;have HE1 := Hh (HE.out.trans (if_neg ag));clear HE;generalize hw1 : w.alloc (.cells cs.toArray 119) = w1 at *;have hs1 : w1.heap.size = w.heap.size + 1 := by rw [<- hw1]; simp
 clear hw1;go_wp2_with fail;refine (W1.out _ _ (xN.new [ty, cl] _ hs1.symm 3)).mono ?_;rintro _ w2 ⟨rfl, rfl⟩;clear W1;have hB1 := hB0.alloc hB0.size (.cells (n7 [ty, cl]).toArray 3);have hb1 := hb.alloc (.cells (n7 [ty, cl]).toArray 3);have hs2 : (w1.alloc (.cells (n7 [ty, cl]).toArray 3)).heap.size = w.heap.size + 1 + 1 := by simp [hs1]
 generalize w1.alloc (.cells (n7 [ty, cl]).toArray 3) = w2 at *;clear hB0 hb hs1;cases b1 with
 | false => have hr0 := HE1.out;rw [if_pos (.inl ag)] at hr0;subst hr0;clear HE1;go_wp2_with fail;go_ret;exact nM.mk rfl hB1
 | true =>
 have u3 := hb1.nf 3 L3;clear L3;go_wp2_with fail;refine (W2.out _ _ (xN.new [ttl] _ hs2.symm 3)).mono ?_;rintro _ w3 ⟨rfl, rfl⟩;clear W2;have hB2 := hB1.alloc hB1.size (.cells (n7 [ttl]).toArray 3);have hb2 := hb1.alloc (.cells (n7 [ttl]).toArray 3);have hs3 : (w2.alloc (.cells (n7 [ttl]).toArray 3)).heap.size = w.heap.size + 1 + 1 + 1 := by simp [hs2]
 generalize w2.alloc (.cells (n7 [ttl]).toArray 3) = w3 at *;clear hB1 hb1 hs2 u3;cases b2 with
 | false => have hr0 := HE1.out;rw [if_pos (.inr ag)] at hr0;subst hr0;clear HE1;go_wp2_with fail;go_ret;exact nM.mk rfl hB2
 | true =>
 have HE2 := Hh (HE1.out.trans (if_neg ag));clear HE1;go_wp2_with (refine nh (.load 119 (.tmp 1)) rfl ?_; go_must (refine ni rfl _ _ rfl w.heap.size 0 rfl hb2 33 ak _ underlying119 rfl oG cs (qj ak) ?_));go_wp2_with fail;refine (HH.out _ hB2).mono ?_;rintro _ w4 ⟨cs4, rfl, hR4, hB4'⟩;have hB4 := nc hB2 hB2.size hB4';clear HH hB4' hb2 hB2 hs3 hl hh;obtain ⟨An4, cn4, At4, ct4, Am4, cm4, hcs4, hr4, hN4, hT4, hM4, hraw4⟩ := hR4;generalize tp r = r4 at *;have hl4 : cs4.length = 33 := by rw [hcs4]; exact pn hr4
 have M22 : cs4[22]? = some (.slice At4 r4.tg.length ct4) := by rw [hcs4]; exact uV hr4
 have M23 : cs4[23]? = some (.slice Am4 r4.ml.length cm4) := by rw [hcs4]; exact zU hr4
 have M24 : cs4[24]? = some (.int .i64 r4.pri) := by rw [hcs4]; exact zV hr4
 have M25 : cs4[25]? = some (.int .i64 r4.we) := by rw [hcs4]; exact zW hr4
 have M26 : cs4[26]? = some (.int .i64 r4.po) := by rw [hcs4]; exact zX hr4
 have M32 : cs4[32]? = some (.string (bs r4.raw)) := by rw [hcs4]; exact zY hr4
 have LA : Hid ((cs4.drop 4).take 18 = r4.ad.cells) := Hh (by rw [hcs4]; exact yv hr4);have LN : Hid ((cs4.drop 27).take 5 = n7 r4.nums) := Hh (by rw [hcs4]; exact xO hr4);have L1c : Hid (∀ v ∈ cs4, v.oneCell' = true) := Hh (by rw [hcs4]; exact qg rfl rfl rfl);clear hcs4;have EA := OU r4.ad hr4.1;have EN := OX r4.nums hr4.2;have tb := hT4.2.2.1;have mb := hM4.2.2.1;clear hN4 hT4 hM4;have HE3 : Hid (res = if tG r ≠ 0 then tG r else if zZ r4 then 0 else 5) := HE2;clear HE2;generalize tG r = e1 at *;go_wp2_with (refine nh (.store 119 (.tmp 4) (.tmp 29)) rfl (ab rfl w4.heap.size 0 cs4 (nj.ph _ _ pr _ ag) aQ (by rw [hl4]; exact oG) L1c.out ?_));intro w5 hb5 hg5 hs5;rw [List.drop_of_length_le aQ, List.append_nil] at hb5;have B4 := hb5;have hB5 : Below w.heap.size w w5 := ng (hB4.alloc hB4.size _) hg5 (by have := hB4.size; simp; omega) hB4.size;clear hb5 hg5 hB4 L1c hr hs5;by_cases h1 : e1 = 0
 case neg => have hr0 := HE3.out;rw [if_pos h1] at hr0;subst hr0;have h0' : (res != 0) = true := gO;clear HE3 h1 EA EN M22 M23 M24 M25 M26 M32;go_wp2_with fail;exact kU
 subst h1;have HE4 := HE3.out.trans (if_neg ag);clear HE3;have c22 := B4.nf 22 M22;have c23 := B4.nf 23 M23;have c24 := B4.nf 24 M24;have c25 := B4.nf 25 M25;have c26 := B4.nf 26 M26;have c32 := B4.nf 32 M32;clear M22 M23 M24 M25 M26 M32;have q1 : decide (r4.tg = []) = true ↔ r4.tg.length = 0 := ag;have q2 : decide (r4.ml = []) = true ↔ r4.ml.length = 0 := ag;have q3 := EG r4.pri;have q4 := EG r4.we;have q5 := EG r4.po;have q6 : (r4.nums == [0, 0, 0, 0, 0]) = decide (r4.nums = [0, 0, 0, 0, 0]) := by by_cases h : r4.nums = [0, 0, 0, 0, 0] <;> simp [h]
 have q7 : decide (r4.raw = []) = true ↔ r4.raw = [] := ag;rw [q6] at EN;clear q6;unfold zZ at HE4;generalize decide (r4.ad = oi.zero) = bA at *;generalize decide (r4.tg = []) = bT at *;generalize decide (r4.ml = []) = bM at *;generalize decide (r4.pri = 0) = bP at *;generalize decide (r4.we = 0) = bW at *;generalize decide (r4.po = 0) = bO at *;generalize decide (r4.nums = [0, 0, 0, 0, 0]) = bN at *;generalize decide (r4.raw = []) = bR at *;generalize r4.ad.cells = LAd at *;generalize n7 r4.nums = LNs at *;generalize r4.pri = pri at *;generalize r4.we = we at *;generalize r4.po = po at *;generalize r4.tg.length = n1 at *;generalize r4.ml.length = n2 at *;generalize r4.raw = raw at *;have HE5 := Hh HE4;clear HE4 hr4;cases bA with
 | false =>
  have hr0 : res = 5 := fh;subst hr0;clear HE5 q1 q2 q3 q4 q5 q7;go_wp2_with (first
   | (refine nh (.load 24 (.tmp 34)) rfl ?_; go_must (refine ni rfl _ _ rfl w4.heap.size 4 rfl B4 18 ak _ underlying24 rfl pt LAd LA.out ?_))
   | (refine nh (.load 117 (.tmp 66)) rfl ?_; refine ox (by kernel_rfl) 117 (.tmp 66) rfl w4.heap.size 27 rfl B4 5 ak _ underlying117 rfl pN LNs LN.out ?_))
  exact kU
 | true =>
 cases bT with
 | false =>
  have hr0 : res = 5 := fh;subst hr0;have p1 : 0 < n1 := by simp at q1; omega
  have p2 : (0 : Int) < n1 := ak;clear HE5 q1 q2 q3 q4 q5 q7;go_wp2_with (first
   | (refine nh (.load 24 (.tmp 34)) rfl ?_; go_must (refine ni rfl _ _ rfl w4.heap.size 4 rfl B4 18 ak _ underlying24 rfl pt LAd LA.out ?_))
   | (refine nh (.load 117 (.tmp 66)) rfl ?_; refine ox (by kernel_rfl) 117 (.tmp 66) rfl w4.heap.size 27 rfl B4 5 ak _ underlying117 rfl pN LNs LN.out ?_))
  exact kU
 | true =>
 obtain rfl := q1.1 rfl;clear q1;cases bM with
 | false =>
  have hr0 : res = 5 := fh;subst hr0;have p1 : 0 < n2 := by simp at q2; omega
  have p2 : (0 : Int) < n2 := ak;clear HE5 q2 q3 q4 q5 q7;go_wp2_with (first
   | (refine nh (.load 24 (.tmp 34)) rfl ?_; go_must (refine ni rfl _ _ rfl w4.heap.size 4 rfl B4 18 ak _ underlying24 rfl pt LAd LA.out ?_))
   | (refine nh (.load 117 (.tmp 66)) rfl ?_; refine ox (by kernel_rfl) 117 (.tmp 66) rfl w4.heap.size 27 rfl B4 5 ak _ underlying117 rfl pN LNs LN.out ?_))
  exact kU
 | true =>
 obtain rfl := q2.1 rfl;clear q2;cases bP with
 | false =>
  have hr0 : res = 5 := fh;subst hr0;simp only [Bool.not_false] at q3;clear HE5 q4 q5 q7;go_wp2_with (first
   | (refine nh (.load 24 (.tmp 34)) rfl ?_; go_must (refine ni rfl _ _ rfl w4.heap.size 4 rfl B4 18 ak _ underlying24 rfl pt LAd LA.out ?_))
   | (refine nh (.load 117 (.tmp 66)) rfl ?_; refine ox (by kernel_rfl) 117 (.tmp 66) rfl w4.heap.size 27 rfl B4 5 ak _ underlying117 rfl pN LNs LN.out ?_))
  exact kU
 | true =>
 cases bW with
 | false =>
  have hr0 : res = 5 := fh;subst hr0;simp only [Bool.not_false, Bool.not_true] at q3 q4;clear HE5 q5 q7;go_wp2_with (first
   | (refine nh (.load 24 (.tmp 34)) rfl ?_; go_must (refine ni rfl _ _ rfl w4.heap.size 4 rfl B4 18 ak _ underlying24 rfl pt LAd LA.out ?_))
   | (refine nh (.load 117 (.tmp 66)) rfl ?_; refine ox (by kernel_rfl) 117 (.tmp 66) rfl w4.heap.size 27 rfl B4 5 ak _ underlying117 rfl pN LNs LN.out ?_))
  exact kU
 | true =>
 cases bO with
 | false =>
  have hr0 : res = 5 := fh;subst hr0;simp only [Bool.not_false, Bool.not_true] at q3 q4 q5;clear HE5 q7;go_wp2_with (first
   | (refine nh (.load 24 (.tmp 34)) rfl ?_; go_must (refine ni rfl _ _ rfl w4.heap.size 4 rfl B4 18 ak _ underlying24 rfl pt LAd LA.out ?_))
   | (refine nh (.load 117 (.tmp 66)) rfl ?_; refine ox (by kernel_rfl) 117 (.tmp 66) rfl w4.heap.size 27 rfl B4 5 ak _ underlying117 rfl pN LNs LN.out ?_))
  exact kU
 | true =>
 cases bN with
 | false =>
  have hr0 : res = 5 := fh;subst hr0;simp only [Bool.not_true] at q3 q4 q5;clear HE5 q7;go_wp2_with (first
   | (refine nh (.load 24 (.tmp 34)) rfl ?_; go_must (refine ni rfl _ _ rfl w4.heap.size 4 rfl B4 18 ak _ underlying24 rfl pt LAd LA.out ?_))
   | (refine nh (.load 117 (.tmp 66)) rfl ?_; refine ox (by kernel_rfl) 117 (.tmp 66) rfl w4.heap.size 27 rfl B4 5 ak _ underlying117 rfl pN LNs LN.out ?_))
  exact kU
 | true =>
 cases bR with
 | false =>
  have hr0 : res = 5 := fh;subst hr0;simp only [Bool.not_true] at q3 q4 q5;have p1 : raw ≠ [] := by simpa using q7
  have p2 : raw.isEmpty = false := by simpa using p1
  clear HE5 q7;go_wp2_with (first
   | (refine nh (.load 24 (.tmp 34)) rfl ?_; go_must (refine ni rfl _ _ rfl w4.heap.size 4 rfl B4 18 ak _ underlying24 rfl pt LAd LA.out ?_))
   | (refine nh (.load 117 (.tmp 66)) rfl ?_; refine ox (by kernel_rfl) 117 (.tmp 66) rfl w4.heap.size 27 rfl B4 5 ak _ underlying117 rfl pN LNs LN.out ?_))
  exact kU
 | true =>
  have hr0 : res = 0 := fh;subst hr0;simp only [Bool.not_true] at q3 q4 q5;obtain rfl := q7.1 rfl;clear HE5 q7;go_wp2_with (first
   | (refine nh (.load 24 (.tmp 34)) rfl ?_; go_must (refine ni rfl _ _ rfl w4.heap.size 4 rfl B4 18 ak _ underlying24 rfl pt LAd LA.out ?_))
   | (refine nh (.load 117 (.tmp 66)) rfl ?_; refine ox (by kernel_rfl) 117 (.tmp 66) rfl w4.heap.size 27 rfl B4 5 ak _ underlying117 rfl pN LNs LN.out ?_))
  exact kU
abbrev uE := List (List (List UInt8) × Nat)
def uW (lo : Nat) (w : World) (p : Option Addr) : Option uE -> Prop
 | none => p = none
 | some T => ∃ g b, p = some ⟨g, 0, none⟩ /\ lo <= g /\ lo <= b /\ tD w g b T
def og (T : Option uE) (at_ : Int) (n : List (List UInt8)) : List UInt8 := match T with
 | none => rR n
 | some T => Cz T at_ n
def o8 (T : Option uE) (at_ : Int) (n : List (List UInt8)) : Option uE := T.map fun T => EB T at_ n
def sj (T : Option uE) (k : Nat) : Prop := ∀ T', T = some T' -> T'.length <= k
theorem sj.put {T : Option uE} {k : Nat} (h : sj T k) (at_ : Int) (n : List (List UInt8)) : sj (o8 T at_ n) (k + 254) := by
 intro T' hT';cases T with
 | none => cases hT'
 | some T =>
  obtain rfl : EB T at_ n = T' := by simpa [o8] using hT'
  have := h T rfl; have := GB T at_ n; omega
theorem uW.below {lo : Nat} {w w' : World} {p : Option Addr} {T : Option uE} (h : uW lo w p T) (hb : Below w.heap.size w w') : uW lo w' p T := by
 cases T with
 | none => exact h
 | some T => obtain ⟨g, b, h1, h2, h3, h4⟩ := h; exact ⟨g, b, h1, h2, h3, h4.below hb⟩
def sC (lo : Nat) (w w' : World) : Prop := Below lo w w' /\ ∀ (g : Nat) (t : TypeId) (cs : Array Value) (fz : Nat × Nat), w.heap[g]? = some (.cells cs t fz) -> w'.heap[g]? = some (.cells cs t fz)
theorem sC.oL {lo : Nat} {w w' : World} (h : sC lo w w') {g : Nat} {t : TypeId} {cs : List Value} (hb : nj w g t cs) : nj w' g t cs := h.2 g t cs.toArray (0, 0) hb
theorem sC.trans {lo : Nat} {w w1 w2 : World} (h : sC lo w w1) (h' : sC lo w1 w2) : sC lo w w2 := ⟨h.1.trans h'.1, fun g t cs fz hb => h'.2 g t cs fz (h.2 g t cs fz hb)⟩
theorem EI {w : World} {g : Nat} {o : Obj} (h : w.heap[g]? = some o) : g < w.heap.size := (Array.getElem?_eq_some_iff.1 h).1
theorem sC.xK {lo : Nat} {w w1 : World} (h : Below w.heap.size w w1) (hlo : lo <= w.heap.size) : sC lo w w1 := ⟨h.mono hlo, fun g t cs fz hb => (h.block g (EI hb)).trans hb⟩
def OY (lo : Nat) (p : Option Addr) (s : List UInt8) (e : Int) (T : Option uE) (w : World) (x : Ending) (w' : World) : Prop :=
 x = .returned (.tuple #[.string (bs s), .int .i64 e]) /\ uW lo w' p T /\ sC lo w w'
theorem xQ (lo : Nat) (p : Option Addr) (T : Option uE) (A : Option Addr) (c : Nat) (n : List (List UInt8)) (at_ : Int) (w : World) (hlo : lo <= w.heap.size) (hT : uW lo w p T) (hA : rQ w A c n) (hf : sj T 900000) :
  Calls prog 236 #[.pointer p, .slice A n.length c, .int .i64 at_] w (OY lo p (og T at_ n) (nH n) (o8 T at_ n) w) := by
 cases T with
 | none => obtain rfl : p = none := hT;refine (zT A c n at_ w hA).mono ?_;rintro _ w' ⟨rfl, hB⟩;exact ⟨rfl, rfl, sC.xK hB hlo⟩
 | some T =>
  obtain ⟨g, b, rfl, h2, h3, h4⟩ := hT;refine (Jl g b T A c n at_ w h4 hA (hf T rfl)).mono ?_;rintro _ w' ⟨rfl, h5, h6⟩;have hne : ∀ (k : Nat) (t : TypeId) (cs : Array Value) (fz : Nat × Nat), w.heap[k]? = some (.cells cs t fz) -> some k ≠ some b := by obtain ⟨_, ⟨f, ⟨D, ⟨es, cl, hm, _⟩, _⟩, _⟩, _⟩ := h4;intro k t cs fz hb he;obtain rfl := Option.some.inj he;rw [hb] at hm; cases hm
  exact ⟨rfl, ⟨g, b, rfl, h2, h3, h5⟩, ng (Below.refl _ _) h6 hlo h3, fun k t cs fz hb => (h6.block k (EI hb) (hne k t cs fz hb)).trans hb⟩
def sk (T : Option uE) (at_ : Int) (r : RR) : List UInt8 :=
 if nX r.ty r.cl = 1 then r.ad.ip.take 4
 else if nX r.ty r.cl = 28 then r.ad.ip
 else if nX r.ty r.cl = 5 \/ nX r.ty r.cl = 12 then og T at_ r.tg
 else if nX r.ty r.cl = 33 then ny 2 r.pri ++ ny 2 r.we ++ ny 2 r.po ++ rR r.tg
 else if nX r.ty r.cl = 6 then og T at_ r.tg ++ og (o8 T at_ r.tg) (at_ + (og T at_ r.tg).length) r.ml ++ r.nums.flatMap (ny 4)
 else r.raw
def wW (T : Option uE) (at_ : Int) (r : RR) : Option uE :=
 if nX r.ty r.cl = 5 \/ nX r.ty r.cl = 12 then o8 T at_ r.tg
 else if nX r.ty r.cl = 6 then o8 (o8 T at_ r.tg) (at_ + (og T at_ r.tg).length) r.ml
 else T
theorem zq {r : RR} (h : nU r = 0) : nH r.name = 0 /\ tG r = 0 := by
 unfold nU at h;by_cases h1 : nH r.name = 0
 ·
  refine ⟨h1, ?_⟩;rw [if_neg (by simp [h1])] at h;split at h
  ·omega
  ·
   by_cases h2 : tG r = 0
   ·exact h2
   ·rw [if_pos h2] at h; exact h
 ·exact mP
theorem OZ (cs : List Value) (r : RR) (at_ : Int) (p : Option Addr) (w : World) (h : sH w cs r) (hc : nU r ≠ 0) :
  Calls prog 210 #[.agg cs.toArray, .int .i64 at_, .pointer p] w (nM (.tuple #[.string (bs []), .int .i64 (nU r)]) w) := by
 have CK := Hh (fun w' (b : Below w.heap.size w w') => qN cs r w' (h.below b));have hl : cs.length = 33 := eR;generalize nU r = e at *;have he : (e != 0) = true := gN;clear hc h;have B0 := nj.new w 119 cs;have HB0 : Below w.heap.size w (w.alloc (.cells cs.toArray 119)) := eC;go_enter func210, ntmps210;go_wp2_with (refine nh (.load 119 (.tmp 3)) rfl ?_; go_must (refine ni rfl _ _ rfl w.heap.size 0 rfl B0 33 ak _ underlying119 rfl oG cs (qj ak) ?_));go_wp2_with fail;refine (CK.out _ HB0).mono ?_;rintro _ w2 ⟨rfl, b2⟩;have B := B0.below b2 B0.lt;have HB := nc HB0 HB0.size b2;clear B0 HB0 b2 CK;exact lO
set_option maxHeartbeats 1000000 in
theorem O0 (cs : List Value) (r : RR) (at_ : Int) (p : Option Addr) (w : World) (h : sH w cs r) (hc : nU r = 0) (hk : nX r.ty r.cl = 0) :
  Calls prog 210 #[.agg cs.toArray, .int .i64 at_, .pointer p] w (nM (.tuple #[.string (bs r.raw), .int .i64 0]) w) := by
 have CK := Hh (fun w' (b : Below w.heap.size w w') => qN cs r w' (h.below b));have hl : cs.length = 33 := eR;have L1 : cs[1]? = some (.int .i64 r.ty) := eJ;have L2 : cs[2]? = some (.int .i64 r.cl) := eJ;have L32 : cs[32]? = some (.string (bs r.raw)) := by obtain ⟨_, _, _, _, _, _, rfl, hr, _⟩ := h; exact zY hr
 have K := Hh (fun w => oN r.ty r.cl w);rw [hk] at K;rw [hc] at CK;clear h hc hk;generalize r.ty = ty at *;generalize r.cl = cl at *;have B0 := nj.new w 119 cs;have HB0 : Below w.heap.size w (w.alloc (.cells cs.toArray 119)) := eC;go_enter func210, ntmps210;go_wp2_with (refine nh (.load 119 (.tmp 3)) rfl ?_; go_must (refine ni rfl _ _ rfl w.heap.size 0 rfl B0 33 ak _ underlying119 rfl oG cs (qj ak) ?_));go_wp2_with fail;refine (CK.out _ HB0).mono ?_;rintro _ w2 ⟨rfl, b2⟩;have B := B0.below b2 B0.lt;have HB := nc HB0 HB0.size b2;clear B0 HB0 b2 CK;have u1 := B.nf 1 L1;have u2 := B.nf 2 L2;go_wp2_with fail;refine (K.out _).mono ?_;rintro _ w3 ⟨rfl, rfl⟩;have u32 := B.nf 32 L32;clear K u1 u2 L1 L2 L32;exact lO
set_option maxHeartbeats 1000000 in
theorem Mn (lo : Nat) (cs : List Value) (r : RR) (at_ : Int) (p : Option Addr) (T : Option uE) (w : World) (h : sH w cs r) (hlo : lo <= w.heap.size) (hT : uW lo w p T) (hf : sj T 900000) (hc : nU r = 0) (hk : nX r.ty r.cl = 5 \/ nX r.ty r.cl = 12) :
  Calls prog 210 #[.agg cs.toArray, .int .i64 at_, .pointer p] w (OY lo p (og T at_ r.tg) (nH r.tg) (o8 T at_ r.tg) w) := by
 have CK := Hh (fun w' (b : Below w.heap.size w w') => qN cs r w' (h.below b));have hl : cs.length = 33 := eR;have L1 : cs[1]? = some (.int .i64 r.ty) := eJ;have L2 : cs[2]? = some (.int .i64 r.cl) := eJ;obtain ⟨At, ct, L22, hR⟩ : ∃ At ct, cs[22]? = some (.slice At r.tg.length ct) /\ rQ w At ct r.tg := by exact mc
 have K := Hh (fun w => oN r.ty r.cl w);rw [hc] at CK;clear h hc;have PT := Hh (fun w' (b : Below w.heap.size w w') => xQ lo p T At ct r.tg at_ w' (Nat.le_trans hlo b.size) (hT.below b) (hR.below b) hf);generalize og T at_ r.tg = s at *;generalize o8 T at_ r.tg = T' at *;generalize nH r.tg = e at *;generalize r.tg.length = n at *;generalize nX r.ty r.cl = k at *;generalize r.ty = ty at *;generalize r.cl = cl at *;clear hT hf hR;rcases hk with rfl | rfl;all_goals
  have B0 := nj.new w 119 cs;have HB0 : Below w.heap.size w (w.alloc (.cells cs.toArray 119)) := eC;go_enter func210, ntmps210;go_wp2_with (refine nh (.load 119 (.tmp 3)) rfl ?_; go_must (refine ni rfl _ _ rfl w.heap.size 0 rfl B0 33 ak _ underlying119 rfl oG cs (qj ak) ?_));go_wp2_with fail;refine (CK.out _ HB0).mono ?_;rintro _ w2 ⟨rfl, b2⟩;have B := B0.below b2 B0.lt;have HB := nc HB0 HB0.size b2;clear B0 HB0 b2 CK;have u1 := B.nf 1 L1;have u2 := B.nf 2 L2;go_wp2_with fail;refine (K.out _).mono ?_;rintro _ w3 ⟨rfl, rfl⟩;have u22 := B.nf 22 L22;clear K u1 u2 L1 L2 L22;go_wp2_with fail;refine (PT.out _ HB).mono ?_;rintro _ w3 ⟨rfl, hT3, hB3⟩;go_wp2_with fail;go_ret2;exact ⟨rfl, hT3, (sC.xK HB hlo).trans hB3⟩
theorem UE {vn vt vm : Value} {r : RR} (h : r.wf) (j : Nat) (hj : j < r.ad.ip.length) : (pO vn vt vm r)[5 + j]? = some (.int .u8 (r.ad.ip[j].toNat : Int)) := by
 have h16 := h.1;have e : ((pO vn vt vm r).drop 4).take 18 = r.ad.cells := yv h;have e1 : (((pO vn vt vm r).drop 4).take 18)[1 + j]? = (pO vn vt vm r)[5 + j]? := by rw [List.getElem?_take_of_lt ak, List.getElem?_drop]; congr 1; omega
 rw [<- e1, e, oi.cells, Nat.add_comm 1 j, List.getElem?_cons_succ, List.getElem?_append_left (by rw [oK]; exact hj), uB _ _ hj]
theorem KC {w : World} {g o : Nat} {t : TypeId} {L : List Value} (h : nj w g t L) (q : List UInt8) (cap : Nat) (hq : ∀ j (hj : j < q.length), L[o + j]? = some (.int .u8 (q[j].toNat : Int))) :
  (convert 145 9 (.slice (some ⟨g, o, none⟩) q.length cap)).run prog w = .ok (.string (bs q)) w :=
 run_convert_bytes_back w 145 9 5 ⟨g, o, none⟩ cap q underlying145 underlying5 underlying9 fun j hj => by
  have h1 := h.nf (o + j) (hq j hj);cases j with
  | zero => exact h1
  | succ j => exact h1
set_option maxHeartbeats 1000000 in
theorem Dw (cs : List Value) (r : RR) (at_ : Int) (p : Option Addr) (w : World) (h : sH w cs r) (hc : nU r = 0) (hk : nX r.ty r.cl = 1 \/ nX r.ty r.cl = 28) :
  Calls prog 210 #[.agg cs.toArray, .int .i64 at_, .pointer p] w (nM (.tuple #[.string (bs (if nX r.ty r.cl = 1 then r.ad.ip.take 4 else r.ad.ip)), .int .i64 0]) w) := by
 have CK := Hh (fun w' (b : Below w.heap.size w w') => qN cs r w' (h.below b));have hl : cs.length = 33 := eR;have L1 : cs[1]? = some (.int .i64 r.ty) := eJ;have L2 : cs[2]? = some (.int .i64 r.cl) := eJ;have h16 : r.ad.ip.length = 16 := by obtain ⟨_, _, _, _, _, _, rfl, hr, _⟩ := h; exact hr.1
 have LI : Hid (∀ j (hj : j < r.ad.ip.length), cs[5 + j]? = some (.int .u8 (r.ad.ip[j].toNat : Int))) := Hh (by obtain ⟨_, _, _, _, _, _, rfl, hr, _⟩ := h; exact fun j hj => UE hr j hj);have K := Hh (fun w => oN r.ty r.cl w);rw [hc] at CK;clear h hc;generalize nX r.ty r.cl = k at *;generalize r.ad.ip = ip at *;generalize r.ty = ty at *;generalize r.cl = cl at *;rcases hk with rfl | rfl
 ·
  rw [if_pos rfl];have h4 : (ip.take 4).length = 4 := by simp [h16]
  have B0 := nj.new w 119 cs;have HB0 : Below w.heap.size w (w.alloc (.cells cs.toArray 119)) := eC;go_enter func210, ntmps210;go_wp2_with (refine nh (.load 119 (.tmp 3)) rfl ?_; go_must (refine ni rfl _ _ rfl w.heap.size 0 rfl B0 33 ak _ underlying119 rfl oG cs (qj ak) ?_));go_wp2_with fail;refine (CK.out _ HB0).mono ?_;rintro _ w2 ⟨rfl, b2⟩;have B := B0.below b2 B0.lt;have HB := nc HB0 HB0.size b2;clear B0 HB0 b2 CK;have u1 := B.nf 1 L1;have u2 := B.nf 2 L2;go_wp2_with fail;refine (K.out _).mono ?_;rintro _ w3 ⟨rfl, rfl⟩;have CV := KC (o := 5) B (ip.take 4) 16 (fun j hj => by rw [LI.out j ak]; simp);rw [h4] at CV;generalize ip.take 4 = q at *;clear K u1 u2 L1 L2 LI h16;exact lO
 ·rw [if_neg aj];have B0 := nj.new w 119 cs;have HB0 : Below w.heap.size w (w.alloc (.cells cs.toArray 119)) := eC;go_enter func210, ntmps210;go_wp2_with (refine nh (.load 119 (.tmp 3)) rfl ?_; go_must (refine ni rfl _ _ rfl w.heap.size 0 rfl B0 33 ak _ underlying119 rfl oG cs (qj ak) ?_));go_wp2_with fail;refine (CK.out _ HB0).mono ?_;rintro _ w2 ⟨rfl, b2⟩;have B := B0.below b2 B0.lt;have HB := nc HB0 HB0.size b2;clear B0 HB0 b2 CK;have u1 := B.nf 1 L1;have u2 := B.nf 2 L2;go_wp2_with fail;refine (K.out _).mono ?_;rintro _ w3 ⟨rfl, rfl⟩;have CV := KC (o := 5) B ip 16 (fun j hj => LI.out j hj);rw [h16] at CV;clear K u1 u2 L1 L2 LI;exact lO
theorem Ad (n : Int) (w : World) : Calls prog 117 #[.int .i64 2, .int .i64 n] w (nM (.string (bs (ny 2 n))) w) := pg 2 n w
theorem vL (n : Int) (w : World) : Calls prog 117 #[.int .i64 4, .int .i64 n] w (nM (.string (bs (ny 4 n))) w) := pg 4 n w
set_option maxHeartbeats 2000000 in
theorem O8 (cs : List Value) (r : RR) (at_ : Int) (p : Option Addr) (w : World) (h : sH w cs r) (hc : nU r = 0) (hk : nX r.ty r.cl = 33) :
  Calls prog 210 #[.agg cs.toArray, .int .i64 at_, .pointer p] w (nM (.tuple #[.string (bs (ny 2 r.pri ++ ny 2 r.we ++ ny 2 r.po ++ rR r.tg)), .int .i64 (nH r.tg)]) w) := by
 have CK := Hh (fun w' (b : Below w.heap.size w w') => qN cs r w' (h.below b));have hl : cs.length = 33 := eR;have L1 : cs[1]? = some (.int .i64 r.ty) := eJ;have L2 : cs[2]? = some (.int .i64 r.cl) := eJ;obtain ⟨At, ct, L22, hR⟩ : ∃ At ct, cs[22]? = some (.slice At r.tg.length ct) /\ rQ w At ct r.tg := by exact mc
 have L24 : cs[24]? = some (.int .i64 r.pri) := by obtain ⟨_, _, _, _, _, _, rfl, hr, _⟩ := h; exact zV hr
 have L25 : cs[25]? = some (.int .i64 r.we) := by obtain ⟨_, _, _, _, _, _, rfl, hr, _⟩ := h; exact zW hr
 have L26 : cs[26]? = some (.int .i64 r.po) := by obtain ⟨_, _, _, _, _, _, rfl, hr, _⟩ := h; exact zX hr
 have K := Hh (fun w => oN r.ty r.cl w);have hz : (rR r.tg).length <= 255 := by
  unfold rR Gp;split
  ·
   next h0 => have := (qB h0).2; simp [pb]; omega
  ·simp
 rw [hc] at CK;rw [hk] at K;clear h hc hk;have PT := Hh (fun w' (b : Below w.heap.size w w') => zT At ct r.tg at_ w' (hR.below b));generalize rR r.tg = z at *;generalize nH r.tg = e at *;generalize r.tg.length = n at *;generalize r.ty = ty at *;generalize r.cl = cl at *;clear hR;have P1 := Hh (fun w => Ad r.pri w);have P2 := Hh (fun w => Ad r.we w);have P3 := Hh (fun w => Ad r.po w);have l1 := np 2 r.pri;have l2 := np 2 r.we;have l3 := np 2 r.po;generalize ny 2 r.pri = s1 at *;generalize ny 2 r.we = s2 at *;generalize ny 2 r.po = s3 at *;generalize r.pri = pri at *;generalize r.we = we at *;generalize r.po = po at *;have B0 := nj.new w 119 cs;have HB0 : Below w.heap.size w (w.alloc (.cells cs.toArray 119)) := eC;go_enter func210, ntmps210;go_wp2_with (refine nh (.load 119 (.tmp 3)) rfl ?_; go_must (refine ni rfl _ _ rfl w.heap.size 0 rfl B0 33 ak _ underlying119 rfl oG cs (qj ak) ?_));go_wp2_with fail;refine (CK.out _ HB0).mono ?_;rintro _ w2 ⟨rfl, b2⟩;have B := B0.below b2 B0.lt;have HB := nc HB0 HB0.size b2;clear B0 HB0 b2 CK;have u1 := B.nf 1 L1;have u2 := B.nf 2 L2;go_wp2_with fail;refine (K.out _).mono ?_;rintro _ w3 ⟨rfl, rfl⟩;have u22 := B.nf 22 L22;clear K u1 u2 L1 L2 L22;go_wp2_with fail;refine (PT.out _ HB).mono ?_;rintro _ w3 ⟨rfl, hB3⟩;have B3 := B.below hB3 B.lt;have HB3 := nc HB HB.size hB3;clear B HB hB3 PT;go_wp2_with fail;refine rH (by kernel_rfl) (by kernel_rfl) ?_
 (refine nS (v := (.pointer (some ⟨w.heap.size, 24, none⟩))) rfl (fun W hW => by first | (go_simp; done) | (go_simp; omega)) ?_; simp only [Act.put, nB, nC, nD])
 refine pI 3 (.tmp 54) rfl ⟨w.heap.size, 24, none⟩ rfl rfl (fun W hW => nN underlying3 rfl ((B3.below hW B3.lt).nf 24 L24)) ?_;simp only [Act.put, nB, nC, nD];refine rA 117 #[.int .i64 2, .int .i64 pri] rfl (fun W => by go_simp) (fun W hW => nM.xK hW (P1.out W)) ?_;simp only [Act.put, nB, nC, nD]
 (refine nS (v := (.pointer (some ⟨w.heap.size, 25, none⟩))) rfl (fun W hW => by first | (go_simp; done) | (go_simp; omega)) ?_; simp only [Act.put, nB, nC, nD])
 refine pI 3 (.tmp 57) rfl ⟨w.heap.size, 25, none⟩ rfl rfl (fun W hW => nN underlying3 rfl ((B3.below hW B3.lt).nf 25 L25)) ?_;simp only [Act.put, nB, nC, nD];refine rA 117 #[.int .i64 2, .int .i64 we] rfl (fun W => by go_simp) (fun W hW => nM.xK hW (P2.out W)) ?_;simp only [Act.put, nB, nC, nD]
 (refine nS (v := (.string (bs (s1 ++ s2)))) rfl (fun W hW => by first | (go_simp; done) | (go_simp; omega)) ?_; simp only [Act.put, nB, nC, nD])
 (refine nS (v := (.pointer (some ⟨w.heap.size, 26, none⟩))) rfl (fun W hW => by first | (go_simp; done) | (go_simp; omega)) ?_; simp only [Act.put, nB, nC, nD])
 refine pI 3 (.tmp 61) rfl ⟨w.heap.size, 26, none⟩ rfl rfl (fun W hW => nN underlying3 rfl ((B3.below hW B3.lt).nf 26 L26)) ?_;simp only [Act.put, nB, nC, nD];refine rA 117 #[.int .i64 2, .int .i64 po] rfl (fun W => by go_simp) (fun W hW => nM.xK hW (P3.out W)) ?_;simp only [Act.put, nB, nC, nD]
 (refine nS (v := (.string (bs (s1 ++ s2 ++ s3)))) rfl (fun W hW => by first | (go_simp; done) | (go_simp; omega)) ?_; simp only [Act.put, nB, nC, nD])
 (refine nS (v := (.string (bs z))) rfl (fun W hW => by first | (go_simp; done) | (go_simp; omega)) ?_; simp only [Act.put, nB, nC, nD])
 (refine nS (v := (.string (bs (s1 ++ s2 ++ s3 ++ z)))) rfl (fun W hW => by first | (go_simp; done) | (go_simp; omega)) ?_; simp only [Act.put, nB, nC, nD])
 (refine nS (v := (.int .i64 e)) rfl (fun W hW => by first | (go_simp; done) | (go_simp; omega)) ?_; simp only [Act.put, nB, nC, nD])
 (refine nS (v := (.string (bs (s1 ++ s2 ++ s3 ++ z)))) rfl (fun W hW => by first | (go_simp; done) | (go_simp; omega)) ?_; simp only [Act.put, nB, nC, nD])
 (refine nS (v := (.int .i64 e)) rfl (fun W hW => by first | (go_simp; done) | (go_simp; omega)) ?_; simp only [Act.put, nB, nC, nD])
 refine wpQuiet_nil ?_;intro w4 hB4;have HB4 := nc HB3 HB3.size hB4;clear B3 HB3 hB4;go_wp2_with fail;go_ret2;exact nM.mk rfl HB4
theorem KE (T : uE) (at_ : Int) : ∀ (n : List (List UInt8)) (pre : List UInt8), (wY T at_ pre n).1.length <= pre.length + oC n + 2
 | [], pre => by simp [wY, oC]
 | l :: n, pre => by
  cases h : look T (l :: n) with
  | some q => rw [xF h]; simp [np]
  | none => rw [zG h];have ih := KE T at_ n (pre ++ r7 l);rw [List.length_append, vD] at ih;simp only [oC];omega
theorem qD (T : Option uE) (at_ : Int) (n : List (List UInt8)) : (og T at_ n).length <= 300 := by
 cases T with
 | none =>
  unfold og rR Gp;dsimp only;split
  ·
   next h => have := (qB h).2; simp [pb]; omega
  ·simp
 | some T =>
  unfold og Cz;dsimp only;split
  ·
   next h => have := (qB h).2; have := KE T at_ n []; simp at this; omega
  ·simp
set_option maxHeartbeats 2000000 in
theorem Jp (lo : Nat) (cs : List Value) (r : RR) (at_ : Int) (p : Option Addr) (T : Option uE) (w0 w : World) (h : sH w0 cs r) (h0 : w0.heap.size <= lo) (hb0 : Below w0.heap.size w0 w) (hlo : lo <= w.heap.size) (hT : uW lo w p T) (hf : sj T 800000) (ha0 : 0 <= at_) (ha1 : at_ <= 9000000) (ht : nH r.tg = 0) (hm : nH r.ml = 0) :
  Calls prog 238 #[.agg cs.toArray, .int .i64 at_, .pointer p] w (OY lo p (og T at_ r.tg ++ og (o8 T at_ r.tg) (at_ + (og T at_ r.tg).length) r.ml ++ r.nums.flatMap (ny 4)) 0 (o8 (o8 T at_ r.tg) (at_ + (og T at_ r.tg).length) r.ml) w) := by
 obtain ⟨An, cn, At, ct, Am, cm, hcs, hr, hN, hTg, hMl, hraw⟩ := h;have hl : cs.length = 33 := ig;have L22 : cs[22]? = some (.slice At r.tg.length ct) := by rw [hcs]; exact uV hr
 have L23 : cs[23]? = some (.slice Am r.ml.length cm) := by rw [hcs]; exact zU hr
 have LN : Hid ((cs.drop 27).take 5 = n7 r.nums) := Hh aV;have hn5 := hr.2;clear hcs hN hraw hr;have s1l := qD T at_ r.tg;have s2l := qD (o8 T at_ r.tg) (at_ + (og T at_ r.tg).length) r.ml;have P1 := Hh (fun w' (b : Below w.heap.size w w') => xQ lo p T At ct r.tg at_ w' (Nat.le_trans hlo b.size) (hT.below b) ((hTg.below hb0).below b) (fun T' h => Nat.le_trans (hf T' h) ak));have P2 := Hh (fun w' (b : Below lo w w') (hlo' : lo <= w'.heap.size) (hT' : uW lo w' p (o8 T at_ r.tg)) => xQ lo p (o8 T at_ r.tg) Am cm r.ml (at_ + (og T at_ r.tg).length) w' hlo' hT' (hMl.below (hb0.trans (b.mono h0))) (fun T' h => Nat.le_trans ((hf.put at_ r.tg) T' h) ak));rw [ht] at P1;rw [hm] at P2;have hB0 : Below w.heap.size w (w.alloc (.cells cs.toArray 119)) := eC;have hb := nj.new w 119 cs;have u22 := hb.nf 22 L22;clear hT hf hTg hMl L22 ht hm hb0;generalize o8 (o8 T at_ r.tg) (at_ + (og T at_ r.tg).length) r.ml = T2 at *;generalize og (o8 T at_ r.tg) (at_ + (og T at_ r.tg).length) r.ml = s2 at *;generalize og T at_ r.tg = s1 at *;generalize o8 T at_ r.tg = T1 at *;generalize r.tg.length = ntg at *;generalize r.ml.length = nml at *;generalize r.nums = nums at *;obtain ⟨out, hout⟩ : ∃ out, out = s1 ++ s2 ++ nums.flatMap (ny 4) := eE;rw [<- hout];have HO := Hh hout;clear hout;go_enter func238, ntmps238;go_wp2_with fail;refine (P1.out _ hB0).mono ?_;rintro _ w2 ⟨rfl, hT2, hB2⟩;have B2 := hB2.oL hb;have HB2 : sC lo w w2 := (sC.xK hB0 hlo).trans hB2;have hlo2 : lo <= w2.heap.size := Nat.le_trans hlo HB2.1.size;have u23 := B2.nf 23 L23;clear P1 u22 hB2 hb hB0 L23;go_wp2_with fail;refine (P2.out _ HB2.1 hlo2 hT2).mono ?_;rintro _ w3 ⟨rfl, hT3, hB3⟩;have B3 := hB3.oL B2;have HB3 : sC lo w w3 := HB2.trans hB3;have hlo3 : lo <= w3.heap.size := Nat.le_trans hlo HB3.1.size;clear P2 u23 hB3 hT2 B2 HB2 hlo2;obtain ⟨n0, n1, n2, n3, n4, rfl⟩ : ∃ n0 n1 n2 n3 n4, nums = [n0, n1, n2, n3, n4] := by
  match nums, hn5 with
  | [a, b, c, d, e], _ => exact ⟨a, b, c, d, e, rfl⟩
 clear hn5;have HLN := LN.out;clear LN;have l0 := np 4 n0;have l1 := np 4 n1;have l2 := np 4 n2;have l3 := np 4 n3;have l4 := np 4 n4;have Q0 := Hh (fun w => vL n0 w);have Q1 := Hh (fun w => vL n1 w);have Q2 := Hh (fun w => vL n2 w);have Q3 := Hh (fun w => vL n3 w);have Q4 := Hh (fun w => vL n4 w);have HO : Hid (out = s1 ++ s2 ++ (ny 4 n0 ++ (ny 4 n1 ++ (ny 4 n2 ++ (ny 4 n3 ++ ny 4 n4))))) := Hh (by rw [HO.out]; simp);generalize ny 4 n0 = q0 at *;generalize ny 4 n1 = q1 at *;generalize ny 4 n2 = q2 at *;generalize ny 4 n3 = q3 at *;generalize ny 4 n4 = q4 at *;have HL := Hh HLN;clear HLN;go_wp2_with (refine nh (.load 117 (.tmp 42)) rfl ?_; go_must (refine ni rfl _ _ rfl w.heap.size 27 rfl B3 5 ak _ underlying117 rfl pN [.int .i64 n0, .int .i64 n1, .int .i64 n2, .int .i64 n3, .int .i64 n4] HL.out ?_));clear HL B3;have I0 : ∀ w : World, (Instr.index 117 (.agg #[.int .i64 n0, .int .i64 n1, .int .i64 n2, .int .i64 n3, .int .i64 n4]) (.int .i64 0)).run prog w = .ok (.int .i64 n0) w := fun _ => by kernel_rfl
 have I1 : ∀ w : World, (Instr.index 117 (.agg #[.int .i64 n0, .int .i64 n1, .int .i64 n2, .int .i64 n3, .int .i64 n4]) (.int .i64 1)).run prog w = .ok (.int .i64 n1) w := fun _ => by kernel_rfl
 have I2 : ∀ w : World, (Instr.index 117 (.agg #[.int .i64 n0, .int .i64 n1, .int .i64 n2, .int .i64 n3, .int .i64 n4]) (.int .i64 2)).run prog w = .ok (.int .i64 n2) w := fun _ => by kernel_rfl
 have I3 : ∀ w : World, (Instr.index 117 (.agg #[.int .i64 n0, .int .i64 n1, .int .i64 n2, .int .i64 n3, .int .i64 n4]) (.int .i64 3)).run prog w = .ok (.int .i64 n3) w := fun _ => by kernel_rfl
 have I4 : ∀ w : World, (Instr.index 117 (.agg #[.int .i64 n0, .int .i64 n1, .int .i64 n2, .int .i64 n3, .int .i64 n4]) (.int .i64 4)).run prog w = .ok (.int .i64 n4) w := fun _ => by kernel_rfl
 refine wp_loop_rounds 6 ?_;rw [rounds_succ];go_wp2_with fail;refine (Q0.out _).mono ?_;rintro _ w4 ⟨rfl, b4⟩;have HB4 : sC lo w w4 := HB3.trans (sC.xK b4 hlo3);have hT4 := hT3.below b4;have hlo4 : lo <= w4.heap.size := Nat.le_trans hlo HB4.1.size;clear Q0 I0 HB3 hT3 b4 hlo3;go_wp2_with fail;rw [rounds_succ];go_wp2_with fail;refine (Q1.out _).mono ?_;rintro _ w5 ⟨rfl, b5⟩;have HB5 : sC lo w w5 := HB4.trans (sC.xK b5 hlo4);have hT5 := hT4.below b5;have hlo5 : lo <= w5.heap.size := Nat.le_trans hlo HB5.1.size;clear Q1 I1 HB4 hT4 b5 hlo4;go_wp2_with fail;rw [rounds_succ];go_wp2_with fail;refine (Q2.out _).mono ?_;rintro _ w6 ⟨rfl, b6⟩;have HB6 : sC lo w w6 := HB5.trans (sC.xK b6 hlo5);have hT6 := hT5.below b6;have hlo6 : lo <= w6.heap.size := Nat.le_trans hlo HB6.1.size;clear Q2 I2 HB5 hT5 b6 hlo5;go_wp2_with fail;rw [rounds_succ];go_wp2_with fail;refine (Q3.out _).mono ?_;rintro _ w7 ⟨rfl, b7⟩;have HB7 : sC lo w w7 := HB6.trans (sC.xK b7 hlo6);have hT7 := hT6.below b7;have hlo7 : lo <= w7.heap.size := Nat.le_trans hlo HB7.1.size;clear Q3 I3 HB6 hT6 b7 hlo6;go_wp2_with fail;rw [rounds_succ];go_wp2_with fail;refine (Q4.out _).mono ?_;rintro _ w8 ⟨rfl, b8⟩;have HB8 : sC lo w w8 := HB7.trans (sC.xK b8 hlo7);have hT8 := hT7.below b8;have hlo8 : lo <= w8.heap.size := Nat.le_trans hlo HB8.1.size;clear Q4 I4 HB7 hT7 b8 hlo7;go_wp2_with fail;rw [rounds_succ];go_wp2_with fail;go_ret2;exact ⟨OR (by rw [HO.out]; simp), hT8, HB8⟩
set_option maxHeartbeats 1000000 in
theorem Pa (lo : Nat) (cs : List Value) (r : RR) (at_ : Int) (p : Option Addr) (T : Option uE) (w0 w : World) (h : sH w0 cs r) (h0 : w0.heap.size <= lo) (hb0 : Below w0.heap.size w0 w) (hlo : lo <= w.heap.size) (hT : uW lo w p T) (hf : sj T 800000) (ha0 : 0 <= at_) (ha1 : at_ <= 9000000) (hc : nU r = 0) (hk : nX r.ty r.cl = 6) :
  Calls prog 210 #[.agg cs.toArray, .int .i64 at_, .pointer p] w (OY lo p (og T at_ r.tg ++ og (o8 T at_ r.tg) (at_ + (og T at_ r.tg).length) r.ml ++ r.nums.flatMap (ny 4)) 0 (o8 (o8 T at_ r.tg) (at_ + (og T at_ r.tg).length) r.ml) w) := by
 have hE := (zq hc).2;have hE6 : tG r = (if nH r.tg ≠ 0 then nH r.tg else if nH r.ml ≠ 0 then nH r.ml else if r.nums.all (uc 4294967295) then 0 else 4) := fN;rw [hE6] at hE;have ht : nH r.tg = 0 := by
  by_cases h1 : nH r.tg = 0
  ·exact h1
  ·rw [if_pos h1] at hE; exact hE
 have hm : nH r.ml = 0 := by
  rw [if_neg (by simp [ht])] at hE;by_cases h1 : nH r.ml = 0
  ·exact h1
  ·rw [if_pos h1] at hE; exact hE
 have hw := h.below hb0;have CK := Hh (fun w' (b : Below w.heap.size w w') => qN cs r w' (hw.below b));have hl : cs.length = 33 := eR;have L1 : cs[1]? = some (.int .i64 r.ty) := eJ;have L2 : cs[2]? = some (.int .i64 r.cl) := eJ;have K := Hh (fun w => oN r.ty r.cl w);rw [hc] at CK;rw [hk] at K;have PT := Hh (fun w' (b : Below w.heap.size w w') => Jp lo cs r at_ p T w0 w' h h0 (nc hb0 hb0.size b) (Nat.le_trans hlo b.size) (hT.below b) hf ha0 ha1 ht hm);clear h hc hk hE hE6 hT hf ht hm hw hb0;generalize og T at_ r.tg ++ og (o8 T at_ r.tg) (at_ + (og T at_ r.tg).length) r.ml ++ r.nums.flatMap (ny 4) = out at *;generalize o8 (o8 T at_ r.tg) (at_ + (og T at_ r.tg).length) r.ml = T2 at *;generalize r.ty = ty at *;generalize r.cl = cl at *;have B0 := nj.new w 119 cs;have HB0 : Below w.heap.size w (w.alloc (.cells cs.toArray 119)) := eC;go_enter func210, ntmps210;go_wp2_with (refine nh (.load 119 (.tmp 3)) rfl ?_; go_must (refine ni rfl _ _ rfl w.heap.size 0 rfl B0 33 ak _ underlying119 rfl oG cs (qj ak) ?_));go_wp2_with fail;refine (CK.out _ HB0).mono ?_;rintro _ w2 ⟨rfl, b2⟩;have B := B0.below b2 B0.lt;have HB := nc HB0 HB0.size b2;clear B0 HB0 b2 CK;have u1 := B.nf 1 L1;have u2 := B.nf 2 L2;go_wp2_with fail;refine (K.out _).mono ?_;rintro _ w3 ⟨rfl, rfl⟩;clear K u1 u2 L1 L2;go_wp2_with (refine nh (.load 119 (.tmp 3)) rfl ?_; go_must (refine ni rfl _ _ rfl w.heap.size 0 rfl B 33 ak _ underlying119 rfl oG cs (qj ak) ?_));go_wp2_with fail;refine (PT.out _ HB).mono ?_;rintro _ w4 ⟨rfl, hT4, hB4⟩;clear PT;go_wp2_with fail;go_ret2;exact ⟨rfl, hT4, (sC.xK HB hlo).trans hB4⟩
def GF (T : Option uE) (at_ : Int) (r : RR) : List UInt8 := if nU r = 0 then sk T at_ r else []
def GH (T : Option uE) (at_ : Int) (r : RR) : Option uE := if nU r = 0 then wW T at_ r else T
theorem Pb (lo : Nat) (cs : List Value) (r : RR) (at_ : Int) (p : Option Addr) (T : Option uE) (w0 w : World) (h : sH w0 cs r) (h0 : w0.heap.size <= lo) (hb0 : Below w0.heap.size w0 w) (hlo : lo <= w.heap.size) (hT : uW lo w p T) (hf : sj T 800000) (ha0 : 0 <= at_) (ha1 : at_ <= 9000000) :
  Calls prog 210 #[.agg cs.toArray, .int .i64 at_, .pointer p] w (OY lo p (GF T at_ r) (nU r) (GH T at_ r) w) := by
 have hw := h.below hb0;by_cases hc : nU r = 0
 ·
  unfold GF GH;rw [if_pos hc, if_pos hc, hc];have hE := (zq hc).2;rcases vK r.ty r.cl with hk | hk | hk | hk | hk | hk
  ·refine (Dw cs r at_ p w hw hc (.inl hk)).mono ?_;exact kR
  ·refine (Dw cs r at_ p w hw hc (.inr hk)).mono ?_;exact kR
  ·
   have e1 : sk T at_ r = og T at_ r.tg := by unfold sk; rcases hk with hk | hk <;> rw [hk] <;> rfl
   have e2 : wW T at_ r = o8 T at_ r.tg := by unfold wW; rcases hk with hk | hk <;> rw [hk] <;> rfl
   have e3 : nH r.tg = 0 := by rw [<- hE]; unfold tG; rcases hk with hk | hk <;> rw [hk] <;> rfl
   rw [e1, e2];have := Mn lo cs r at_ p T w hw hlo hT (fun T' h => Nat.le_trans (hf T' h) ak) hc hk;rwa [e3] at this
  ·
   refine (O8 cs r at_ p w hw hc hk).mono ?_;rintro _ w' ⟨rfl, hB⟩;have e1 : sk T at_ r = ny 2 r.pri ++ ny 2 r.we ++ ny 2 r.po ++ rR r.tg := fJ;have e2 : wW T at_ r = T := fM;have e3 : nH r.tg = 0 := by
    have e4 : tG r = (if [r.pri, r.we, r.po].all (uc 65535) = true then nH r.tg else 4) := fN;rw [e4] at hE;split at hE
    ·exact hE
    ·cases hE
   rw [e1, e2, e3];exact ly
  ·have e1 : sk T at_ r = og T at_ r.tg ++ og (o8 T at_ r.tg) (at_ + (og T at_ r.tg).length) r.ml ++ r.nums.flatMap (ny 4) := fJ;have e2 : wW T at_ r = o8 (o8 T at_ r.tg) (at_ + (og T at_ r.tg).length) r.ml := fM;rw [e1, e2];exact Pa lo cs r at_ p T w0 w h h0 hb0 hlo hT hf ha0 ha1 hc hk
  ·refine (O0 cs r at_ p w hw hc hk).mono ?_;rintro _ w' ⟨rfl, hB⟩;have e1 : sk T at_ r = r.raw := fJ;have e2 : wW T at_ r = T := fM;rw [e1, e2];exact ly
 ·unfold GF GH;rw [if_neg hc, if_neg hc];refine (OZ cs r at_ p w hw hc).mono ?_;rintro _ w' ⟨rfl, hB⟩;exact ly
end Go.Proofs.YthnbcmlnpdabhaaGreat

/-
  Layer 26 (chain), plain: the records that are a name's, its first link, and what the chain leads to.
-/
import Derived.Test.YthnbcmlnpdabhaaGreatHQq
import Derived.Test.YthnbcmlnpdabhaaGreatIBq
namespace Go.Proofs.YthnbcmlnpdabhaaGreat
open _root_.Go.Proofs.Tryz
open Go.RowKit
set_option linter.unusedVariables false
def JY (n : List (List UInt8)) (k c : Int) (r : RR) : Bool := decide (r.ty = k) && (decide (r.cl = c) && decide (ss r.name = ss n))
def zc (l : List RR) (n : List (List UInt8)) (k c : Int) : List RR := l.filter (JY n k c)
def qW (ty cl : Int) (n : List (List UInt8)) : List RR -> Nat -> Int -> Int
 | [], _, i => i
 | r :: l, k, i => qW ty cl n l (k + 1) (if i < 0 /\ r.ty ≠ ty /\ JY n 5 cl r = true then k else i)
theorem Ee (ty cl : Int) (n : List (List UInt8)) (b : List RR) : ∀ (a : List RR) (k : Nat) (i : Int), qW ty cl n (a ++ b) k i = qW ty cl n b (k + a.length) (qW ty cl n a k i)
 | [], k, i => rfl
 | r :: a, k, i => by
  show qW ty cl n (a ++ b) (k + 1) _ = _;rw [Ee ty cl n b a (k + 1)];rw [List.length_cons, show k + 1 + a.length = k + (a.length + 1) by omega];rfl
structure Wo where
 name : List (List UInt8)
 recs : List RR
 ttl : Option Int
 links : Nat
def rW (t : Option Int) (n : Int) : Option Int := match t with
 | none => some n
 | some m => if n < m then some n else some m
def rO (q : Qn) (l : List RR) : Nat -> Nat -> List (List UInt8) -> Option Int -> Except Int Wo
 | f, k, n, t => match zc l n q.ty q.cl with
  | r :: rs => .ok ⟨n, r :: rs, (r :: rs).foldl (fun t r => rW t r.ttl) t, k⟩
  | [] => match zc l n 5 q.cl with
   | [] => .error 11
   | r :: _ => match f with
    | 0 => .error 15
    | f + 1 => rO q l f (k + 1) r.tg (rW t r.ttl)
theorem Is (ty cl : Int) (n : List (List UInt8)) : ∀ (l : List RR) (k : Nat), zc l n ty cl = [] -> match zc l n 5 cl with
  | [] => qW ty cl n l k (-1) = -1
  | r :: _ => ∃ j : Nat, qW ty cl n l k (-1) = ((k + j : Nat) : Int) /\ l[j]? = some r
 | [], k, _ => rfl
 | r :: l, k, h => by
  unfold zc at h;rw [List.filter_cons] at h;split at h
  ·cases h
  rename_i hn;have hn : JY n ty cl r = false := jv;unfold zc;rw [List.filter_cons];have ih := Is ty cl n l (k + 1) h;unfold zc at ih;by_cases h5 : JY n 5 cl r = true
  ·
   rw [if_pos h5];have hty : r.ty ≠ ty := by intro e;unfold JY at hn h5;rw [e] at hn;simp at hn h5;exact hn h5.2.1 h5.2.2
   refine ⟨0, ?_, rfl⟩;show qW ty cl n l (k + 1) (if (-1 : Int) < 0 /\ r.ty ≠ ty /\ JY n 5 cl r = true then (k : Int) else -1) = _;rw [if_pos ⟨aj, hty, h5⟩];exact linkI_set ty cl n l (k + 1) k ak
  ·
   rw [if_neg h5];have e : qW ty cl n (r :: l) k (-1) = qW ty cl n l (k + 1) (-1) := by show qW ty cl n l (k + 1) (if (-1 : Int) < 0 /\ r.ty ≠ ty /\ JY n 5 cl r = true then (k : Int) else -1) = _;rw [if_neg (fun h => h5 h.2.2)]
   rw [e];cases hf : List.filter (JY n 5 cl) l with
   | nil => rw [hf] at ih; exact ih
   | cons x xs => rw [hf] at ih;obtain ⟨j, h1, h2⟩ := ih;exact ⟨j + 1, by rw [h1]; congr 1; omega, en⟩
where
 linkI_set (ty cl : Int) (n : List (List UInt8)) : ∀ (l : List RR) (k : Nat) (i : Int), 0 <= i -> qW ty cl n l k i = i
  | [], k, i, _ => rfl
  | r :: l, k, i, h => by
   show qW ty cl n l (k + 1) (if i < 0 /\ r.ty ≠ ty /\ JY n 5 cl r = true then (k : Int) else i) = i;rw [if_neg (fun h' => by omega)];exact linkI_set ty cl n l (k + 1) i h
set_option maxRecDepth 100000
set_option linter.unusedSimpArgs false
def Ta (rs : List RR) (i : Int) (w : World) (e : Ending) (w' : World) : Prop := ∃ A c, e = .returned (.tuple #[.slice A rs.length c, .int .i64 i]) /\ oz w' w.heap.size (.slice A rs.length c) rs /\ Below w.heap.size w w'
theorem UX (n : List (List UInt8)) (k c : Int) (r : RR) : JY n k c r = (decide (r.ty = k) && (decide (r.cl = c) && decide (ss r.name = ss n))) := rfl
theorem Ub : (prog.info? 119).map (·.size) = some 33 := by kernel_rfl
theorem It : (prog.info? 119).map (fun i => (i.zero, i.size, i.bytes)) = some (some (.agg pr.toArray), 33, 208) := by kernel_rfl
set_option maxHeartbeats 2000000 in
theorem Qv (vq : Value) (ty cl : Int) (A Al : Option Addr) (c cA : Nat) (n : List (List UInt8)) (l : List RR) (w : World) (hN : rQ w A c n) (hL : oz w 0 (.slice Al l.length cA) l) (hl : l.length <= 65535) :
  Calls prog 199 #[.agg #[vq, .int .i64 ty, .int .i64 cl], .slice A n.length c, .slice Al l.length cA] w (Ta (zc l n ty cl) (qW ty cl n l 0 (-1)) w) := by
 have HX : Below w.heap.size w (w.alloc (.cells #[vq, .int .i64 ty, .int .i64 cl] 28)) := eC;have BX := nj.new w 28 [vq, .int .i64 ty, .int .i64 cl];go_enter func199, ntmps199;go_wp2_with fail;go_loopw [8, 9, 14] (fun rv lv iv wr => ∃ k : Nat, k <= l.length /\ iv = .int .i64 k /\ lv = .int .i64 (qW ty cl n (l.take k) 0 (-1)) /\ oz wr w.heap.size rv (zc (l.take k) n ty cl) /\ Below w.heap.size w wr /\ nj wr w.heap.size 28 [vq, .int .i64 ty, .int .i64 cl]) (fun _ _ iv _ => l.length - (intOf iv).toNat)
 case atStart => exact ⟨0, Nat.zero_le _, rfl, rfl, oz.nil _ _, HX, BX⟩
 clear HX BX;obtain ⟨k, hk, rfl, rfl, ho, hB, BX⟩ := hrel;obtain ⟨Ak, ck, hv⟩ := ho.form;subst hv;by_cases hlt : k < l.length
 case neg => have hlt' : ¬ (k : Int) < l.length := ak;rw [List.take_of_length_le ak] at ho ⊢;go_wp2_with fail;go_ret2;exact ⟨Ak, ck, rfl, ho, hB⟩
 have hlt' : (k : Int) < l.length := ak;obtain ⟨gs, hA, hgs, hr⟩ := hL.at_ (fun _ _ h => h.len) ak;obtain ⟨cx, hcx, hce⟩ := hr k hlt;have hcx := nO hcx hB hgs;subst hA;have hcl := hce.len;have hone := hce.one;rw [Nat.zero_add] at hcx;have l64 : (0 : Int) <= k := ak;have SF : Hid (zc (l.take (k + 1)) n ty cl = zc (l.take k) n ty cl ++ (if JY n ty cl l[k] = true then [l[k]] else [])) := Hh (by unfold zc; exact uh hlt);have SL : Hid (qW ty cl n (l.take (k + 1)) 0 (-1) = if qW ty cl n (l.take k) 0 (-1) < 0 /\ l[k].ty ≠ ty /\ JY n 5 cl l[k] = true then (k : Int) else qW ty cl n (l.take k) 0 (-1)) := Hh (by
  rw [List.take_succ_eq_append_getElem hlt, Ee, List.length_take, Nat.min_eq_left hk, Nat.zero_add]; rfl)
 obtain ⟨vn, vt, vm, hcs, hwf, hnm, htg, hml, _⟩ := hce;obtain ⟨An, cn, hv, hNn⟩ := hnm.form;subst hv;have e0 : cx[0]? = some (.slice An l[k].name.length cn) := aZ;have e1 : cx[1]? = some (.int .i64 l[k].ty) := aZ;have e2 : cx[2]? = some (.int .i64 l[k].cl) := aZ;have CE : Hid (rj w cx l[k]) := Hh ⟨_, vt, vm, hcs, hwf, hnm, htg, hml, aG⟩;have DS : Hid (∀ W, Below w.heap.size w W -> Calls prog 218 #[.slice An l[k].name.length cn, .slice A n.length c] W (nM (.bool (decide (ss l[k].name = ss n))) W)) := Hh (fun W hb => D7 An A l[k].name n cn c W (hNn.below hb) (hN.below hb));have HO := Hh ho;have hole : (zc (l.take k) n ty cl).length <= 65535 := by have : (zc (l.take k) n ty cl).length <= (l.take k).length := List.length_filter_le _ _;simp at this; omega
 clear hcs hwf hnm htg hml hNn ho hr hN hL;obtain ⟨same, hsame⟩ : ∃ b : Bool, decide (ss l[k].name = ss n) = b := eE;have IR : Hid (∀ t' c', JY n t' c' l[k] = (decide (l[k].ty = t') && (decide (l[k].cl = c') && same))) := Hh (fun t' c' => by rw [UX, hsame]);rw [hsame] at DS;clear hsame;obtain ⟨R, hR⟩ : ∃ R, Hid (zc (l.take k) n ty cl = R) := eD;rw [hR.out] at HO hole SF ⊢;obtain ⟨li, hli⟩ : ∃ li, Hid (qW ty cl n (l.take k) 0 (-1) = li) := eD;rw [hli.out] at SL ⊢;have hrz : pr.length = 33 := iY;have W1 : Below wr.heap.size wr (wr.alloc (.cells pr.toArray 119)) := eC;have BX1 := BX.below W1 BX.lt;generalize hrr : l[k] = r at *;have HRR := Hh hrr;clear hrr;generalize r.name.length = nl at *;generalize r.ty = rt at *;generalize r.cl = rc at *;go_wp2_with (first
  | (refine nh (.load 119 (.tmp 17)) rfl ?_; go_must (refine pv rfl 119 (.tmp 17) rfl gs (k * 33) rfl cx hcx _ underlying119 rfl cO ?_))
  | (refine nh (.store 119 (.tmp 11) (.tmp 18)) rfl (ab rfl wr.heap.size 0 cx (nj.new wr 119 pr) ak cO hone ?_)))
 intro w1 B1 g1 sw;clear sw;have B1' := oH B1 ak;have K1 := ng W1 g1 W1.size (Nat.le_refl _);have H1 := nc hB hB.size K1;have BX2 := BX.below K1 BX.lt;have d0 := B1'.nf 0 e0;have d1 := B1'.nf 1 e1;have d2 := B1'.nf 2 e2;have q1 := BX2.nf 1 rfl;have q2 := BX2.nf 2 rfl;have O1 := Hh (oz.below HO.out K1);clear B1 g1 W1 hcx BX BX1 HO e0 e1 e2;have UN : Hid (JY n ty cl r = false -> ¬ (li < 0 /\ rt ≠ ty /\ JY n 5 cl r = true) -> qW ty cl n (l.take (k + 1)) 0 (-1) = li /\ zc (l.take (k + 1)) n ty cl = R) := Hh (fun h1 h2 => ⟨by rw [SL.out, if_neg h2], by rw [SF.out, h1]; simp⟩);by_cases hc : rc = cl
 case neg => have hc' : (rc != cl) = true := gN;obtain ⟨u1, u2⟩ := UN.out (by rw [IR.out, decide_eq_false hc]; simp) (fun h => by have := h.2.2; rw [IR.out, decide_eq_false hc] at this; simp at this);have U1 := Hh u1;have U2 := Hh u2;clear u1 u2 hc UN SF SL;exact ku
 subst hc;have NC : Hid (same = false -> qW ty rc n (l.take (k + 1)) 0 (-1) = li /\ zc (l.take (k + 1)) n ty rc = R) := Hh (fun h => UN.out (by rw [IR.out, h]; simp) (fun h' => by have := h'.2.2; rw [IR.out, h] at this; simp at this));by_cases ht : rt = ty
 case pos =>
  subst ht;have SL2 : Hid (qW rt rc n (l.take (k + 1)) 0 (-1) = li) := Hh (by rw [SL.out, if_neg (fun h => h.2.1 rfl)]);have SF2 : Hid (same = true -> zc (l.take (k + 1)) n rt rc = R ++ [r]) := Hh (fun h => by rw [SF.out, IR.out, h]; simp);clear SL SF UN IR;go_wp2_with fail;refine (DS.out _ H1).mono ?_;rintro _ w2 ⟨rfl, b2⟩;have H2 := nc H1 H1.size b2;have BX3 := BX2.below b2 BX2.lt;have O2 := Hh (oz.below O1.out b2);cases same with
  | false => obtain ⟨u1, u2⟩ := NC.out rfl;have U1 := Hh u1;have U2 := Hh u2;clear u1 u2 NC SF2 SL2;exact kt
  | true =>
   have U2 := Hh (SF2.out rfl);clear NC SF2;have B2' := B1'.below b2 B1'.lt;have f1 := B2'.nf 1 cP;have g1 := BX3.nf 1 rfl;have CE2 := Hh (CE.out.stays (nQ.below H2));clear d0 d1 d2 q1 q2 b2 BX2 O1 H1 K1 B1' DS;go_wp2_with (first
    | (refine nh (.load 119 (.tmp 11)) rfl ?_; go_must (refine ni rfl _ _ rfl wr.heap.size 0 rfl B2' 33 ak _ underlying119 rfl Ub cx (qj ak) ?_))
    | (refine nh (.buildSlice 48 1 #[(0, .tmp 51)]) rfl ?_; go_must (refine xm rfl 48 119 _ 33 208 underlying48 It aj aj (.tmp 51) rfl cx rfl hcl ?_)))
   intro w3 B3 K3;have O3 := oz.below O2.out K3;have N3 := nZ.ne O2.out (Nat.le_refl _);have H3 := nc H2 H2.size K3;have BX4 := BX3.below K3 BX3.lt;have CE3 := CE2.out.stays (nQ.below K3);clear f1 g1 K3 O2 CE2 B2' H2 BX3;go_wp2_with (at_builtin; go_must (refine sZ _ rfl _ _ 48 rfl 119 _ 33 208 underlying48 It (by kernel_rfl) aj w.heap.size _ _ rfl O3 H3.size w2.heap.size cx r rfl B3 N3 hcl hone CE3 aA ak ?_));intro v5 w5 O5 g5;have hbs := O3.base;have hso : nQ w3 w5 := by obtain ⟨_, o4, _⟩ := O3;exact nQ.own o4 aj g5
   have H5 := H3.grown g5 H3.size hbs;have BX5 : nj w5 w.heap.size 28 [vq, .int .i64 rt, .int .i64 rc] := by obtain ⟨_, o4, _⟩ := O3;exact pE BX4 o4 aj g5
   have O6 : oz w5 w.heap.size v5 (R ++ [r]) := nZ.stays O5 (fun _ x => x) (fun _ _ x => x.stays hso);clear g5 O3 O5 H3 B3 N3 BX4 hso;go_wp2_with fail;go_roundw
   case rel => exact ⟨k + 1, ak, eh, by rw [SL2.out], by rw [U2.out]; exact O6, H5, BX5⟩
   case measure => simp [intOf]; omega
 have ht' : (rt != ty) = true := by simpa using ht
 have ht'' : (rt == ty) = false := by simpa using ht
 have SF2 : Hid (zc (l.take (k + 1)) n ty rc = R) := Hh (by rw [SF.out, IR.out, decide_eq_false ht]; simp);by_cases h5 : rt = 5
 case neg =>
  have h5' : (rt != 5) = true := by simpa using h5
  obtain ⟨u1, u2⟩ := UN.out (by rw [IR.out, decide_eq_false ht]; simp) (fun h => by have := h.2.2; rw [IR.out, decide_eq_false h5] at this; simp at this);have U1 := Hh u1;have U2 := Hh u2;clear u1 u2 h5 ht UN SF SL NC SF2;exact ku
 by_cases hli0 : li < 0
 case neg => have hli' : decide (0 <= li) = true := al;have hli'' : 0 <= li := ak;have U1 : Hid (qW ty rc n (l.take (k + 1)) 0 (-1) = li) := Hh (by rw [SL.out, if_neg (fun h => hli0 h.1)]);have U2 := SF2;subst h5;clear ht UN SF SL NC SF2 hli0;exact ku
 have hli' : decide (0 <= li) = false := al;subst h5;have SL2 : Hid (same = true -> qW ty rc n (l.take (k + 1)) 0 (-1) = k) := Hh (fun h => by rw [SL.out, if_pos ⟨hli0, ht, by rw [IR.out, h]; simp⟩]);clear SL SF UN IR ht;go_wp2_with fail;refine (DS.out _ H1).mono ?_;rintro _ w2 ⟨rfl, b2⟩;have H2 := nc H1 H1.size b2;have BX3 := BX2.below b2 BX2.lt;have O2 := Hh (oz.below O1.out b2);cases same with
 | false => obtain ⟨u1, u2⟩ := NC.out rfl;have U1 := Hh u1;have U2 := Hh u2;clear u1 u2 NC SF2 SL2;exact kt
 | true => have U1 := Hh (SL2.out rfl);have U2 := SF2;have B2' := B1'.below b2 B1'.lt;have f1 := B2'.nf 1 cP;have g1 := BX3.nf 1 rfl;clear NC SL2 d0 d1 d2 q1 q2 b2 BX2 O1 H1 K1 B1' DS;exact kt
def BH (gt gc : Nat) (t : Option Int) (w : World) (e : Ending) (w' : World) : Prop := e = .returned (.tuple #[]) /\ ∃ w1 u, w.grownBy w1 (some gt) /\ w1.grownBy w' (some gc) /\ nj w1 gc 4 [.bool u] /\ nj w' gt 3 [.int .i64 (t.getD 0)] /\ nj w' gc 4 [.bool t.isSome]
theorem Nt (n : Int) (gt gc : Nat) (t : Option Int) (w : World) (h1 : nj w gt 3 [.int .i64 (t.getD 0)]) (h2 : nj w gc 4 [.bool t.isSome]) (hne : gt ≠ gc) :
  Calls prog 198 #[.int .i64 n, .pointer (some ⟨gc, 0, none⟩), .pointer (some ⟨gt, 0, none⟩)] w (BH gt gc (rW t n) w) := by
 have f1 := h1.frozen 0;have f2 := h2.frozen 0;have SET : Hid (∀ u : Option Int, u = some n -> BH gt gc u w (.returned (.tuple #[])) ((w.setCell ⟨gt, 0, none⟩ (.int .i64 n)).setCell ⟨gc, 0, none⟩ (.bool true))) := Hh (fun u hu => by
  subst hu;exact ⟨rfl, _, t.isSome, nT (World.grownBy.refl _ _) 0 _, nT (World.grownBy.refl _ _) 0 _, h2.sF (p := ⟨gt, 0, none⟩) (Ne.symm hne) _, (h1.set 0 _).sF (p := ⟨gc, 0, none⟩) hne _, (h2.sF (p := ⟨gt, 0, none⟩) (Ne.symm hne) _).set 0 _⟩)
 have KEEP : Hid (BH gt gc t w (.returned (.tuple #[])) w) := Hh ⟨rfl, w, t.isSome, World.grownBy.refl _ _, World.grownBy.refl _ _, h2, h1, h2⟩;cases t with
 | none => have c1 := h1.nf 0 (u := .int .i64 0) rfl;have c2 := h2.nf 0 (u := .bool false) rfl;have S := Hh (SET.out (rW none n) rfl);exact mD
 | some m =>
  have c1 := h1.nf 0 (u := .int .i64 m) rfl;have c2 := h2.nf 0 (u := .bool true) rfl;by_cases hlt : n < m
  ·have S := Hh (SET.out (rW (some m) n) (if_pos hlt));have hlt' : decide (n < m) = true := ir;exact mD
  ·have e : rW (some m) n = some m := if_neg hlt;rw [e];have hlt' : decide (n < m) = false := ir;clear h1 h2 SET e;go_enter func198, ntmps198;go_wp2_with fail;go_end0;exact KEEP.out
def JZ (o : Except Int Wo) (w : World) (e : Ending) (w' : World) : Prop := match o with
 | .ok f => ∃ An cn A c, e = .returned (.tuple #[.agg #[.slice An f.name.length cn, .slice A f.recs.length c, .int .i64 (f.ttl.getD 0), .int .i64 f.links], .int .i64 0]) /\ pL w' (.slice An f.name.length cn) f.name /\ oz w' 0 (.slice A f.recs.length c) f.recs /\ Below w.heap.size w w'
 | .error x => ∃ An nn cn A n c a b, e = .returned (.tuple #[.agg #[.slice An nn cn, .slice A n c, .int .i64 a, .int .i64 b], .int .i64 x]) /\ Below w.heap.size w w'
theorem Ef : (prog.info? 263).map (·.size) = some 4 := by kernel_rfl
theorem xv (q : Qn) (l : List RR) (f k : Nat) (n : List (List UInt8)) (t : Option Int) : rO q l f k n t = match zc l n q.ty q.cl with
  | r :: rs => .ok ⟨n, r :: rs, (r :: rs).foldl (fun t r => rW t r.ttl) t, k⟩
  | [] => match zc l n 5 q.cl with
   | [] => .error 11
   | r :: _ => match f with
    | 0 => .error 15
    | f + 1 => rO q l f (k + 1) r.tg (rW t r.ttl) := by
 conv => lhs; unfold rO
 all_goals rfl
set_option maxHeartbeats 2000000 in
theorem J0 (q : Qn) (A Al : Option Addr) (c cA : Nat) (l : List RR) (w : World) (hN : rQ w A c q.name) (hn : q.name.length <= 100000) (hL : oz w 0 (.slice Al l.length cA) l) (hl : l.length <= 65535) :
  Calls prog 157 #[.agg #[.slice A q.name.length c, .int .i64 q.ty, .int .i64 q.cl], .slice Al l.length cA] w (JZ (rO q l 16 0 q.name none) w) := by
 obtain ⟨F, hF⟩ : ∃ F, Hid (rO q l 16 0 q.name none = F) := eD;rw [hF.out];have LK := Hh (fun (An : Option Addr) (cn : Nat) (n : List (List UInt8)) (W : World) (hb : Below w.heap.size w W) (h : rQ w An cn n) => Qv (.slice A q.name.length c) q.ty q.cl An Al cn cA n l W (h.below hb) (hL.below hb) hl);have LE := Hh (fun n gt gc t W h1 h2 h3 => Nt n gt gc t W h1 h2 h3);obtain ⟨fz, hfz⟩ : ∃ fz : List Value, fz = [.slice none 0 0, .slice none 0 0, .int .i64 0, .int .i64 0] := eE;obtain ⟨X, hX⟩ : ∃ X, (((w.alloc (.cells #[.slice A q.name.length c, .int .i64 q.ty, .int .i64 q.cl] 28)).alloc (.cells #[.slice none 0 0, .slice none 0 0, .int .i64 0, .int .i64 0] 263)).alloc (.cells #[.int .i64 0] 3)).alloc (.cells #[.bool false] 4) = X := eE;have HX : Below w.heap.size w X := by rw [<- hX]; exact ((((Below.refl _ _).alloc (Nat.le_refl _) _).alloc ag _).alloc al _).alloc al _
 have X1 : nj X w.heap.size 28 [.slice A q.name.length c, .int .i64 q.ty, .int .i64 q.cl] := by rw [<- hX]; exact (((nj.new w _ _).alloc _).alloc _).alloc _
 have X2 : nj X (w.heap.size + 1) 263 fz := by rw [<- hX, hfz]; exact ((nj.ph _ _ _ _ ag).alloc _).alloc _
 have X3 : nj X (w.heap.size + 1 + 1) 3 [.int .i64 ((none : Option Int).getD 0)] := im;have X4 : nj X (w.heap.size + 1 + 1 + 1) 4 [.bool (none : Option Int).isSome] := iR;have hX' := Hh hX;clear hX;go_enter func157, ntmps157;go_wp2_with fail;rw [hX'.out];have h2 : w.heap.size <= w.heap.size + 1 := ak;have h3 : w.heap.size <= w.heap.size + 1 + 1 := ak;have h4 : w.heap.size <= w.heap.size + 1 + 1 + 1 := ak;have n34 : w.heap.size + 1 + 1 ≠ w.heap.size + 1 + 1 + 1 := ak;have n13 : w.heap.size ≠ w.heap.size + 1 + 1 := ak;have n14 : w.heap.size ≠ w.heap.size + 1 + 1 + 1 := ak;have n23 : w.heap.size + 1 ≠ w.heap.size + 1 + 1 := ak;have n24 : w.heap.size + 1 ≠ w.heap.size + 1 + 1 + 1 := ak;clear hX';generalize w.heap.size + 1 + 1 + 1 = gc at *;generalize w.heap.size + 1 + 1 = gt at *;generalize w.heap.size + 1 = g2 at *;have hfl : fz.length = 4 := by rw [hfz]; rfl
 clear hfz;go_loopw [6, 10] (fun nv kv wr => ∃ (k : Nat) (n : List (List UInt8)) (An : Option Addr) (cn : Nat) (t : Option Int), nv = .slice An n.length cn /\ kv = .int .i64 k /\ k <= 16 /\ rQ w An cn n /\ n.length <= 100000 /\ Hid (rO q l (16 - k) k n t = F) /\ nj wr gt 3 [.int .i64 (t.getD 0)] /\ nj wr gc 4 [.bool t.isSome] /\ nj wr w.heap.size 28 [.slice A q.name.length c, .int .i64 q.ty, .int .i64 q.cl] /\ nj wr g2 263 fz /\ Below w.heap.size w wr) (fun _ kv _ => 17 - (intOf kv).toNat)
 case atStart => exact ⟨0, q.name, A, c, none, rfl, rfl, ak, hN, hn, hF, X3, X4, X1, X2, HX⟩
 clear X1 X2 X3 X4 HX hN hn;obtain ⟨k, n, An, cn, t, rfl, rfl, hk, hNm, hnl, HF, B3, B4, B1, B2, hB⟩ := hrel;have LKn := Hh (LK.out An cn n wr hB hNm);generalize hQ : [Value.slice A q.name.length c, .int .i64 q.ty, .int .i64 q.cl] = Qc at *;have hQl : Qc.length = 3 := by rw [<- hQ]; rfl
 rw [xv] at HF;have HLK := Hh (Is q.ty q.cl n l 0);obtain ⟨li, hli⟩ : ∃ li, qW q.ty q.cl n l 0 (-1) = li := eE;rw [hli] at LKn HLK;clear hli hQ LK;go_wp2_with (refine nh (.load 28 (.tmp 2)) rfl ?_; go_must (refine ni rfl _ _ rfl w.heap.size 0 rfl B1 3 ak _ underlying28 rfl rD Qc (qj ak) ?_));refine LKn.out.mono ?_;rintro _ w1 ⟨Ar, cr, rfl, hR, b1⟩;have E1 := B1.below b1 B1.lt;have E2 := B2.below b1 B2.lt;have E3 := B3.below b1 B3.lt;have E4 := B4.below b1 B4.lt;have H1 := nc hB hB.size b1;have HR : Hid (oz w1 0 (.slice Ar (zc l n q.ty q.cl).length cr) (zc l n q.ty q.cl)) := Hh (nZ.zero hR);clear b1 B1 B2 B3 B4 hB LKn hR;obtain ⟨rs, hrs⟩ : ∃ rs, Hid (zc l n q.ty q.cl = rs) := eD;rw [hrs.out] at HF HR ⊢;cases rs with
 | cons r0 rs =>
  have hpos : 0 < (r0 :: rs).length := ag;have HF2 : Hid (F = .ok ⟨n, r0 :: rs, (r0 :: rs).foldl (fun t r => rW t r.ttl) t, k⟩) := Hh (by rw [<- HF.out]);have hrl : (r0 :: rs).length <= 65535 := by rw [<- hrs.out];exact Nat.le_trans (List.length_filter_le _ _) hl
  clear HF HLK hrs;generalize r0 :: rs = R at *;have hpos' : (0 : Int) < R.length := ak;go_wp2_with fail;obtain ⟨wo, hwo⟩ : ∃ wo : World, w1 = wo := eE;subst hwo;go_loopw [32] (fun iv wx => ∃ (j : Nat) (u : Option Int), j <= R.length /\ iv = .int .i64 j /\ Hid ((R.take j).foldl (fun t r => rW t r.ttl) t = u) /\ nj wx gt 3 [.int .i64 (u.getD 0)] /\ nj wx gc 4 [.bool u.isSome] /\ nj wx g2 263 fz /\ Below w.heap.size w wx /\ Hid (oz wx 0 (.slice Ar R.length cr) R)) (fun iv _ => R.length - (intOf iv).toNat)
  case atStart => exact ⟨0, t, Nat.zero_le _, rfl, Hh rfl, E3, E4, E2, H1, HR⟩
  clear E1 E2 E3 E4 H1 HR;obtain ⟨j, u, hj, rfl, HU, D3, D4, D2, hB, HR⟩ := hrel;by_cases hlt : j < R.length
  case pos =>
   have hlt' : (j : Int) < R.length := ak;obtain ⟨gs, hA, hgs, hr⟩ := nZ.at_ (fun _ _ h => h.len) HR.out hpos;obtain ⟨cx, hcx, hce⟩ := hr j hlt;rw [Nat.zero_add] at hcx;have hcl := hce.len;have hone := hce.one;have e3 : cx[3]? = some (.int .i64 R[j].ttl) := by obtain ⟨vn, vt, vm, hcs, _⟩ := hce; rw [hcs]; rfl
   have HU2 : Hid ((R.take (j + 1)).foldl (fun t r => rW t r.ttl) t = rW u R[j].ttl) := Hh (by rw [List.take_succ_eq_append_getElem hlt, List.foldl_append, HU.out]; rfl);subst hA;have hrz : pr.length = 33 := iY;have W1 : Below wr.heap.size wr (wr.alloc (.cells pr.toArray 119)) := eC;clear hce hr HU;generalize R[j].ttl = tl at *;go_wp2_with (first
    | (refine nh (.load 119 (.tmp 34)) rfl ?_; go_must (refine pv rfl 119 (.tmp 34) rfl gs (j * 33) rfl cx hcx _ underlying119 rfl cO ?_))
    | (refine nh (.store 119 (.tmp 14) (.tmp 35)) rfl (ab rfl wr.heap.size 0 cx (nj.new wr 119 pr) ak cO hone ?_)))
   intro w3 B5 g5 sw;clear sw;have B5' := oH B5 ak;have K1 := ng W1 g5 W1.size (Nat.le_refl _);have d3 := B5'.nf 3 e3;replace D2 := D2.below K1 D2.lt;replace D3 := D3.below K1 D3.lt;replace D4 := D4.below K1 D4.lt;replace HR := Hh (oz.below HR.out K1);replace hB := nc hB hB.size K1;clear B5 B5' g5 W1 K1 hcx e3;go_wp2_with fail;refine (LE.out _ _ _ _ _ D3 D4 n34).mono ?_;rintro _ w5 ⟨rfl, w4, u4, g4, g5, C4, F3, F4⟩;have G2 := (D2.grown g4 (by simp; exact n23)).grown g5 (by simp; exact n24);have HB5 := ng (ng hB g4 hB.size h3) g5 (Nat.le_trans hB.size g4.size) h4;have HR5 := Hh ((oz.oL HR.out g4 D3 aj aj).oL g5 C4 aj aj);clear g4 g5 C4 D2 D3 D4 HR hB d3;go_wp2_with fail;go_roundw
   case rel => exact ⟨j + 1, rW u tl, ak, eh, HU2, F3, F4, G2, HB5, HR5⟩
   case measure => simp [intOf]; omega
  case neg =>
   have hlt' : ¬ (j : Int) < R.length := ak;rw [List.take_of_length_le ak] at HU;have HF3 : Hid (F = .ok ⟨n, R, u, k⟩) := Hh (by rw [HF2.out, HU.out]);have CL := Hh (fun W hb => tN An cn n W (hNm.below hb) hnl);have RB : Hid (∀ (Ac : Option Addr) (cc : Nat) (W : World), (Instr.build 263 #[(0, .slice Ac n.length cc), (1, .slice Ar R.length cr), (2, .int .i64 (u.getD 0)), (3, .int .i64 k)]).run prog W = .ok (.agg [Value.slice Ac n.length cc, .slice Ar R.length cr, .int .i64 (u.getD 0), .int .i64 k].toArray) W) := Hh (fun Ac cc W => by kernel_rfl);clear HF2 HU D4 hpos hpos' LE;obtain ⟨uv, huv⟩ : ∃ uv, Hid (u.getD 0 = uv) := eD;rw [huv.out] at D3 RB;go_wp2_with fail;refine wp_region_held_drew (S := fun V => nj V gt 3 [.int .i64 uv]) (by kernel_rfl) D3.drew (fun hS => ?_);have HD : Below wr.heap.size wr wr.drew := fw;refine nI hS 4 [0,2,3,4] rfl (by kernel_rfl) (fun _ _ _ _ _ h => h) rfl rfl ?_;repeat (refine ⟨_, _, rfl, .inl ⟨rfl, fun W hW => rfl⟩, ?_⟩; simp only [Act.put, nB, nC, nD])
   (refine ⟨_, _, rfl, .inl ⟨rfl, fun V hV => (nW 3 (.tmp 7) ⟨gt, 0, none⟩ rfl rfl (nN underlying3 rfl (hV.nf 0 rfl)))⟩, ?_⟩; simp only [Act.put, nB, nC, nD])
   repeat (refine ⟨_, _, rfl, .inl ⟨rfl, fun W hW => rfl⟩, ?_⟩; simp only [Act.put, nB, nC, nD])
   simp only [pa];refine oY 1 (some 42) 73 #[.slice An n.length cn] (by kernel_rfl) rfl rfl (by kernel_rfl) aS (CL.out _ (nc hB hB.size HD)) ?_;rintro _ w6 ⟨Ac, cc, rfl, o6, b6⟩;have hS := hS.below b6 hS.lt;have HD := nc HD HD.size b6;refine ⟨_, rfl, hS, ?_⟩;simp only [Act.put, nB, nC, nD];refine nI hS 1 [5] rfl (by kernel_rfl) (fun _ _ _ _ _ h => h) rfl rfl ?_
   (refine ⟨_, (.agg [Value.slice Ac n.length cc, .slice Ar R.length cr, .int .i64 uv, .int .i64 k].toArray), rfl, .inl ⟨rfl, fun V hV => (r5 263 _ rfl #[(0, .slice Ac n.length cc), (1, .slice Ar R.length cr), (2, .int .i64 uv), (3, .int .i64 k)] (by kernel_rfl) (RB.out Ac cc V))⟩, ?_⟩; simp only [Act.put, nB, nC, nD])
   simp only [pa];refine pG 6 none 263 (.tmp 4) (.tmp 46) (by kernel_rfl) rfl rfl rfl (by kernel_rfl) g2 0 rfl [Value.slice Ac n.length cc, .slice Ar R.length cr, .int .i64 uv, .int .i64 k] rfl (D2.below HD D2.lt) cQ Ef aJ ?_;intro w7 B7 g7 s7;rw [List.take_zero, List.nil_append, Nat.zero_add] at B7;have B7' := oH B7 (Nat.le_of_eq hfl);have T7 : pL w7 (.slice Ac n.length cc) n := (nQ.oL g7 (D2.below HD D2.lt) aj) _ _ (sX o6);have R7 := oz.oL (oz.below HR.out HD) g7 (D2.below HD D2.lt) aj aj;have H7 := ng (nc hB hB.size HD) g7 (Nat.le_trans hB.size HD.size) h2;have hS := hS.grown g7 al;refine ⟨hS, ?_⟩;simp only [Act.put, nB, nC, nD];refine nI hS 1 [7] rfl (by kernel_rfl) (fun _ _ _ _ _ h => h) rfl rfl ?_;repeat (refine ⟨_, _, rfl, .inl ⟨rfl, fun W hW => rfl⟩, ?_⟩; simp only [Act.put, nB, nC, nD])
   simp only [pa];refine wpAnyH_done (by kernel_rfl) ?_ _;go_wp2_with fail;refine oF rfl g2 rfl B7' _ underlying263 rfl Ef rfl (.int .i64 0) rfl ?_;rw [HF3.out];exact ⟨Ac, cc, Ar, cr, by rw [huv.out], T7, R7, H7⟩
 | nil =>
  have HK := HLK.out hrs.out;clear HLK hrs HR;have hz : decide ((0 : Int) < ([] : List RR).length) = false := rfl;cases h5 : zc l n 5 q.cl with
  | nil =>
   rw [h5] at HK HF;have HF3 : Hid (F = .error 11) := Hh (by rw [<- HF.out]);subst HK;have CL := Hh (fun W hb => tN An cn n W (hNm.below hb) hnl);have RB : Hid (∀ (Ac : Option Addr) (cc : Nat) (W : World), (Instr.build 263 #[(0, .slice Ac n.length cc), (3, .int .i64 k)]).run prog W = .ok (.agg [Value.slice Ac n.length cc, .slice none 0 0, .int .i64 0, .int .i64 k].toArray) W) := Hh (fun Ac cc W => by kernel_rfl);clear HF h5 LE;go_wp2_with fail;refine (CL.out _ H1).mono ?_;rintro _ w6 ⟨Ac, cc, rfl, o6, b6⟩;have E2' := E2.below b6 E2.lt;have H6 := nc H1 H1.size b6;clear b6 E2 E3 E4 E1 H1;go_wp2_with (first
    | (refine nh (.build 263 #[(0, .tmp 50), (3, .tmp 51)]) rfl ?_; go_must (refine oo rfl 263 _ rfl #[(0, .slice Ac n.length cc), (3, .int .i64 k)] cM (RB.out Ac cc _) ?_))
    | (refine nh (.store 263 (.tmp 4) (.tmp 52)) rfl (ab rfl g2 0 [Value.slice Ac n.length cc, .slice none 0 0, .int .i64 0, .int .i64 k] E2' cQ Ef aJ ?_)))
   intro w7 B7 g7 sw;clear sw;have B7' := oH (L := [Value.slice Ac n.length cc, .slice none 0 0, .int .i64 0, .int .i64 k]) B7 (Nat.le_of_eq hfl);have H7 := ng H6 g7 H6.size h2;go_wp2_with fail;refine oF rfl g2 rfl B7' _ underlying263 rfl Ef rfl (.int .i64 11) rfl ?_;exact m4
  | cons r tail =>
   rw [h5] at HK HF;obtain ⟨j, hj, hr⟩ := HK;rw [Nat.zero_add] at hj;subst hj;obtain ⟨hjl, hjr⟩ := List.getElem?_eq_some_iff.1 hr;have hj0 : decide ((j : Int) < 0) = false := ag;have hjl' : (j : Int) < l.length := ak;obtain ⟨gs, hA, hgs, hrow⟩ := nZ.at_ (fun _ _ h => h.len) hL ak;obtain ⟨cx, hcx, hce⟩ := hrow j hjl;rw [hjr] at hce;subst hA;rw [Nat.zero_add] at hcx;replace hcx := nO hcx H1 hgs;obtain ⟨vn, vt, vm, hcs, hwf, hnm, htg, hml, _⟩ := hce;obtain ⟨At, ct, hv, hNt⟩ := htg.form;subst hv;have c3 := hcx 3 (.int .i64 r.ttl) aZ;have c22 := hcx 22 (.slice At r.tg.length ct) (by rw [hcs]; exact uV hwf);have htl : r.tg.length <= 100000 := by obtain ⟨h6, h7⟩ := qB htg.2;have := wB r.tg;omega
   clear hcs hwf hnm htg hml hrow hcx hr hjr h5;by_cases hk16 : k = 16
   case pos =>
    have hk' : ((k : Int) == 16) = true := al;have HF3 : Hid (F = .error 15) := Hh (by rw [<- HF.out]; subst hk16; rfl);have RB : Hid (∀ (W : World), (Instr.build 263 #[]).run prog W = .ok (.agg [Value.slice none 0 0, .slice none 0 0, .int .i64 0, .int .i64 0].toArray) W) := Hh (fun W => by kernel_rfl);clear HF LE hk16;go_wp2_with (first
     | (refine nh (.build 263 #[]) rfl ?_; go_must (refine oo rfl 263 _ rfl #[] cM (RB.out _) ?_))
     | (refine nh (.store 263 (.tmp 4) (.tmp 55)) rfl (ab rfl g2 0 [Value.slice none 0 0, .slice none 0 0, .int .i64 0, .int .i64 0] E2 cQ Ef aJ ?_)))
    intro w7 B7 g7 sw;clear sw;have B7' := oH (L := [Value.slice none 0 0, .slice none 0 0, .int .i64 0, .int .i64 0]) B7 (Nat.le_of_eq hfl);have H7 := ng H1 g7 H1.size h2;go_wp2_with fail;refine oF rfl g2 rfl B7' _ underlying263 rfl Ef rfl (.int .i64 15) rfl ?_;exact m4
   case neg =>
    have hk' : ((k : Int) == 16) = false := al;have HF3 : Hid (rO q l (16 - (k + 1)) (k + 1) r.tg (rW t r.ttl) = F) := Hh (by
     rw [<- HF.out, show 16 - k = (16 - (k + 1)) + 1 by omega])
    clear HF;generalize r.ttl = tl at *;go_wp2_with fail;refine (LE.out _ _ _ _ _ E3 E4 n34).mono ?_;rintro _ w5 ⟨rfl, w4, u4, g4, g5, C4, F3, F4⟩;have G1 := (E1.grown g4 (by simp; exact n13)).grown g5 (by simp; exact n14);have G2 := (E2.grown g4 (by simp; exact n23)).grown g5 (by simp; exact n24);have HB5 := ng (ng H1 g4 H1.size h3) g5 (Nat.le_trans H1.size g4.size) h4;have c22' : w5.cell? ⟨gs, j * 33 + 22, none⟩ = some (.slice At r.tg.length ct) := by rw [<- c22, HB5.cell (p := ⟨gs, _, none⟩) hgs, H1.cell (p := ⟨gs, _, none⟩) hgs]
    clear g4 g5 C4 E1 E2 E3 E4 H1 c3 c22;go_wp2_with fail;go_roundw
    case rel => exact ⟨k + 1, r.tg, At, ct, rW t tl, rfl, eh, ak, hNt, htl, HF3, F3, F4, G1, G2, HB5⟩
    case measure => simp [intOf]; omega
def oJ (h : Hd) (conn edns : Bool) : Int :=
 if h.tc = true /\ conn = false then 2 else if h.rc = 0 \/ h.rc = 3 then 1 else if h.rc = 2 then 4 else if edns = true /\ (h.rc = 1 \/ h.rc = 4) then 3 else 5
def qd (q : Qn) (m : oh) : Int := match rO q m.an 16 0 q.name none with
 | .ok _ => 1
 | .error e => if e = 15 then 5 else if m.hd.rc = 3 then 3 else 2
theorem Lq (h : Hd) (conn edns : Bool) (w : World) : Calls prog 196 #[.agg h.pc.toArray, .bool conn, .bool edns] w (nM (.int .i64 (oJ h conn edns)) w) := by
 have HX : Below w.heap.size w (w.alloc (.cells h.pc.toArray 46)) := eC;have BX := nj.new w 46 h.pc;have c4 := BX.nf 4 (u := .bool h.tc) rfl;have c9 := BX.nf 9 (u := .int .i64 h.rc) rfl;have K : oJ h conn edns = if h.tc = true /\ conn = false then 2 else if h.rc = 0 \/ h.rc = 3 then 1 else if h.rc = 2 then 4 else if edns = true /\ (h.rc = 1 \/ h.rc = 4) then 3 else 5 := rfl
 have HK := Hh K;clear K BX;generalize h.pc = L at *;generalize h.tc = tc at *;generalize h.rc = rc at *;by_cases h1 : tc = true /\ conn = false
 ·obtain ⟨rfl, rfl⟩ := h1;have E : Hid (oJ h false edns = 2) := Hh (by rw [HK.out]; simp);clear HK;go_enter func196, ntmps196;go_wp2_with fail;go_ret;exact nM.mk cR HX
 rw [if_neg h1] at HK;have HT : tc = false \/ tc = true /\ conn = true := by cases tc <;> cases conn <;> simp_all
 obtain ⟨V, hV⟩ : ∃ V, Hid (oJ h conn edns = V) := eD;have HV : Hid ((if rc = 0 \/ rc = 3 then (1 : Int) else if rc = 2 then 4 else if edns = true /\ (rc = 1 \/ rc = 4) then 3 else 5) = V) := Hh (by rw [<- HK.out, hV.out]);rw [hV.out];clear HK hV h1;have N : ∀ k : Int, rc ≠ k -> (rc == k) = false := fun k h => by simpa using h
 by_cases r0 : rc = 0
 case pos => subst r0;have E : Hid (V = 1) := Hh cS;clear HV N;exact jP
 by_cases r3 : rc = 3
 case pos => subst r3;have E : Hid (V = 1) := Hh cS;clear HV N r0;exact jP
 by_cases r2 : rc = 2
 case pos => subst r2;have E : Hid (V = 4) := Hh cS;clear HV N r0 r3;exact jP
 by_cases r1 : rc = 1
 case pos =>
  subst r1;cases edns with
  | true => have E : Hid (V = 3) := Hh cS;clear HV N r0 r3 r2;exact jP
  | false => have E : Hid (V = 5) := Hh cS;clear HV N r0 r3 r2;exact jP
 by_cases r4 : rc = 4
 case pos =>
  subst r4;cases edns with
  | true => have E : Hid (V = 3) := Hh cS;clear HV N r0 r3 r2 r1;exact jP
  | false => have E : Hid (V = 5) := Hh cS;clear HV N r0 r3 r2 r1;exact jP
 have E : Hid (V = 5) := Hh (by rw [<- HV.out, if_neg ak, if_neg r2, if_neg (fun h => by omega)]);have q0 := N 0 r0;have q1 := N 1 r1;have q2 := N 2 r2;have q3 := N 3 r3;have q4 := N 4 r4;clear HV N r0 r1 r2 r3 r4;exact jP
end Go.Proofs.YthnbcmlnpdabhaaGreat

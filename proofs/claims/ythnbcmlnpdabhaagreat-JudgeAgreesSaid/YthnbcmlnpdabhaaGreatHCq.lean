/-
  Layer 13 (rdata): name, getTarget, getAddr, getSRV.
-/
import Derived.Test.YthnbcmlnpdabhaaGreatHAq
namespace Go.Proofs.YthnbcmlnpdabhaaGreat
open _root_.Go.Proofs.Tryz
open Go.RowKit
set_option maxRecDepth 100000
set_option linter.unusedVariables false
set_option linter.unusedSimpArgs false
def nE (o : GO) : Int := if TP o = 1 then 5 else TP o
def TU (o : GO) (w : World) (e : Ending) (w' : World) : Prop :=
 ∃ v, e = .returned (.tuple #[v, .int .i64 (VB o), .int .i64 (nE o)]) /\ pL w' v (goN o) /\ Below w.heap.size w w'
theorem MC (m : List UInt8) (a : Nat) (w : World) (hl : m.length <= 4000000) : Calls prog 262 #[.string (bs m), .int .i64 a] w (TU (wV m a) w) := by
 have G := Hh (KB m a w hl);generalize wV m a = o at *;have hE : Hid (nE o = if TP o = 1 then 5 else TP o) := Hh rfl;unfold zS at G;unfold TU;generalize nE o = y at *;generalize TP o = x at *;generalize VB o = b at *;go_enter func262, ntmps262;go_wp2_with fail;refine G.out.mono ?_;rintro _ w1 ⟨v, rfl, hT, hB, _⟩;by_cases hx : x = 1
 ·
  subst hx;obtain rfl : y = 5 := by rw [hE.out]; rfl
  exact m7
 ·
  have hx' : (x == 1) = false := fS;obtain rfl : y = x := by rw [hE.out, if_neg hx]
  clear hx hE;exact m7
theorem AM {m : List UInt8} {a : Nat} {l : List (List UInt8)} {n : Nat} (h : wV m a = .ok l n) (w : World) (hl : m.length <= 4000000) :
  Calls prog 262 #[.string (bs m), .int .i64 a] w (fun e w' => ∃ v, e = .returned (.tuple #[v, .int .i64 (n : Int), .int .i64 0]) /\ pL w' v l /\ Below w.heap.size w w') := by
 exact m5
theorem AO {m : List UInt8} {a : Nat} {x : Int} (h : wV m a = .err x) (w : World) (hl : m.length <= 4000000) :
  Calls prog 262 #[.string (bs m), .int .i64 a] w (fun e w' => ∃ v, e = .returned (.tuple #[v, .int .i64 0, .int .i64 (if x = 1 then 5 else x)]) /\ pL w' v [] /\ Below w.heap.size w w') := by
 exact m5
def TV (g : Nat) (L : List Value) (o : Except Int (List (List UInt8))) (w : World) (e : Ending) (w' : World) : Prop :=
 match o with
 | .error x => x ≠ 0 /\ e = .returned (.int .i64 x) /\ nj w' g 119 L /\ w.grownBy w' (some g)
 | .ok l => ∃ v, e = .returned (.int .i64 0) /\ nj w' g 119 (L.set 22 v) /\ vo w' v l /\ w.grownBy w' (some g)
theorem xc (g : Nat) (L : List Value) (s : List UInt8) (a : Nat) (w : World) (hb : nj w g 119 L) (hl : L.length = 33) (hs : s.length <= 4000000) :
  Calls prog 257 #[.pointer (some ⟨g, 0, none⟩), .string (bs s), .int .i64 a] w (TV g L (qP s a) w) := by
 have hg := hb.lt;rcases ug s a with ⟨l, n, h1, h2, h3, h4, h5⟩ | ⟨x, h1, h2, h3, h4⟩
 ·
  have N := Hh (AM h1 w hs);unfold qP;rw [h2];clear h1 h2;by_cases hn : n = s.length
  ·subst hn;simp only [if_true];go_enter func257, ntmps257;go_wp2_with fail;refine N.out.mono ?_;rintro _ w1 ⟨v, rfl, hT, hB⟩;have B1 := hb.below hB hg;obtain ⟨A, c, hv, -, -⟩ := hT.form;subst hv;clear N hs;go_wp2_with (refine nh (.store 26 (.tmp 27) (.tmp 25)) rfl (af rfl g 22 _ B1 ak rZ ?_));intro w2 hb2 hg2 hs2;have hT2 := vo.mk' (hT.grown hg2 B1 aj) h4 h5;clear hT;go_wp2_with fail;go_ret;exact ⟨_, rfl, hb2, hT2, ns (nG hB _) hg2 (.inl rfl)⟩
  ·have hn' : ((n : Int) != (s.length : Int)) = true := al;simp only [hn, if_false];clear hn h3;go_enter func257, ntmps257;go_wp2_with fail;refine N.out.mono ?_;rintro _ w1 ⟨v, rfl, hT, hB⟩;go_wp2_with fail;go_ret;exact ⟨aj, rfl, hb.below hB hg, nG hB _⟩
 ·have N := Hh (AO h1 w hs);unfold qP;rw [h2];generalize (if x = 1 then 5 else x) = y at *;have hy := h4.nz;clear h1 h2 h3;go_enter func257, ntmps257;go_wp2_with fail;refine N.out.mono ?_;rintro _ w1 ⟨v, rfl, hT, hB⟩;go_wp2_with fail;go_ret;exact ⟨h4.ne, rfl, hb.below hB hg, nG hB _⟩
theorem EU {a w : World} {g : Nat} (h : a.grownBy w (some g)) (ds : Array Value) : a.grownBy (w.setRow g ds) (some g) :=
 ns h ⟨rfl, rfl, rfl, ag, fun k hk hne => setRow_other _ _ _ _ (fun e => hne (by rw [e]))⟩ (.inl rfl)
theorem GU (w : World) {ops : Array Oper} {rest : List Oper} {o : Oper} {a : Act} {Q : Exit -> Act -> World -> Prop} (hgd : o.guard = none) (d x : Operand)
  (ho : o.op = .call { callee := .builtin .copy, args := #[d, x], argTypes := #[145, 9] }) (g off len cap : Nat) (hd : a.eval d = .slice (some ⟨g, off, none⟩) len cap) (s : List UInt8) (hx : a.eval x = .string (bs s))
  {t : TypeId} {L : List Value} (hb : nj w g t L) (hle : s.length <= len) (hfit : off + s.length <= L.length)
  (h : ∀ w', nj w' g t (L.take off ++ oM s ++ L.drop (off + s.length)) -> w.grownBy w' (some g) -> wpList prog ops Q rest (a.put o.dst (.int .i64 s.length)) w') : wpList prog ops Q (o :: rest) a w := by
 refine wpList_plain hgd fun K hK => ?_
 have hr := Lib.run_copy_row_string (P := prog) w 145 9 o.type 5 g off len cap (bs s) L.toArray t underlying145 byteSize hb (by simpa using hle) (by simpa using hfit);have e : Lib.byteCells (bs s).data.toList = oM s := by simp [bs, Lib.byteCells, oM]
 rw [e, qo] at hr;unfold Oper.wp execOp;simp only [ho, resolve, invoke, builtin, Sem.run_bind, Sem.run_pure, Result.andThen_ok, List.map_toArray, List.map_cons, List.map_nil, hd, hx, hr];exact hK _ _ (h _ (xg hb _) (EU (World.grownBy.refl _ _) _))
def Gd (fam : Int) (d : List UInt8) : RR := { RR.zero with ad := ⟨fam, d ++ List.replicate (16 - d.length) 0, 0⟩ }
theorem MD (fam : Int) (d : List UInt8) (hd : d.length = 4 \/ d.length = 16) :
  (pr.set 4 (.int .i64 fam)).take 5 ++ oM d ++ (pr.set 4 (.int .i64 fam)).drop (5 + d.length) = pO nA nA nA (Gd fam d) := by
 rcases hd with hd | hd
 ·
  have : Gd fam d = { RR.zero with ad := ⟨fam, d ++ List.replicate 12 0, 0⟩ } := by unfold Gd; rw [hd]
  exact me
 ·
  have : Gd fam d = { RR.zero with ad := ⟨fam, d ++ List.replicate 0 0, 0⟩ } := by unfold Gd; rw [hd]
  exact me
def VR (g : Nat) (L : List Value) (w : World) (e : Ending) (w' : World) : Prop := e = .returned (.int .i64 0) /\ nj w' g 119 L /\ w.grownBy w' (some g)
theorem JE (g : Nat) (d : List UInt8) (fam : Int) (w : World) (hb : nj w g 119 pr) (hd : d.length = 4 \/ d.length = 16) :
  Calls prog 256 #[.pointer (some ⟨g, 0, none⟩), .string (bs d), .int .i64 d.length, .int .i64 fam] w (VR g (pO nA nA nA (Gd fam d)) w) := by
 have hl := xP;have RC := Hh (MD fam d hd);have hd16 : d.length <= 16 := ak;generalize pO nA nA nA (Gd fam d) = L1 at *;generalize pr = L at *;go_enter func256, ntmps256;go_wp2_with (refine nh (.store 3 (.tmp 17) (.tmp 14)) rfl (af rfl g 4 _ hb ak pM ?_));intro w1 hb1 hg1 hs1;have hl1 : (L.set 4 (.int .i64 fam)).length = 33 := by simpa using hl
 go_wp2_with (refine nh (.call { callee := .builtin .copy, args := #[.tmp 22, .tmp 23], argTypes := #[145, 9] }) rfl ?_; go_must (refine GU _ rfl (.tmp 22) (.tmp 23) rfl g 5 16 16 rfl d rfl hb1 hd16 ak ?_));intro w2 hb2 hg2;rw [<- List.append_assoc, RC.out] at hb2;go_wp2_with fail;go_ret;exact ⟨rfl, hb2, ns hg1 hg2 (.inl rfl)⟩
theorem AQ (g : Nat) (d : List UInt8) (wd : Nat) (fam : Int) (w : World) (hd : d.length ≠ wd) :
  Calls prog 256 #[.pointer (some ⟨g, 0, none⟩), .string (bs d), .int .i64 wd, .int .i64 fam] w (rN (.int .i64 5) w) := by
 have hd' : ((d.length : Int) != (wd : Int)) = true := al;clear hd;go_enter func256, ntmps256;exact j2
theorem ME (l : List UInt8) (h : l.length < 6) : qV (rh (rh l false 2) (qV l false 2) 2) (qV (rh l false 2) (qV l false 2) 2) 2 = true := by
 by_cases h1 : l.length < 2
 ·simp [qV, rh, h1]
 ·
  by_cases h2 : l.length - 2 < 2
  ·simp [qV, rh, h1, h2]
  ·simp [qV, rh, h1, h2]; omega
theorem Pu (l : List UInt8) (h : 6 <= l.length) : qV l false 2 = false /\ rh l false 2 = l.drop 2 /\ rY l false 2 = l.take 2 /\ qV (l.drop 2) false 2 = false /\ rh (l.drop 2) false 2 = l.drop 4 /\ rY (l.drop 2) false 2 = (l.drop 2).take 2 /\ qV (l.drop 4) false 2 = false /\ rh (l.drop 4) false 2 = l.drop 6 /\ rY (l.drop 4) false 2 = (l.drop 4).take 2 := by
 have h1 : ¬ l.length < 2 := ak;have h2 : ¬ l.length - 2 < 2 := ak;have h3 : ¬ l.length - 4 < 2 := ak;simp [qV, rh, rY, h1, h2, h3]
theorem DH (l : List UInt8) (b : Bool) (n : Int) : (rh l b n).length <= l.length := by unfold rh; split <;> simp
def MF (L : List Value) (a b c : Int) : List Value := ((L.set 24 (.int .i64 a)).set 25 (.int .i64 b)).set 26 (.int .i64 c)
structure WY (d : List UInt8) (sh : Bool) (n : Nat) (d' : List UInt8) (sh' : Bool) : Prop where
 hn : n = oE (rY d sh 2)
 hd : d' = rh d sh 2
 hs : sh' = qV d sh 2
theorem wH (gy : Nat) (d : List UInt8) (sh : Bool) (w : World) (h : sD w gy d sh) (hm : d.length <= maxLen) :
  Calls prog 177 #[.pointer (some ⟨gy, 0, none⟩), .int .i64 2] w (fun e w' => ∃ n d' sh', e = .returned (.int .i64 (n : Nat)) /\ Hid (WY d sh n d' sh') /\ Hid (d'.length <= maxLen) /\ sD w' gy d' sh' /\ w.grownBy w' (some gy)) := by
 refine (zf gy d sh 2 w h hm).mono ?_;rintro _ w' ⟨rfl, h1, h2⟩;exact ⟨_, _, _, rfl, Hh ⟨rfl, rfl, rfl⟩, Hh (Nat.le_trans (DH _ _ _) hm), h1, h2⟩
set_option maxHeartbeats 1000000 in
theorem EV (g : Nat) (L : List Value) (s : List UInt8) (a : Nat) (w : World) (hb : nj w g 119 L) (hl : L.length = 33) (ha : a <= s.length) (hn : s.length < a + 6) (hs0 : s.length <= 4000000) :
  Calls prog 258 #[.pointer (some ⟨g, 0, none⟩), .string (bs s), .int .i64 a] w (fun e w' => e = .returned (.int .i64 5) /\ w.grownBy w' (some g)) := by
 have E := Hh (ME (s.drop a) al);have hgl := hb.lt;have ha' : (a : Int) <= s.length := ak;have hm : (s.drop a).length <= maxLen := iH;have hs := Hh hs0;clear hs0;go_enter func258, ntmps258;go_wp2_with fail;refine (tF (s.drop a) w).mono ?_;rintro _ w1 ⟨rfl, e1, b1⟩;have B1 := hb.below b1 hb.lt;have G1 := nG b1 (some g);have hgn : w.heap.size ≠ g := ak;obtain ⟨gy, hgy⟩ : ∃ gy, gy = w.heap.size := eE;rw [<- hgy] at e1 hgn ⊢;replace hgy : w.heap.size <= gy := ak;generalize hd0 : s.drop a = d0 at *;have HD := Hh hd0;clear hd0;have HM := Hh hm;clear hm;go_wp2_with fail;refine (wH gy d0 false w1 e1 HM.out).mono ?_;rintro _ w2 ⟨n1, d1, s1, rfl, x1, m1, e2, g2⟩;have B2 := B1.grown g2 bn;have G2 := ns G1 g2 (.inr (fun k hk => by injection hk with hk; omega));clear e1 b1 B1 G1 g2;go_wp2_with fail;refine (wH gy d1 s1 w2 e2 m1.out).mono ?_;rintro _ w3 ⟨n2, d2, s2, rfl, x2, m2, e3, g3⟩;have B3 := B2.grown g3 bn;have G3 := ns G2 g3 (.inr (fun k hk => by injection hk with hk; omega));clear e2 B2 G2 g3;go_wp2_with fail;refine (wH gy d2 s2 w3 e3 m2.out).mono ?_;rintro _ w4 ⟨n3, d3, s3, rfl, x3, m3, e4, g4⟩;have B4 := B3.grown g4 bn;have G4 := ns G3 g4 (.inr (fun k hk => by injection hk with hk; omega));clear e3 B3 G3 g4;obtain rfl : s3 = true := by rw [x3.out.hs, x2.out.hd, x2.out.hs, x1.out.hd, x1.out.hs]; exact E.out
 clear E x1 x2 x3;go_wp2_with (refine nh (.store 3 (.tmp 22) (.tmp 16)) rfl (af rfl g 24 _ B4 ak pM ?_));intro w5 B5 g5 _;have E5 := e4.grown g5 bp;have G5 := ns G4 g5 (.inl rfl);clear B4 G4 g5 e4;go_wp2_with (refine nh (.store 3 (.tmp 24) (.tmp 18)) rfl (af rfl g 25 _ B5 br pM ?_));intro w6 B6 g6 _;have E6 := E5.grown g6 bp;have G6 := ns G5 g6 (.inl rfl);clear B5 G5 g6 E5;go_wp2_with (refine nh (.store 3 (.tmp 26) (.tmp 20)) rfl (af rfl g 26 _ B6 br pM ?_));intro w7 B7 g7 _;have E7 := E6.grown g7 bp;have G7 := ns G6 g7 (.inl rfl);clear B6 G6 g7 E6;go_wp2_with fail;refine (xC gy d3 true w7 E7).mono ?_;rintro _ w8 ⟨rfl, rfl⟩;simp only [if_true];go_wp2_with fail;go_ret;exact ⟨rfl, G7⟩
set_option maxHeartbeats 1000000 in
theorem GV (g : Nat) (L : List Value) (s : List UInt8) (a : Nat) (w : World) (hb : nj w g 119 L) (hl : L.length = 33) (ha : a <= s.length) (hn : a + 6 <= s.length) (hs0 : s.length <= 4000000) :
  Calls prog 258 #[.pointer (some ⟨g, 0, none⟩), .string (bs s), .int .i64 a] w (fun e w' => ∃ w1, w.grownBy w1 (some g) /\ TV g (MF L (oE ((s.drop a).take 2)) (oE (((s.drop a).drop 2).take 2)) (oE (((s.drop a).drop 4).take 2))) (qP s (a + 6)) w1 e w') := by
 have E := Hh (Pu (s.drop a) al);have hdl : ((s.drop a).drop 6).length = s.length - (a + 6) := by rw [List.drop_drop, List.length_drop]
 have hgl := hb.lt;have ha' : (a : Int) <= s.length := ak;have hm : (s.drop a).length <= maxLen := iH;have hs := Hh hs0;clear hs0;go_enter func258, ntmps258;go_wp2_with fail;refine (tF (s.drop a) w).mono ?_;rintro _ w1 ⟨rfl, e1, b1⟩;have B1 := hb.below b1 hb.lt;have G1 := nG b1 (some g);have hgn : w.heap.size ≠ g := ak;obtain ⟨gy, hgy⟩ : ∃ gy, gy = w.heap.size := eE;rw [<- hgy] at e1 hgn ⊢;replace hgy : w.heap.size <= gy := ak;generalize hd0 : s.drop a = d0 at *;have HD := Hh hd0;clear hd0;have HM := Hh hm;clear hm;go_wp2_with fail;refine (wH gy d0 false w1 e1 HM.out).mono ?_;rintro _ w2 ⟨n1, d1, s1, rfl, x1, m1, e2, g2⟩;have B2 := B1.grown g2 bn;have G2 := ns G1 g2 (.inr (fun k hk => by injection hk with hk; omega));clear e1 b1 B1 G1 g2;go_wp2_with fail;refine (wH gy d1 s1 w2 e2 m1.out).mono ?_;rintro _ w3 ⟨n2, d2, s2, rfl, x2, m2, e3, g3⟩;have B3 := B2.grown g3 bn;have G3 := ns G2 g3 (.inr (fun k hk => by injection hk with hk; omega));clear e2 B2 G2 g3;go_wp2_with fail;refine (wH gy d2 s2 w3 e3 m2.out).mono ?_;rintro _ w4 ⟨n3, d3, s3, rfl, x3, m3, e4, g4⟩;have B4 := B3.grown g4 bn;have G4 := ns G3 g4 (.inr (fun k hk => by injection hk with hk; omega));clear e3 B3 G3 g4;obtain ⟨h1, h2, h3, h4, h5, h6, h7, h8, h9⟩ := E.out;obtain rfl : s1 = false := by rw [x1.out.hs]; exact h1
 obtain rfl : d1 = d0.drop 2 := by rw [x1.out.hd]; exact h2
 obtain rfl : s2 = false := by rw [x2.out.hs]; exact h4
 obtain rfl : d2 = d0.drop 4 := by rw [x2.out.hd]; exact h5
 obtain rfl : s3 = false := by rw [x3.out.hs]; exact h7
 have hd3 : d3 = d0.drop 6 := by rw [x3.out.hd]; exact h8
 have q1 := x1.out.hn;have q2 := x2.out.hn;have q3 := x3.out.hn;rw [h3] at q1;rw [h6] at q2;rw [h9] at q3;rw [<- hd3] at hdl;have Q1 := Hh q1;have Q2 := Hh q2;have Q3 := Hh q3;clear E x1 x2 x3 h1 h2 h3 h4 h5 h6 h7 h8 h9 q1 q2 q3 hd3;go_wp2_with (refine nh (.store 3 (.tmp 22) (.tmp 16)) rfl (af rfl g 24 _ B4 ak pM ?_));intro w5 B5 g5 _;have E5 := e4.grown g5 bp;have G5 := ns G4 g5 (.inl rfl);clear B4 G4 g5 e4;go_wp2_with (refine nh (.store 3 (.tmp 24) (.tmp 18)) rfl (af rfl g 25 _ B5 br pM ?_));intro w6 B6 g6 _;have E6 := E5.grown g6 bp;have G6 := ns G5 g6 (.inl rfl);clear B5 G5 g6 E5;go_wp2_with (refine nh (.store 3 (.tmp 26) (.tmp 20)) rfl (af rfl g 26 _ B6 br pM ?_));intro w7 B7 g7 _;have E7 := E6.grown g7 bp;have G7 := ns G6 g7 (.inl rfl);clear B6 G6 g7 E6;replace B7 : nj w7 g 119 (MF L n1 n2 n3) := B7;have hsl : (MF L n1 n2 n3).length = 33 := by simpa [MF] using hl
 have T := Hh (xc g (MF L n1 n2 n3) s (a + 6) w7 B7 hsl hs.out);have hla : Hid (wrap64 ((s.length : Int) - (d3.length : Int)) = ((a + 6 : Nat) : Int)) := Hh (by have := hs.out; rw [IntWalk.wrap64_in _ ak]; omega);clear hdl;go_wp2_with fail;refine (xC gy d3 false w7 E7).mono ?_;rintro _ w8 ⟨rfl, rfl⟩;go_wp2_with fail;refine (zD gy d3 false w7 E7).mono ?_;rintro _ w8 ⟨rfl, rfl⟩;cases ht : qP s (a + 6) with
 | error x => rw [ht] at T;go_wp2_with fail;rw [hla.out];refine T.out.mono ?_;rintro _ w8 ⟨hx, rfl, hT⟩;go_wp2_with fail;go_ret;refine ⟨w7, G7, ?_⟩;rw [HD.out, <- Q1.out, <- Q2.out, <- Q3.out, ht];exact ⟨hx, rfl, hT⟩
 | ok l => rw [ht] at T;go_wp2_with fail;rw [hla.out];refine T.out.mono ?_;rintro _ w8 ⟨v, rfl, hT⟩;go_wp2_with fail;go_ret;refine ⟨w7, G7, ?_⟩;rw [HD.out, <- Q1.out, <- Q2.out, <- Q3.out, ht];exact ⟨v, rfl, hT⟩
def rV (d : List UInt8) : Nat -> List UInt8 × Bool
 | 0 => (d, false)
 | k + 1 => (rh (rV d k).1 (rV d k).2 4, qV (rV d k).1 (rV d k).2 4)
def CM (d : List UInt8) (k : Nat) : Int := oE (rY (rV d k).1 (rV d k).2 4)
theorem GW (d : List UInt8) : ∀ k, (rV d k).1.length <= d.length
 | 0 => Nat.le_refl _
 | k + 1 => Nat.le_trans (DH _ _ _) (GW d k)
def CO (d : List UInt8) (L : List Value) (k : Nat) : List Value := L.take 27 ++ n7 ((List.range k).map (CM d)) ++ L.drop (27 + k)
theorem GX (d : List UInt8) (L : List Value) (k : Nat) (hl : L.length = 33) (hk : k <= 5) : (CO d L k).length = 33 := by
 simp [CO, n7, hl]; omega
theorem MG (d : List UInt8) (L : List Value) : CO d L 0 = L := by simp [CO, n7]
theorem MH (d : List UInt8) (L : List Value) (k : Nat) (hl : L.length = 33) (hk : k < 5) : (CO d L k).set (27 + k) (.int .i64 (CM d k)) = CO d L (k + 1) := by
 have h1 : (L.take 27).length = 27 := by simp [hl]
 have h2 : (n7 ((List.range k).map (CM d))).length = k := by simp [n7]
 have h3 : L.drop (27 + k) = L[27 + k]'ak :: L.drop (27 + (k + 1)) := by rw [List.drop_eq_getElem_cons ak]; rfl
 unfold CO;rw [List.append_assoc, List.set_append_right (h := by omega), h1, Nat.add_sub_cancel_left, List.set_append_right (h := by omega), h2, Nat.sub_self, h3, List.set_cons_zero];simp [n7, List.range_succ, List.append_assoc]
theorem AR (d : List UInt8) (hd : d.length = 20) : ∀ k, k <= 5 -> rV d k = (d.drop (4 * k), false)
 | 0, _ => rfl
 | k + 1, hk => by
  rw [rV, AR d hd k ak];have h : ¬ (d.drop (4 * k)).length < 4 := al;simp [rh, qV, h, Nat.mul_succ];omega
theorem MI (d : List UInt8) (hd : d.length = 20) (k : Nat) (hk : k < 5) : CM d k = oE ((d.drop (4 * k)).take 4) := by
 unfold CM;rw [AR d hd k ak];have h : ¬ (d.length - 4 * k) < 4 := ak;simp [rY, h]
theorem Pv (d : List UInt8) (hd : d.length = 20) : LY (rV d 5).1 (rV d 5).2 = 0 := by
 rw [AR d hd 5 ak];have : d.drop 20 = [] := List.drop_of_length_le ak;simp [LY, this]
theorem GY (d : List UInt8) : ∀ k, (rV d k).2 = true \/ ((rV d k).2 = false /\ (rV d k).1.length + 4 * k = d.length)
 | 0 => .inr ⟨rfl, by simp [rV]⟩
 | k + 1 => by
  rcases GY d k with h | ⟨h, hl⟩
  ·exact .inl (by simp [rV, qV, h])
  ·
   by_cases h4 : (rV d k).1.length < 4
   ·exact .inl (by simp [rV, qV, h4])
   ·refine .inr ⟨by simp [rV, qV, h, h4], ?_⟩;simp [rV, rh, h, h4]; omega
theorem Su (d : List UInt8) (hd : d.length ≠ 20) : LY (rV d 5).1 (rV d 5).2 ≠ 0 := by
 unfold LY;rcases GY d 5 with h | ⟨h, hl⟩
 ·simp [h]
 ·
  have : (rV d 5).1 ≠ [] := by intro e; rw [e] at hl; simp at hl; omega
  simp [h, this]
theorem MJ (s : List UInt8) (p : Nat) (h : p + 20 = s.length) : (List.range 5).map (CM (s.drop p)) = yA s p := by
 have hd : (s.drop p).length = 20 := al;have e : ∀ k, k < 5 -> CM (s.drop p) k = oE ((s.drop (p + 4 * k)).take 4) := fun k hk => by rw [MI _ hd k hk, List.drop_drop]
 simp only [List.range, List.range.loop, List.map_cons, List.map_nil];rw [e 0 ak, e 1 ak, e 2 ak, e 3 ak, e 4 ak];rfl
def tW (g : Nat) (s : List UInt8) (a : Nat) (w : World) (e : Ending) (w' : World) : Prop :=
 match tE s a with
 | .error x => x ≠ 0 /\ e = .returned (.int .i64 x) /\ w.grownBy w' (some g)
 | .ok (l, p) => match tE s p with
  | .error x => x ≠ 0 /\ e = .returned (.int .i64 x) /\ w.grownBy w' (some g)
  | .ok (l', q) => if q + 20 = s.length then ∃ v v', e = .returned (.int .i64 0) /\ nj w' g 119 (pO nA v v' { RR.zero with tg := l, ml := l', nums := yA s q }) /\ vo w' v l /\ vo w' v' l' /\ w.grownBy w' (some g)
   else e = .returned (.int .i64 5) /\ w.grownBy w' (some g)
theorem ML (v v' : Value) (d : List UInt8) (r : RR) (hr : r = { RR.zero with nums := (List.range 5).map (CM d) }) : ((CO d pr 5).set 22 v).set 23 v' = pO nA v v' r := by subst hr; rfl
set_option maxHeartbeats 4000000 in
theorem JF (g : Nat) (s : List UInt8) (a : Nat) (w : World) (hb : nj w g 119 pr) (ha : a <= s.length) (hs : s.length <= 4000000) :
  Calls prog 259 #[.pointer (some ⟨g, 0, none⟩), .string (bs s), .int .i64 a] w (tW g s a w) := by
 have hgl := hb.lt;have hl : pr.length = 33 := iY;rcases ug s a with ⟨l, p, h1, h2, h3, h4, h5⟩ | ⟨x, h1, h2, h3, h4⟩
 case inr => have N := Hh (AO h1 w hs);have FIN : Hid (∀ w', Below w.heap.size w w' -> tW g s a w (.returned (.int .i64 (if x = 1 then 5 else x))) w') := Hh (fun w' hB => by unfold tW; rw [h2]; exact ⟨h4.ne, rfl, nG hB _⟩);generalize (if x = 1 then 5 else x) = y at *;have hy := h4.nz;clear h1 h2 h3 hb;go_enter func259, ntmps259;go_wp2_with fail;refine N.out.mono ?_;rintro _ w1 ⟨v, rfl, hT, hB⟩;go_wp2_with fail;go_ret;exact FIN.out _ hB
 have N := Hh (AM h1 w hs);rcases ug s p with ⟨l', q, k1, k2, k3, k4, k5⟩ | ⟨x, k1, k2, k3, k4⟩
 case inr => have M := Hh (fun w => AO k1 w hs);have FIN : Hid (∀ w', Below w.heap.size w w' -> tW g s a w (.returned (.int .i64 (if x = 1 then 5 else x))) w') := Hh (fun w' hB => by unfold tW; rw [h2]; simp only; rw [k2]; exact ⟨k4.ne, rfl, nG hB _⟩);generalize (if x = 1 then 5 else x) = y at *;have hy := k4.nz;clear h1 h2 h3 k1 k2 k3 hb;go_enter func259, ntmps259;go_wp2_with fail;refine N.out.mono ?_;rintro _ w1 ⟨v, rfl, hT, hB⟩;go_wp2_with fail;refine (M.out _).mono ?_;rintro _ w2 ⟨v', rfl, hT', hB'⟩;go_wp2_with fail;go_ret;exact FIN.out _ (nc hB hB.size hB')
 have M := Hh (fun w => AM k1 w hs);have FB : Hid (q + 20 ≠ s.length -> ∀ w', w.grownBy w' (some g) -> tW g s a w (.returned (.int .i64 5)) w') := Hh (fun hq w' hB => by unfold tW; rw [h2]; simp only; rw [k2]; simp only; rw [if_neg hq]; exact ⟨trivial, hB⟩);have FG : Hid (q + 20 = s.length -> ∀ w' v v', nj w' g 119 (((CO (s.drop q) pr 5).set 22 v).set 23 v') -> vo w' v l -> vo w' v' l' -> w.grownBy w' (some g) -> tW g s a w (.returned (.int .i64 0)) w') := Hh (fun hq w' v v' hb n1 n2 hB => by
  unfold tW; rw [h2]; simp only; rw [k2]; simp only; rw [if_pos hq];rw [ML v v' _ _ rfl, MJ s q hq] at hb;exact ⟨v, v', trivial, hb, n1, n2, hB⟩)
 have hq' : (q : Int) <= s.length := ak;have hdl : (s.drop q).length <= maxLen := iH;have hdq : (s.drop q).length = 20 ↔ q + 20 = s.length := al;clear h1 h2 h3 k1 k2 k3;go_enter func259, ntmps259;go_wp2_with fail;refine N.out.mono ?_;rintro _ w1 ⟨v, rfl, hT, hB⟩;have B1 := hb.below hB hgl;have X1 := vo.mk' hT h4 h5;obtain ⟨A, c, hv, -⟩ := X1.form;clear N hT;go_wp2_with fail;refine (M.out _).mono ?_;rintro _ w2 ⟨v', rfl, hT', hB'⟩;have B2 := B1.below hB' B1.lt;have X2 := vo.mk' hT' k4 k5;replace X1 := X1.stays (nQ.below hB');have HB2 := nc hB hB.size hB';obtain ⟨A', c', hv', -⟩ := X2.form;subst hv;subst hv';clear M hT' hB hB' B1;go_wp2_with fail;refine (tF (s.drop q) w2).mono ?_;rintro _ w3 ⟨rfl, e3, b3⟩;have B3 := B2.below b3 B2.lt;replace X1 := X1.stays (nQ.below b3);replace X2 := X2.stays (nQ.below b3);have G3 : w.grownBy w3 (some g) := nG (nc HB2 HB2.size b3) _;have hgy : w.heap.size <= w2.heap.size := HB2.size;have hgn : w2.heap.size ≠ g := ak;generalize w2.heap.size = gy at *;generalize s.drop q = d at *;clear B2 HB2 b3;go_wp2_with fail;go_loopw [36] (fun iv wr => ∃ k : Nat, k <= 5 /\ iv = .int .i64 k /\ sD wr gy (rV d k).1 (rV d k).2 /\ nj wr g 119 (CO d pr k) /\ w.grownBy wr (some g) /\ nQ w3 wr) (fun iv _ => 5 - (intOf iv).toNat)
 case atStart => exact ⟨0, ak, rfl, e3, by rw [MG]; exact B3, G3, nQ.refl _⟩
 clear e3 B3 G3;obtain ⟨k, hk, rfl, Er, Br, Gr, Sr⟩ := hrel;by_cases hlt : k < 5
 case pos =>
  have hlt' : (k : Int) < 5 := ak;have hk0 : (0 : Int) <= k := ak;have NN := Hh (fun w' (h : sD w' gy (rV d k).1 (rV d k).2) => zf gy _ _ 4 w' h (Nat.le_trans (GW d k) hdl));rw [show ((hw 4 : Nat) : Int) = 4 from rfl] at NN;have SL := Hh (MH d pr k hl hlt);have Sl := GX d pr k hl hk;change Hid (∀ w', _ -> Calls prog _ _ w' (zC (.int .i64 (CM d k)) gy (rV d (k + 1)).1 (rV d (k + 1)).2 w')) at NN;generalize CM d k = nk at *;go_wp2_with fail;refine wp_region_held_drew (S := fun _ => True) (by kernel_rfl) trivial (fun hS => ?_)
  (refine nF 0 (some 39) rfl rfl (by kernel_rfl) (by kernel_rfl) (by kernel_rfl) (fun _ _ _ h => h) (by kernel_rfl) (fun W hW => rfl) hS ?_; simp only [Act.put, nB, nC, nD])
  (refine nF 1 (some 40) rfl rfl (by kernel_rfl) (by kernel_rfl) (by kernel_rfl) (fun _ _ _ h => h) (by kernel_rfl) (fun W hW => rfl) hS ?_; simp only [Act.put, nB, nC, nD])
  (refine nF 2 (some 41) rfl rfl (by kernel_rfl) (by kernel_rfl) (by kernel_rfl) (fun _ _ _ h => h) (by kernel_rfl) (fun W hW => rfl) hS ?_; simp only [Act.put, nB, nC, nD])
  (refine nF 4 (some 43) rfl rfl (by kernel_rfl) (by kernel_rfl) (by kernel_rfl) (fun _ _ _ h => h) (by kernel_rfl) (fun W hW => rfl) hS ?_; simp only [Act.put, nB, nC, nD])
  (refine nF 5 (some 44) rfl rfl (by kernel_rfl) (by kernel_rfl) (by kernel_rfl) (fun _ _ _ h => h) (by kernel_rfl) (fun W hW => rfl) hS ?_; simp only [Act.put, nB, nC, nD])
  refine nJ 3 (by kernel_rfl) ?_;refine ot 3 (some 42) 177 #[.pointer (some ⟨gy, 0, none⟩), .int .i64 4] rfl rfl (by kernel_rfl) aS (NN.out _ Er.drew) ?_;rintro _ w4 ⟨rfl, e4, g4⟩;have B4 := (Br.drew).grown g4 bn;have G4 := ns (qK Gr) g4 (.inr (fun j hj => by injection hj with hj; omega));have S4 : nQ w3 w4 := Sr.trans ((nQ.below (Below.refl _ _).drew).trans (nQ.oL g4 Er.drew aj));refine ⟨_, rfl, trivial, ?_⟩;simp only [Act.put, nB, nC, nD];refine nF 6 (some 45) (v := .pointer (some ⟨g, 27 + k, none⟩)) rfl rfl (by kernel_rfl) (by kernel_rfl) (by kernel_rfl) (fun _ _ _ h => h) (by kernel_rfl) (fun W hW => by go_simp) hS ?_;simp only [Act.put, nB, nC, nD];refine nJ 7 (by kernel_rfl) ?_;refine ri 7 3 (.tmp 45) (.tmp 42) rfl rfl rfl (by kernel_rfl) g (27 + k) rfl (.int .i64 nk) rfl B4 ak pM rfl rfl ?_;intro w5 B5 g5 _;rw [SL.out] at B5;have E5 := e4.grown g5 bp;have G5 := ns G4 g5 (.inl rfl);have S5 := S4.trans (nQ.oL g5 B4 aj);refine ⟨trivial, ?_⟩;simp only [Act.put, nB, nC, nD];refine wpAnyH_done (by kernel_rfl) ?_ _;clear hS B4 G4 S4 e4 g4 g5 NN SL Sl Er Br Gr Sr;go_wp2_with fail;go_roundw
  case rel => exact ⟨k + 1, ak, eh, E5, B5, G5, S5⟩
  case measure => simp [intOf]; omega
 obtain rfl : k = 5 := ak;replace X1 := X1.stays Sr;replace X2 := X2.stays Sr;clear hlt hk Sr;have EN := Hh (RI gy _ _ wr Er);by_cases hq : q + 20 = s.length
 ·rw [Pv d (hdq.2 hq)] at EN;have Sl := GX d pr 5 hl ak;go_wp2_with fail;refine EN.out.mono ?_;rintro _ w6 ⟨rfl, rfl⟩;go_wp2_with (refine nh (.store 26 (.tmp 55) (.tmp 52)) rfl (af rfl g 22 _ Br ak rZ ?_));intro w7 B7 g7 _;have Y1 := X1.stays (nQ.oL g7 Br aj);have Y2 := X2.stays (nQ.oL g7 Br aj);have G7 := ns Gr g7 (.inl rfl);go_wp2_with (refine nh (.store 26 (.tmp 57) (.tmp 53)) rfl (af rfl g 23 _ B7 br rZ ?_));intro w8 B8 g8 _;have Z1 := Y1.stays (nQ.oL g8 B7 aj);have Z2 := Y2.stays (nQ.oL g8 B7 aj);have G8 := ns G7 g8 (.inl rfl);go_wp2_with fail;go_ret;exact FG.out hq _ _ _ B8 Z1 Z2 G8
 ·
  have hne := Su d (fun h => hq (hdq.1 h));generalize LY (rV d 5).1 (rV d 5).2 = ev at *;have hev : (ev != 0) = true := by simpa using hne
  go_wp2_with fail;refine EN.out.mono ?_;rintro _ w6 ⟨rfl, rfl⟩;go_wp2_with fail;go_ret;exact FB.out hq _ Gr
def GZ (o : Except Int RR) (w : World) (e : Ending) (w' : World) : Prop :=
 match o with
 | .error x => x ≠ 0 /\ e = .returned (.tuple #[.agg pr.toArray, .int .i64 x]) /\ Below w.heap.size w w'
 | .ok r => ∃ cs, e = .returned (.tuple #[.agg cs.toArray, .int .i64 0]) /\ rj w' cs r /\ Below w.heap.size w w'
theorem KL : pr.toArray = #[.slice none 0 0, .int .i64 0, .int .i64 0, .int .i64 0, .int .i64 0, .int .u8 0, .int .u8 0, .int .u8 0, .int .u8 0, .int .u8 0, .int .u8 0, .int .u8 0, .int .u8 0, .int .u8 0, .int .u8 0, .int .u8 0, .int .u8 0, .int .u8 0, .int .u8 0, .int .u8 0, .int .u8 0, .int .i64 0, .slice none 0 0, .slice none 0 0, .int .i64 0, .int .i64 0, .int .i64 0, .int .i64 0, .int .i64 0, .int .i64 0, .int .i64 0, .int .i64 0, .string ⟨#[]⟩] := rfl
theorem xU : ∀ v ∈ pr, v.oneCell' = true := qg rfl rfl rfl
theorem Ha {L : List Value} {r : RR} {vn vt vm : Value} (e : L = pO vn vt vm r) (h : r.wf) : L.length = 33 := by rw [e]; exact pn h
set_option maxHeartbeats 1000000 in
theorem Pw (m : List UInt8) (a n : Nat) (ty cl : Int) (w : World) (hm : a + n <= m.length) (hl : m.length <= 4000000) (hk : nX ty cl = 0) :
  Calls prog 251 #[.string (bs m), .int .i64 a, .int .i64 n, .int .i64 ty, .int .i64 cl] w (GZ (.ok { RR.zero with raw := (m.take (a + n)).drop a }) w) := by
 have K := Hh (fun w => oN ty cl w);rw [hk] at K;clear hk;have k1 : (0 : Int) <= a := ak;have k2 : (0 : Int) <= n := ak;have k3 : (a : Int) <= m.length := ak;have k4 : (n : Int) <= (m.length : Int) - a := ak;have k5 : (a : Int) + n <= m.length := ak;have hs0 : ((a : Int) + n).toNat = a + n := ak;obtain ⟨z1, hz1⟩ : ∃ z1, z1 = w.alloc (.cells pr.toArray 119) := eE;obtain ⟨W, hW⟩ : ∃ W, W = z1.alloc (.cells pr.toArray 119) := eE;have B10 : nj W w.heap.size 119 pr := eH;have B12 : nj W (w.heap.size + 1) 119 pr := eI;have HB : Below w.heap.size w W := eF;have HW : Hid ((w.alloc (.cells #[.slice none 0 0, .int .i64 0, .int .i64 0, .int .i64 0, .int .i64 0, .int .u8 0, .int .u8 0, .int .u8 0, .int .u8 0, .int .u8 0, .int .u8 0, .int .u8 0, .int .u8 0, .int .u8 0, .int .u8 0, .int .u8 0, .int .u8 0, .int .u8 0, .int .u8 0, .int .u8 0, .int .u8 0, .int .i64 0, .slice none 0 0, .slice none 0 0, .int .i64 0, .int .i64 0, .int .i64 0, .int .i64 0, .int .i64 0, .int .i64 0, .int .i64 0, .int .i64 0, .string ⟨#[]⟩] 119)).alloc (.cells #[.slice none 0 0, .int .i64 0, .int .i64 0, .int .i64 0, .int .i64 0, .int .u8 0, .int .u8 0, .int .u8 0, .int .u8 0, .int .u8 0, .int .u8 0, .int .u8 0, .int .u8 0, .int .u8 0, .int .u8 0, .int .u8 0, .int .u8 0, .int .u8 0, .int .u8 0, .int .u8 0, .int .u8 0, .int .i64 0, .slice none 0 0, .slice none 0 0, .int .i64 0, .int .i64 0, .int .i64 0, .int .i64 0, .int .i64 0, .int .i64 0, .int .i64 0, .int .i64 0, .string ⟨#[]⟩] 119) = W) := Hh bu;have hWs : W.heap.size = w.heap.size + 1 + 1 := eV;clear hW hz1;go_enter func251, ntmps251;go_wp2_with fail;rw [HW.out];refine (K.out W).mono ?_;rintro _ w1 ⟨rfl, rfl⟩;clear K HW;have hl33 : pr.length = 33 := iY;go_wp2_with (refine nh (.store 9 (.tmp 46) (.tmp 45)) rfl (af rfl (w.heap.size + 1) 32 _ B12 ak Om ?_));intro w2 B2 g2 _;have A2 := B10.grown g2 ag;have HB2 := ng HB g2 HB.size ak;rw [List.take_take, Nat.min_self] at B2;clear B12 B10 HB g2;obtain ⟨L, hL⟩ : ∃ L, L = pr.set 32 (.string (bs ((m.take (a + n)).drop a))) := eE;rw [<- hL] at B2;replace hL : L = pO nA nA nA { RR.zero with raw := (m.take (a + n)).drop a } := hL;have ll : L.length = 33 := Ha hL ⟨rfl, rfl⟩;have l1 : Hid (∀ v ∈ L, v.oneCell' = true) := Hh bw;have OW : Hid (∀ w', nQ w2 w' -> rj w' L { RR.zero with raw := (m.take (a + n)).drop a }) := Hh (fun w' _ => ⟨nA, nA, nA, hL, ⟨rfl, rfl⟩, vo.nil _, vo.nil _, vo.nil _, al⟩);clear hL;exact jD
set_option maxHeartbeats 1000000 in
theorem Hb (k : Nat) (fam : Int) (hkf : (k = 1 /\ fam = 4) \/ (k = 28 /\ fam = 6)) (m : List UInt8) (a n : Nat) (ty cl : Int) (w : World) (hm : a + n <= m.length) (hl : m.length <= 4000000) (hk : nX ty cl = k) (hn : n = if k = 1 then 4 else 16) :
  Calls prog 251 #[.string (bs m), .int .i64 a, .int .i64 n, .int .i64 ty, .int .i64 cl] w (GZ (.ok (Gd fam ((m.take (a + n)).drop a))) w) := by
 have K := Hh (fun w => oN ty cl w);rw [hk] at K;clear hk;have hd : ((m.take (a + n)).drop a).length = n := al;have hd' : ((m.take (a + n)).drop a).length = 4 \/ ((m.take (a + n)).drop a).length = 16 := by rw [hd, hn]; split <;> simp
 have GA := Hh (fun g w hb => JE g ((m.take (a + n)).drop a) fam w hb hd');rw [hd] at GA;have hwf : (Gd fam ((m.take (a + n)).drop a)).wf := ⟨by simp only [Gd, List.length_append, List.length_replicate]; omega, rfl⟩;obtain ⟨L, hL⟩ : ∃ L, L = pO nA nA nA (Gd fam ((m.take (a + n)).drop a)) := eE;rw [<- hL] at GA;have ll : L.length = 33 := iF;have l1 : Hid (∀ v ∈ L, v.oneCell' = true) := Hh bw;have OW' : Hid (∀ w', rj w' L (Gd fam ((m.take (a + n)).drop a))) := Hh (fun w' => ⟨nA, nA, nA, hL, hwf, vo.nil _, vo.nil _, vo.nil _, by simp [Gd, RR.zero]⟩);generalize Gd fam ((m.take (a + n)).drop a) = r at *;have hl33 : pr.length = 33 := iY;clear hL hd hd' hwf;rcases hkf with ⟨rfl, rfl⟩ | ⟨rfl, rfl⟩
 case inl =>
  have hn4 : ((n : Nat) : Int) = 4 := by rw [hn]; rfl
  rw [hn4] at GA;clear hn4 hn;have k1 : (0 : Int) <= a := ak;have k2 : (0 : Int) <= n := ak;have k3 : (a : Int) <= m.length := ak;have k4 : (n : Int) <= (m.length : Int) - a := ak;have k5 : (a : Int) + n <= m.length := ak;have hs0 : ((a : Int) + n).toNat = a + n := ak;obtain ⟨z1, hz1⟩ : ∃ z1, z1 = w.alloc (.cells pr.toArray 119) := eE;obtain ⟨W, hW⟩ : ∃ W, W = z1.alloc (.cells pr.toArray 119) := eE;have B10 : nj W w.heap.size 119 pr := eH;have B12 : nj W (w.heap.size + 1) 119 pr := eI;have HB : Below w.heap.size w W := eF;have HW : Hid ((w.alloc (.cells #[.slice none 0 0, .int .i64 0, .int .i64 0, .int .i64 0, .int .i64 0, .int .u8 0, .int .u8 0, .int .u8 0, .int .u8 0, .int .u8 0, .int .u8 0, .int .u8 0, .int .u8 0, .int .u8 0, .int .u8 0, .int .u8 0, .int .u8 0, .int .u8 0, .int .u8 0, .int .u8 0, .int .u8 0, .int .i64 0, .slice none 0 0, .slice none 0 0, .int .i64 0, .int .i64 0, .int .i64 0, .int .i64 0, .int .i64 0, .int .i64 0, .int .i64 0, .int .i64 0, .string ⟨#[]⟩] 119)).alloc (.cells #[.slice none 0 0, .int .i64 0, .int .i64 0, .int .i64 0, .int .i64 0, .int .u8 0, .int .u8 0, .int .u8 0, .int .u8 0, .int .u8 0, .int .u8 0, .int .u8 0, .int .u8 0, .int .u8 0, .int .u8 0, .int .u8 0, .int .u8 0, .int .u8 0, .int .u8 0, .int .u8 0, .int .u8 0, .int .i64 0, .slice none 0 0, .slice none 0 0, .int .i64 0, .int .i64 0, .int .i64 0, .int .i64 0, .int .i64 0, .int .i64 0, .int .i64 0, .int .i64 0, .string ⟨#[]⟩] 119) = W) := Hh bu;have hWs : W.heap.size = w.heap.size + 1 + 1 := eV;clear hW hz1;go_enter func251, ntmps251;go_wp2_with fail;rw [HW.out];refine (K.out W).mono ?_;rintro _ w1 ⟨rfl, rfl⟩;clear K HW;go_wp2_with fail;rw [List.take_take, Nat.min_self];refine (GA.out (w.heap.size + 1) W B12).mono ?_;rintro _ w2 ⟨rfl, B2, g2⟩;have A2 := B10.grown g2 ag;have HB2 := ng HB g2 HB.size ak;have OW : Hid (∀ w', nQ w2 w' -> rj w' L r) := Hh (fun w' _ => OW'.out w');clear B12 B10 HB g2 GA OW';exact jD
 case inr =>
  have hn4 : ((n : Nat) : Int) = 16 := by rw [hn]; rfl
  rw [hn4] at GA;clear hn4 hn;have k1 : (0 : Int) <= a := ak;have k2 : (0 : Int) <= n := ak;have k3 : (a : Int) <= m.length := ak;have k4 : (n : Int) <= (m.length : Int) - a := ak;have k5 : (a : Int) + n <= m.length := ak;have hs0 : ((a : Int) + n).toNat = a + n := ak;obtain ⟨z1, hz1⟩ : ∃ z1, z1 = w.alloc (.cells pr.toArray 119) := eE;obtain ⟨W, hW⟩ : ∃ W, W = z1.alloc (.cells pr.toArray 119) := eE;have B10 : nj W w.heap.size 119 pr := eH;have B12 : nj W (w.heap.size + 1) 119 pr := eI;have HB : Below w.heap.size w W := eF;have HW : Hid ((w.alloc (.cells #[.slice none 0 0, .int .i64 0, .int .i64 0, .int .i64 0, .int .i64 0, .int .u8 0, .int .u8 0, .int .u8 0, .int .u8 0, .int .u8 0, .int .u8 0, .int .u8 0, .int .u8 0, .int .u8 0, .int .u8 0, .int .u8 0, .int .u8 0, .int .u8 0, .int .u8 0, .int .u8 0, .int .u8 0, .int .i64 0, .slice none 0 0, .slice none 0 0, .int .i64 0, .int .i64 0, .int .i64 0, .int .i64 0, .int .i64 0, .int .i64 0, .int .i64 0, .int .i64 0, .string ⟨#[]⟩] 119)).alloc (.cells #[.slice none 0 0, .int .i64 0, .int .i64 0, .int .i64 0, .int .i64 0, .int .u8 0, .int .u8 0, .int .u8 0, .int .u8 0, .int .u8 0, .int .u8 0, .int .u8 0, .int .u8 0, .int .u8 0, .int .u8 0, .int .u8 0, .int .u8 0, .int .u8 0, .int .u8 0, .int .u8 0, .int .u8 0, .int .i64 0, .slice none 0 0, .slice none 0 0, .int .i64 0, .int .i64 0, .int .i64 0, .int .i64 0, .int .i64 0, .int .i64 0, .int .i64 0, .int .i64 0, .string ⟨#[]⟩] 119) = W) := Hh bu;have hWs : W.heap.size = w.heap.size + 1 + 1 := eV;clear hW hz1;go_enter func251, ntmps251;go_wp2_with fail;rw [HW.out];refine (K.out W).mono ?_;rintro _ w1 ⟨rfl, rfl⟩;clear K HW;go_wp2_with fail;rw [List.take_take, Nat.min_self];refine (GA.out (w.heap.size + 1) W B12).mono ?_;rintro _ w2 ⟨rfl, B2, g2⟩;have A2 := B10.grown g2 ag;have HB2 := ng HB g2 HB.size ak;have OW : Hid (∀ w', nQ w2 w' -> rj w' L r) := Hh (fun w' _ => OW'.out w');clear B12 B10 HB g2 GA OW';exact jD
def EX {α β : Type} (f : α -> β) (o : Except Int α) : Except Int β := match o with
 | .error e => .error e
 | .ok x => .ok (f x)
set_option maxHeartbeats 1000000 in
theorem yU (k : Nat) (hkf : k = 1 \/ k = 28) (m : List UInt8) (a n : Nat) (ty cl : Int) (w : World) (hm : a + n <= m.length) (hl : m.length <= 4000000) (hk : nX ty cl = k) (hn : n ≠ if k = 1 then 4 else 16) :
  Calls prog 251 #[.string (bs m), .int .i64 a, .int .i64 n, .int .i64 ty, .int .i64 cl] w (GZ (.error 5) w) := by
 have K := Hh (fun w => oN ty cl w);rw [hk] at K;clear hk;have hd : ((m.take (a + n)).drop a).length = n := al;have hl33 : pr.length = 33 := iY;have hx : (5 : Int) ≠ 0 := aj;rcases hkf with rfl | rfl
 case inl => have GA := Hh (fun g w => AQ g ((m.take (a + n)).drop a) 4 4 w bz);exact jH
 case inr => have GA := Hh (fun g w => AQ g ((m.take (a + n)).drop a) 16 6 w bz);exact jH
set_option maxHeartbeats 1000000 in
theorem DI (k : Nat) (hkf : k = 5 \/ k = 12) (m : List UInt8) (a n : Nat) (ty cl : Int) (w : World) (hm : a + n <= m.length) (hl : m.length <= 4000000) (hk : nX ty cl = k) (o : Except Int (List (List UInt8))) (ho : qP (m.take (a + n)) a = o) :
  Calls prog 251 #[.string (bs m), .int .i64 a, .int .i64 n, .int .i64 ty, .int .i64 cl] w (GZ (EX (fun l => { RR.zero with tg := l }) o) w) := by
 have K := Hh (fun w => oN ty cl w);rw [hk] at K;clear hk;have hl33 : pr.length = 33 := iY;have TG := Hh (fun g w hb => xc g pr (m.take (a + n)) a w hb hl33 al);rw [ho] at TG;clear ho;cases o with
 | error x =>
  simp only [EX];rcases hkf with rfl | rfl
  case inl => exact jG
  case inr => exact jG
 | ok l =>
  simp only [EX];obtain ⟨r, hr⟩ : ∃ r : RR, r = { RR.zero with tg := l } := eE;rw [<- hr];rcases hkf with rfl | rfl
  case inl => have k1 : (0 : Int) <= a := ak;have k2 : (0 : Int) <= n := ak;have k3 : (a : Int) <= m.length := ak;have k4 : (n : Int) <= (m.length : Int) - a := ak;have k5 : (a : Int) + n <= m.length := ak;have hs0 : ((a : Int) + n).toNat = a + n := ak;obtain ⟨z1, hz1⟩ : ∃ z1, z1 = w.alloc (.cells pr.toArray 119) := eE;obtain ⟨W, hW⟩ : ∃ W, W = z1.alloc (.cells pr.toArray 119) := eE;have B10 : nj W w.heap.size 119 pr := eH;have B12 : nj W (w.heap.size + 1) 119 pr := eI;have HB : Below w.heap.size w W := eF;have HW : Hid ((w.alloc (.cells #[.slice none 0 0, .int .i64 0, .int .i64 0, .int .i64 0, .int .i64 0, .int .u8 0, .int .u8 0, .int .u8 0, .int .u8 0, .int .u8 0, .int .u8 0, .int .u8 0, .int .u8 0, .int .u8 0, .int .u8 0, .int .u8 0, .int .u8 0, .int .u8 0, .int .u8 0, .int .u8 0, .int .u8 0, .int .i64 0, .slice none 0 0, .slice none 0 0, .int .i64 0, .int .i64 0, .int .i64 0, .int .i64 0, .int .i64 0, .int .i64 0, .int .i64 0, .int .i64 0, .string ⟨#[]⟩] 119)).alloc (.cells #[.slice none 0 0, .int .i64 0, .int .i64 0, .int .i64 0, .int .i64 0, .int .u8 0, .int .u8 0, .int .u8 0, .int .u8 0, .int .u8 0, .int .u8 0, .int .u8 0, .int .u8 0, .int .u8 0, .int .u8 0, .int .u8 0, .int .u8 0, .int .u8 0, .int .u8 0, .int .u8 0, .int .u8 0, .int .i64 0, .slice none 0 0, .slice none 0 0, .int .i64 0, .int .i64 0, .int .i64 0, .int .i64 0, .int .i64 0, .int .i64 0, .int .i64 0, .int .i64 0, .string ⟨#[]⟩] 119) = W) := Hh bu;have hWs : W.heap.size = w.heap.size + 1 + 1 := eV;clear hW hz1;go_enter func251, ntmps251;go_wp2_with fail;rw [HW.out];refine (K.out W).mono ?_;rintro _ w1 ⟨rfl, rfl⟩;clear K HW;go_wp2_with fail;refine (TG.out (w.heap.size + 1) W B12).mono ?_;rintro _ w2 ⟨v, rfl, B2, nv, g2⟩;have A2 := B10.grown g2 ag;have HB2 := ng HB g2 HB.size ak;obtain ⟨L, hL⟩ : ∃ L, L = pr.set 22 v := eE;rw [<- hL] at B2;replace hL : L = pO nA v nA r := je;have hwf : r.wf := gP;have ll : L.length = 33 := iF;have l1 : Hid (∀ v ∈ L, v.oneCell' = true) := Hh bC;have OW : Hid (∀ w', nQ w2 w' -> rj w' L r) := eS;clear hL B12 B10 HB g2 TG nv hr hwf;exact jD
  case inr => have k1 : (0 : Int) <= a := ak;have k2 : (0 : Int) <= n := ak;have k3 : (a : Int) <= m.length := ak;have k4 : (n : Int) <= (m.length : Int) - a := ak;have k5 : (a : Int) + n <= m.length := ak;have hs0 : ((a : Int) + n).toNat = a + n := ak;obtain ⟨z1, hz1⟩ : ∃ z1, z1 = w.alloc (.cells pr.toArray 119) := eE;obtain ⟨W, hW⟩ : ∃ W, W = z1.alloc (.cells pr.toArray 119) := eE;have B10 : nj W w.heap.size 119 pr := eH;have B12 : nj W (w.heap.size + 1) 119 pr := eI;have HB : Below w.heap.size w W := eF;have HW : Hid ((w.alloc (.cells #[.slice none 0 0, .int .i64 0, .int .i64 0, .int .i64 0, .int .i64 0, .int .u8 0, .int .u8 0, .int .u8 0, .int .u8 0, .int .u8 0, .int .u8 0, .int .u8 0, .int .u8 0, .int .u8 0, .int .u8 0, .int .u8 0, .int .u8 0, .int .u8 0, .int .u8 0, .int .u8 0, .int .u8 0, .int .i64 0, .slice none 0 0, .slice none 0 0, .int .i64 0, .int .i64 0, .int .i64 0, .int .i64 0, .int .i64 0, .int .i64 0, .int .i64 0, .int .i64 0, .string ⟨#[]⟩] 119)).alloc (.cells #[.slice none 0 0, .int .i64 0, .int .i64 0, .int .i64 0, .int .i64 0, .int .u8 0, .int .u8 0, .int .u8 0, .int .u8 0, .int .u8 0, .int .u8 0, .int .u8 0, .int .u8 0, .int .u8 0, .int .u8 0, .int .u8 0, .int .u8 0, .int .u8 0, .int .u8 0, .int .u8 0, .int .u8 0, .int .i64 0, .slice none 0 0, .slice none 0 0, .int .i64 0, .int .i64 0, .int .i64 0, .int .i64 0, .int .i64 0, .int .i64 0, .int .i64 0, .int .i64 0, .string ⟨#[]⟩] 119) = W) := Hh bu;have hWs : W.heap.size = w.heap.size + 1 + 1 := eV;clear hW hz1;go_enter func251, ntmps251;go_wp2_with fail;rw [HW.out];refine (K.out W).mono ?_;rintro _ w1 ⟨rfl, rfl⟩;clear K HW;go_wp2_with fail;refine (TG.out (w.heap.size + 1) W B12).mono ?_;rintro _ w2 ⟨v, rfl, B2, nv, g2⟩;have A2 := B10.grown g2 ag;have HB2 := ng HB g2 HB.size ak;obtain ⟨L, hL⟩ : ∃ L, L = pr.set 22 v := eE;rw [<- hL] at B2;replace hL : L = pO nA v nA r := je;have hwf : r.wf := gP;have ll : L.length = 33 := iF;have l1 : Hid (∀ v ∈ L, v.oneCell' = true) := Hh bC;have OW : Hid (∀ w', nQ w2 w' -> rj w' L r) := eS;clear hL B12 B10 HB g2 TG nv hr hwf;exact jD
set_option maxHeartbeats 1000000 in
theorem Px (m : List UInt8) (a n : Nat) (ty cl : Int) (w : World) (hm : a + n <= m.length) (hl : m.length <= 4000000) (hk : nX ty cl = 33) (hn : 6 <= n) (o : Except Int (List (List UInt8))) (ho : qP (m.take (a + n)) (a + 6) = o) :
  Calls prog 251 #[.string (bs m), .int .i64 a, .int .i64 n, .int .i64 ty, .int .i64 cl] w (GZ (EX (fun l => { RR.zero with pri := oE (((m.take (a + n)).drop a).take 2), we := oE ((((m.take (a + n)).drop a).drop 2).take 2), po := oE ((((m.take (a + n)).drop a).drop 4).take 2), tg := l }) o) w) := by
 have K := Hh (fun w => oN ty cl w);rw [hk] at K;clear hk;have hl33 : pr.length = 33 := iY;have TG := Hh (fun g w hb => GV g pr (m.take (a + n)) a w hb hl33 al al al);rw [ho] at TG;clear ho;generalize oE (((m.take (a + n)).drop a).take 2) = n1 at *;generalize oE ((((m.take (a + n)).drop a).drop 2).take 2) = n2 at *;generalize oE ((((m.take (a + n)).drop a).drop 4).take 2) = n3 at *;cases o with
 | error x => simp only [EX];have k1 : (0 : Int) <= a := ak;have k2 : (0 : Int) <= n := ak;have k3 : (a : Int) <= m.length := ak;have k4 : (n : Int) <= (m.length : Int) - a := ak;have k5 : (a : Int) + n <= m.length := ak;have hs0 : ((a : Int) + n).toNat = a + n := ak;obtain ⟨z1, hz1⟩ : ∃ z1, z1 = w.alloc (.cells pr.toArray 119) := eE;obtain ⟨W, hW⟩ : ∃ W, W = z1.alloc (.cells pr.toArray 119) := eE;have B10 : nj W w.heap.size 119 pr := eH;have B12 : nj W (w.heap.size + 1) 119 pr := eI;have HB : Below w.heap.size w W := eF;have HW : Hid ((w.alloc (.cells #[.slice none 0 0, .int .i64 0, .int .i64 0, .int .i64 0, .int .i64 0, .int .u8 0, .int .u8 0, .int .u8 0, .int .u8 0, .int .u8 0, .int .u8 0, .int .u8 0, .int .u8 0, .int .u8 0, .int .u8 0, .int .u8 0, .int .u8 0, .int .u8 0, .int .u8 0, .int .u8 0, .int .u8 0, .int .i64 0, .slice none 0 0, .slice none 0 0, .int .i64 0, .int .i64 0, .int .i64 0, .int .i64 0, .int .i64 0, .int .i64 0, .int .i64 0, .int .i64 0, .string ⟨#[]⟩] 119)).alloc (.cells #[.slice none 0 0, .int .i64 0, .int .i64 0, .int .i64 0, .int .i64 0, .int .u8 0, .int .u8 0, .int .u8 0, .int .u8 0, .int .u8 0, .int .u8 0, .int .u8 0, .int .u8 0, .int .u8 0, .int .u8 0, .int .u8 0, .int .u8 0, .int .u8 0, .int .u8 0, .int .u8 0, .int .u8 0, .int .i64 0, .slice none 0 0, .slice none 0 0, .int .i64 0, .int .i64 0, .int .i64 0, .int .i64 0, .int .i64 0, .int .i64 0, .int .i64 0, .int .i64 0, .string ⟨#[]⟩] 119) = W) := Hh bu;have hWs : W.heap.size = w.heap.size + 1 + 1 := eV;clear hW hz1;go_enter func251, ntmps251;go_wp2_with fail;rw [HW.out];refine (K.out W).mono ?_;rintro _ w1 ⟨rfl, rfl⟩;clear K HW;go_wp2_with fail;refine (TG.out (w.heap.size + 1) W B12).mono ?_;rintro _ w2 ⟨wx, gx, hx, rfl, B2, g2'⟩;have g2 := ns gx g2' (.inl rfl);have hxz : (x != 0) = true := fS;have A2 := B10.grown g2 ag;have HB2 := ng HB g2 HB.size ak;clear B12 B10 HB TG g2 gx g2';exact jN
 | ok l => simp only [EX];obtain ⟨r, hr⟩ : ∃ r : RR, r = { RR.zero with pri := n1, we := n2, po := n3, tg := l } := eE;rw [<- hr];have k1 : (0 : Int) <= a := ak;have k2 : (0 : Int) <= n := ak;have k3 : (a : Int) <= m.length := ak;have k4 : (n : Int) <= (m.length : Int) - a := ak;have k5 : (a : Int) + n <= m.length := ak;have hs0 : ((a : Int) + n).toNat = a + n := ak;obtain ⟨z1, hz1⟩ : ∃ z1, z1 = w.alloc (.cells pr.toArray 119) := eE;obtain ⟨W, hW⟩ : ∃ W, W = z1.alloc (.cells pr.toArray 119) := eE;have B10 : nj W w.heap.size 119 pr := eH;have B12 : nj W (w.heap.size + 1) 119 pr := eI;have HB : Below w.heap.size w W := eF;have HW : Hid ((w.alloc (.cells #[.slice none 0 0, .int .i64 0, .int .i64 0, .int .i64 0, .int .i64 0, .int .u8 0, .int .u8 0, .int .u8 0, .int .u8 0, .int .u8 0, .int .u8 0, .int .u8 0, .int .u8 0, .int .u8 0, .int .u8 0, .int .u8 0, .int .u8 0, .int .u8 0, .int .u8 0, .int .u8 0, .int .u8 0, .int .i64 0, .slice none 0 0, .slice none 0 0, .int .i64 0, .int .i64 0, .int .i64 0, .int .i64 0, .int .i64 0, .int .i64 0, .int .i64 0, .int .i64 0, .string ⟨#[]⟩] 119)).alloc (.cells #[.slice none 0 0, .int .i64 0, .int .i64 0, .int .i64 0, .int .i64 0, .int .u8 0, .int .u8 0, .int .u8 0, .int .u8 0, .int .u8 0, .int .u8 0, .int .u8 0, .int .u8 0, .int .u8 0, .int .u8 0, .int .u8 0, .int .u8 0, .int .u8 0, .int .u8 0, .int .u8 0, .int .u8 0, .int .i64 0, .slice none 0 0, .slice none 0 0, .int .i64 0, .int .i64 0, .int .i64 0, .int .i64 0, .int .i64 0, .int .i64 0, .int .i64 0, .int .i64 0, .string ⟨#[]⟩] 119) = W) := Hh bu;have hWs : W.heap.size = w.heap.size + 1 + 1 := eV;clear hW hz1;go_enter func251, ntmps251;go_wp2_with fail;rw [HW.out];refine (K.out W).mono ?_;rintro _ w1 ⟨rfl, rfl⟩;clear K HW;go_wp2_with fail;refine (TG.out (w.heap.size + 1) W B12).mono ?_;rintro _ w2 ⟨wx, gx, v, rfl, B2, nv, g2'⟩;have g2 := ns gx g2' (.inl rfl);have A2 := B10.grown g2 ag;have HB2 := ng HB g2 HB.size ak;obtain ⟨L, hL⟩ : ∃ L, L = (MF pr n1 n2 n3).set 22 v := eE;rw [<- hL] at B2;replace hL : L = pO nA v nA r := je;have hwf : r.wf := gP;have ll : L.length = 33 := iF;have l1 : Hid (∀ v ∈ L, v.oneCell' = true) := Hh bC;have OW : Hid (∀ w', nQ w2 w' -> rj w' L r) := eS;clear hL B12 B10 HB g2 gx g2' TG nv hr;exact jD
set_option maxHeartbeats 1000000 in
theorem Hc (m : List UInt8) (a n : Nat) (ty cl : Int) (w : World) (hm : a + n <= m.length) (hl : m.length <= 4000000) (hk : nX ty cl = 33) (hn : n < 6) :
  Calls prog 251 #[.string (bs m), .int .i64 a, .int .i64 n, .int .i64 ty, .int .i64 cl] w (GZ (.error 5) w) := by
 have K := Hh (fun w => oN ty cl w);rw [hk] at K;clear hk;have hl33 : pr.length = 33 := iY;have TG := Hh (fun g w hb => EV g pr (m.take (a + n)) a w hb hl33 al al al);have hx : (5 : Int) ≠ 0 := aj;clear hn;have k1 : (0 : Int) <= a := ak;have k2 : (0 : Int) <= n := ak;have k3 : (a : Int) <= m.length := ak;have k4 : (n : Int) <= (m.length : Int) - a := ak;have k5 : (a : Int) + n <= m.length := ak;have hs0 : ((a : Int) + n).toNat = a + n := ak;obtain ⟨z1, hz1⟩ : ∃ z1, z1 = w.alloc (.cells pr.toArray 119) := eE;obtain ⟨W, hW⟩ : ∃ W, W = z1.alloc (.cells pr.toArray 119) := eE;have B10 : nj W w.heap.size 119 pr := eH;have B12 : nj W (w.heap.size + 1) 119 pr := eI;have HB : Below w.heap.size w W := eF;have HW : Hid ((w.alloc (.cells #[.slice none 0 0, .int .i64 0, .int .i64 0, .int .i64 0, .int .i64 0, .int .u8 0, .int .u8 0, .int .u8 0, .int .u8 0, .int .u8 0, .int .u8 0, .int .u8 0, .int .u8 0, .int .u8 0, .int .u8 0, .int .u8 0, .int .u8 0, .int .u8 0, .int .u8 0, .int .u8 0, .int .u8 0, .int .i64 0, .slice none 0 0, .slice none 0 0, .int .i64 0, .int .i64 0, .int .i64 0, .int .i64 0, .int .i64 0, .int .i64 0, .int .i64 0, .int .i64 0, .string ⟨#[]⟩] 119)).alloc (.cells #[.slice none 0 0, .int .i64 0, .int .i64 0, .int .i64 0, .int .i64 0, .int .u8 0, .int .u8 0, .int .u8 0, .int .u8 0, .int .u8 0, .int .u8 0, .int .u8 0, .int .u8 0, .int .u8 0, .int .u8 0, .int .u8 0, .int .u8 0, .int .u8 0, .int .u8 0, .int .u8 0, .int .u8 0, .int .i64 0, .slice none 0 0, .slice none 0 0, .int .i64 0, .int .i64 0, .int .i64 0, .int .i64 0, .int .i64 0, .int .i64 0, .int .i64 0, .int .i64 0, .string ⟨#[]⟩] 119) = W) := Hh bu;have hWs : W.heap.size = w.heap.size + 1 + 1 := eV;clear hW hz1;go_enter func251, ntmps251;go_wp2_with fail;rw [HW.out];refine (K.out W).mono ?_;rintro _ w1 ⟨rfl, rfl⟩;clear K HW;go_wp2_with fail;refine (TG.out (w.heap.size + 1) W B12).mono ?_;rintro _ w2 ⟨rfl, g2⟩;have A2 := B10.grown g2 ag;have HB2 := ng HB g2 HB.size ak;clear B12 B10 HB TG g2;go_wp2_with (refine nh (.store 119 (.tmp 10) (.tmp 77)) rfl (ab rfl w.heap.size 0 pr A2 aQ bB xU ?_));intro w3 hb3 hg3 _;rw [List.drop_of_length_le aQ, List.append_nil] at hb3;have HB3 := ng HB2 hg3 HB2.size (Nat.le_refl _);clear hg3 A2 HB2;go_wp2_with fail;refine oF rfl w.heap.size rfl hb3 _ underlying119 rfl bB rfl (.int .i64 5) rfl ?_;exact ⟨hx, rfl, HB3⟩
def Py (s : List UInt8) (a : Nat) : Except Int RR := match tE s a with
 | .error e => .error e
 | .ok (l, p) => match tE s p with
  | .error e => .error e
  | .ok (l', q) => if q + 20 = s.length then .ok { RR.zero with tg := l, ml := l', nums := yA s q } else .error 5
theorem Pz {g : Nat} {s : List UInt8} {a : Nat} {w w' : World} {e : Ending} (h : tW g s a w e w') : match Py s a with
  | .error x => x ≠ 0 /\ e = .returned (.int .i64 x) /\ w.grownBy w' (some g)
  | .ok r => ∃ v v', e = .returned (.int .i64 0) /\ nj w' g 119 (pO nA v v' r) /\ r.wf /\ r.name = [] /\ r.raw = [] /\ vo w' v r.tg /\ vo w' v' r.ml /\ w.grownBy w' (some g) := by
 unfold tW at h;unfold Py;cases h1 : tE s a with
 | error x => rw [h1] at h; exact h
 | ok y =>
  obtain ⟨l, p⟩ := y;rw [h1] at h;simp only at h ⊢;cases h2 : tE s p with
  | error x => rw [h2] at h; exact h
  | ok y =>
   obtain ⟨l', q⟩ := y;rw [h2] at h;simp only at h ⊢;by_cases hq : q + 20 = s.length
   ·rw [if_pos hq] at h ⊢;obtain ⟨v, v', h1, h2, h3, h4, h5⟩ := h;exact ⟨v, v', h1, h2, ⟨rfl, rfl⟩, rfl, rfl, h3, h4, h5⟩
   ·rw [if_neg hq] at h ⊢;exact ⟨aj, h.1, h.2⟩
set_option maxHeartbeats 1000000 in
theorem PA (m : List UInt8) (a n : Nat) (ty cl : Int) (w : World) (hm : a + n <= m.length) (hl : m.length <= 4000000) (hk : nX ty cl = 6) :
  Calls prog 251 #[.string (bs m), .int .i64 a, .int .i64 n, .int .i64 ty, .int .i64 cl] w (GZ (Py (m.take (a + n)) a) w) := by
 have K := Hh (fun w => oN ty cl w);rw [hk] at K;clear hk;have hl33 : pr.length = 33 := iY;have TG := Hh (fun g w hb => (JF g (m.take (a + n)) a w hb al al).mono (fun e w' h => Pz h));cases ho : Py (m.take (a + n)) a with
 | error x => rw [ho] at TG;clear ho;have k1 : (0 : Int) <= a := ak;have k2 : (0 : Int) <= n := ak;have k3 : (a : Int) <= m.length := ak;have k4 : (n : Int) <= (m.length : Int) - a := ak;have k5 : (a : Int) + n <= m.length := ak;have hs0 : ((a : Int) + n).toNat = a + n := ak;obtain ⟨z1, hz1⟩ : ∃ z1, z1 = w.alloc (.cells pr.toArray 119) := eE;obtain ⟨W, hW⟩ : ∃ W, W = z1.alloc (.cells pr.toArray 119) := eE;have B10 : nj W w.heap.size 119 pr := eH;have B12 : nj W (w.heap.size + 1) 119 pr := eI;have HB : Below w.heap.size w W := eF;have HW : Hid ((w.alloc (.cells #[.slice none 0 0, .int .i64 0, .int .i64 0, .int .i64 0, .int .i64 0, .int .u8 0, .int .u8 0, .int .u8 0, .int .u8 0, .int .u8 0, .int .u8 0, .int .u8 0, .int .u8 0, .int .u8 0, .int .u8 0, .int .u8 0, .int .u8 0, .int .u8 0, .int .u8 0, .int .u8 0, .int .u8 0, .int .i64 0, .slice none 0 0, .slice none 0 0, .int .i64 0, .int .i64 0, .int .i64 0, .int .i64 0, .int .i64 0, .int .i64 0, .int .i64 0, .int .i64 0, .string ⟨#[]⟩] 119)).alloc (.cells #[.slice none 0 0, .int .i64 0, .int .i64 0, .int .i64 0, .int .i64 0, .int .u8 0, .int .u8 0, .int .u8 0, .int .u8 0, .int .u8 0, .int .u8 0, .int .u8 0, .int .u8 0, .int .u8 0, .int .u8 0, .int .u8 0, .int .u8 0, .int .u8 0, .int .u8 0, .int .u8 0, .int .u8 0, .int .i64 0, .slice none 0 0, .slice none 0 0, .int .i64 0, .int .i64 0, .int .i64 0, .int .i64 0, .int .i64 0, .int .i64 0, .int .i64 0, .int .i64 0, .string ⟨#[]⟩] 119) = W) := Hh bu;have hWs : W.heap.size = w.heap.size + 1 + 1 := eV;clear hW hz1;go_enter func251, ntmps251;go_wp2_with fail;rw [HW.out];refine (K.out W).mono ?_;rintro _ w1 ⟨rfl, rfl⟩;clear K HW;go_wp2_with fail;refine (TG.out (w.heap.size + 1) W B12).mono ?_;rintro _ w2 ⟨hx, rfl, g2⟩;have hxz : (x != 0) = true := fS;have A2 := B10.grown g2 ag;have HB2 := ng HB g2 HB.size ak;clear B12 B10 HB TG g2;exact jN
 | ok r => rw [ho] at TG;clear ho;have k1 : (0 : Int) <= a := ak;have k2 : (0 : Int) <= n := ak;have k3 : (a : Int) <= m.length := ak;have k4 : (n : Int) <= (m.length : Int) - a := ak;have k5 : (a : Int) + n <= m.length := ak;have hs0 : ((a : Int) + n).toNat = a + n := ak;obtain ⟨z1, hz1⟩ : ∃ z1, z1 = w.alloc (.cells pr.toArray 119) := eE;obtain ⟨W, hW⟩ : ∃ W, W = z1.alloc (.cells pr.toArray 119) := eE;have B10 : nj W w.heap.size 119 pr := eH;have B12 : nj W (w.heap.size + 1) 119 pr := eI;have HB : Below w.heap.size w W := eF;have HW : Hid ((w.alloc (.cells #[.slice none 0 0, .int .i64 0, .int .i64 0, .int .i64 0, .int .i64 0, .int .u8 0, .int .u8 0, .int .u8 0, .int .u8 0, .int .u8 0, .int .u8 0, .int .u8 0, .int .u8 0, .int .u8 0, .int .u8 0, .int .u8 0, .int .u8 0, .int .u8 0, .int .u8 0, .int .u8 0, .int .u8 0, .int .i64 0, .slice none 0 0, .slice none 0 0, .int .i64 0, .int .i64 0, .int .i64 0, .int .i64 0, .int .i64 0, .int .i64 0, .int .i64 0, .int .i64 0, .string ⟨#[]⟩] 119)).alloc (.cells #[.slice none 0 0, .int .i64 0, .int .i64 0, .int .i64 0, .int .i64 0, .int .u8 0, .int .u8 0, .int .u8 0, .int .u8 0, .int .u8 0, .int .u8 0, .int .u8 0, .int .u8 0, .int .u8 0, .int .u8 0, .int .u8 0, .int .u8 0, .int .u8 0, .int .u8 0, .int .u8 0, .int .u8 0, .int .i64 0, .slice none 0 0, .slice none 0 0, .int .i64 0, .int .i64 0, .int .i64 0, .int .i64 0, .int .i64 0, .int .i64 0, .int .i64 0, .int .i64 0, .string ⟨#[]⟩] 119) = W) := Hh bu;have hWs : W.heap.size = w.heap.size + 1 + 1 := eV;clear hW hz1;go_enter func251, ntmps251;go_wp2_with fail;rw [HW.out];refine (K.out W).mono ?_;rintro _ w1 ⟨rfl, rfl⟩;clear K HW;go_wp2_with fail;refine (TG.out (w.heap.size + 1) W B12).mono ?_;rintro _ w2 ⟨v, v', rfl, B2, hwf, hrn, hrr, nv, nv', g2⟩;have A2 := B10.grown g2 ag;have HB2 := ng HB g2 HB.size ak;obtain ⟨L, hL⟩ : ∃ L, L = pO nA v v' r := eE;rw [<- hL] at B2;have ll : L.length = 33 := iF;have l1 : Hid (∀ v ∈ L, v.oneCell' = true) := Hh (by rw [hL]; exact qg rfl nv.one nv'.one);have OW : Hid (∀ w', nQ w2 w' -> rj w' L r) := Hh (fun w' hS => ⟨nA, v, v', hL, hwf, by rw [hrn]; exact vo.nil _, nv.stays hS, nv'.stays hS, by rw [hrr]; simp⟩);clear hL B12 B10 HB g2 TG nv nv' hwf hrn hrr;exact jD
theorem He (ty cl : Int) : nX ty cl = 1 \/ nX ty cl = 28 \/ nX ty cl = 5 \/ nX ty cl = 12 \/ nX ty cl = 33 \/ nX ty cl = 6 \/ nX ty cl = 0 := by
 unfold nX;split
 ·rename_i h; omega
 ·simp
theorem PB (m : List UInt8) (a n : Nat) (ty cl : Int) (w : World) (hm : a + n <= m.length) (hl : m.length <= 4000000) :
  Calls prog 251 #[.string (bs m), .int .i64 a, .int .i64 n, .int .i64 ty, .int .i64 cl] w (GZ (rJ m a n ty cl) w) := by
 have hd : ((m.take (a + n)).drop a).length = n := al;rcases He ty cl with h | h | h | h | h | h | h
 ·
  by_cases hn : n = 4
  ·
   have := Hb 1 4 (.inl ⟨rfl, rfl⟩) m a n ty cl w hm hl h (by rw [hn]; rfl);have e : rJ m a n ty cl = .ok (Gd 4 ((m.take (a + n)).drop a)) := by unfold rJ Gd; rw [if_pos h, if_pos hn, hd, hn]
   rw [e]; exact this
  ·
   have := yU 1 (.inl rfl) m a n ty cl w hm hl h (by simpa using hn);have e : rJ m a n ty cl = .error 5 := by unfold rJ; rw [if_pos h, if_neg hn]
   rw [e]; exact this
 ·
  have h1 : ¬ nX ty cl = 1 := ak;by_cases hn : n = 16
  ·
   have := Hb 28 6 (.inr ⟨rfl, rfl⟩) m a n ty cl w hm hl h (by rw [hn]; rfl);have e : rJ m a n ty cl = .ok (Gd 6 ((m.take (a + n)).drop a)) := by unfold rJ Gd; rw [if_neg h1, if_pos h, if_pos hn, hd, hn, Nat.sub_self, List.replicate_zero, List.append_nil]
   rw [e]; exact this
  ·
   have := yU 28 (.inr rfl) m a n ty cl w hm hl h (by simpa using hn);have e : rJ m a n ty cl = .error 5 := by unfold rJ; rw [if_neg h1, if_pos h, if_neg hn]
   rw [e]; exact this
 ·
  have := DI 5 (.inl rfl) m a n ty cl w hm hl h _ rfl;have e : rJ m a n ty cl = EX (fun l => { RR.zero with tg := l }) (qP (m.take (a + n)) a) := by unfold rJ; rw [if_neg ak, if_neg ak, if_pos (.inl h)]; cases qP (m.take (a + n)) a <;> rfl
  rw [e]; exact this
 ·
  have := DI 12 (.inr rfl) m a n ty cl w hm hl h _ rfl;have e : rJ m a n ty cl = EX (fun l => { RR.zero with tg := l }) (qP (m.take (a + n)) a) := by unfold rJ; rw [if_neg ak, if_neg ak, if_pos (.inr h)]; cases qP (m.take (a + n)) a <;> rfl
  rw [e]; exact this
 ·
  by_cases hn : n < 6
  ·
   have := Hc m a n ty cl w hm hl h hn;have e : rJ m a n ty cl = .error 5 := by unfold rJ; rw [if_neg ak, if_neg ak, if_neg ak, if_pos h, if_pos hn]
   rw [e]; exact this
  ·
   have := Px m a n ty cl w hm hl h ak _ rfl;have e : rJ m a n ty cl = EX (fun l => { RR.zero with pri := oE (((m.take (a + n)).drop a).take 2), we := oE ((((m.take (a + n)).drop a).drop 2).take 2), po := oE ((((m.take (a + n)).drop a).drop 4).take 2), tg := l }) (qP (m.take (a + n)) (a + 6)) := by unfold rJ; rw [if_neg ak, if_neg ak, if_neg ak, if_pos h, if_neg hn]; cases qP (m.take (a + n)) (a + 6) <;> rfl
   rw [e]; exact this
 ·
  have := PA m a n ty cl w hm hl h;have e : rJ m a n ty cl = Py (m.take (a + n)) a := by unfold rJ; rw [if_neg ak, if_neg ak, if_neg ak, if_neg ak, if_pos h]; rfl
  rw [e]; exact this
 ·
  have := Pw m a n ty cl w hm hl h;have e : rJ m a n ty cl = .ok { RR.zero with raw := (m.take (a + n)).drop a } := by unfold rJ; rw [if_neg ak, if_neg ak, if_neg ak, if_neg ak, if_neg ak]
  rw [e]; exact this
end Go.Proofs.YthnbcmlnpdabhaaGreat
